/- The reference's Mul, Div and Sqrt. -/
import Derived.Test.YtecgkhijiogggaaY4
namespace Go.Proofs.Ytecgkhijiogggaa
set_option linter.unusedVariables false
set_option linter.unusedSimpArgs false
open Go.RowKit Go.Shelf SF
set_option maxRecDepth 100000 in
set_option maxHeartbeats 2000000 in
theorem rMul_n1 (a b : Nat) (p q : Bool) (G1 : Hid (PB 70 a p)) (G2 : Hid (PB 70 b q)) (N1 : Hid (PB 71 a true)) (w : World) : Calls Try.prog 32 #[.int .u64 a, .int .u64 b] w fun e w' => e = .returned (.int .u64 (9221120237041090560)) ∧ Below w.heap.size w w' := by
  go_enter Try.func32, Try.ntmps32
  go_wp2_with (first
    | (go_at_call 70; (with_reducible refine (G1.out _).mono ?_); rintro e1 w1 ⟨rfl, rfl⟩)
    | (go_at_call 70; (with_reducible refine (G2.out _).mono ?_); rintro e1 w1 ⟨rfl, rfl⟩)
    | (go_at_call 71; (with_reducible refine (N1.out _).mono ?_); rintro e1 w1 ⟨rfl, rfl⟩))
  go_ret
  exact ⟨rfl, Below.refl _ _⟩
set_option maxRecDepth 100000 in
set_option maxHeartbeats 2000000 in
theorem rMul_n2 (a b : Nat) (p q : Bool) (G1 : Hid (PB 70 a p)) (G2 : Hid (PB 70 b q)) (N1 : Hid (PB 71 a false)) (N2 : Hid (PB 71 b true)) (w : World) : Calls Try.prog 32 #[.int .u64 a, .int .u64 b] w fun e w' => e = .returned (.int .u64 (9221120237041090560)) ∧ Below w.heap.size w w' := by
  go_enter Try.func32, Try.ntmps32
  go_wp2_with (first
    | (go_at_call 70; (with_reducible refine (G1.out _).mono ?_); rintro e1 w1 ⟨rfl, rfl⟩)
    | (go_at_call 70; (with_reducible refine (G2.out _).mono ?_); rintro e1 w1 ⟨rfl, rfl⟩)
    | (go_at_call 71; (with_reducible refine (N1.out _).mono ?_); rintro e1 w1 ⟨rfl, rfl⟩)
    | (go_at_call 71; (with_reducible refine (N2.out _).mono ?_); rintro e1 w1 ⟨rfl, rfl⟩))
  go_ret
  exact ⟨rfl, Below.refl _ _⟩
set_option maxRecDepth 100000 in
set_option maxHeartbeats 2000000 in
theorem rMul_iz (a b : Nat) (p q : Bool) (G1 : Hid (PB 70 a p)) (G2 : Hid (PB 70 b q)) (N1 : Hid (PB 71 a false)) (N2 : Hid (PB 71 b false)) (I1 : Hid (PB 72 a true)) (Z2 : Hid (PB 73 b true)) (w : World) : Calls Try.prog 32 #[.int .u64 a, .int .u64 b] w fun e w' => e = .returned (.int .u64 (9221120237041090560)) ∧ Below w.heap.size w w' := by
  go_enter Try.func32, Try.ntmps32
  go_wp2_with (first
    | (go_at_call 70; (with_reducible refine (G1.out _).mono ?_); rintro e1 w1 ⟨rfl, rfl⟩)
    | (go_at_call 70; (with_reducible refine (G2.out _).mono ?_); rintro e1 w1 ⟨rfl, rfl⟩)
    | (go_at_call 71; (with_reducible refine (N1.out _).mono ?_); rintro e1 w1 ⟨rfl, rfl⟩)
    | (go_at_call 71; (with_reducible refine (N2.out _).mono ?_); rintro e1 w1 ⟨rfl, rfl⟩)
    | (go_at_call 72; (with_reducible refine (I1.out _).mono ?_); rintro e1 w1 ⟨rfl, rfl⟩)
    | (go_at_call 73; (with_reducible refine (Z2.out _).mono ?_); rintro e1 w1 ⟨rfl, rfl⟩))
  go_ret
  exact ⟨rfl, Below.refl _ _⟩
set_option maxRecDepth 100000 in
set_option maxHeartbeats 2000000 in
theorem rMul_zi (a b : Nat) (p q : Bool) (G1 : Hid (PB 70 a p)) (G2 : Hid (PB 70 b q)) (N1 : Hid (PB 71 a false)) (N2 : Hid (PB 71 b false)) (I1 : Hid (PB 72 a false)) (Z1 : Hid (PB 73 a true)) (I2 : Hid (PB 72 b true)) (w : World) : Calls Try.prog 32 #[.int .u64 a, .int .u64 b] w fun e w' => e = .returned (.int .u64 (9221120237041090560)) ∧ Below w.heap.size w w' := by
  go_enter Try.func32, Try.ntmps32
  go_wp2_with (first
    | (go_at_call 70; (with_reducible refine (G1.out _).mono ?_); rintro e1 w1 ⟨rfl, rfl⟩)
    | (go_at_call 70; (with_reducible refine (G2.out _).mono ?_); rintro e1 w1 ⟨rfl, rfl⟩)
    | (go_at_call 71; (with_reducible refine (N1.out _).mono ?_); rintro e1 w1 ⟨rfl, rfl⟩)
    | (go_at_call 71; (with_reducible refine (N2.out _).mono ?_); rintro e1 w1 ⟨rfl, rfl⟩)
    | (go_at_call 72; (with_reducible refine (I1.out _).mono ?_); rintro e1 w1 ⟨rfl, rfl⟩)
    | (go_at_call 73; (with_reducible refine (Z1.out _).mono ?_); rintro e1 w1 ⟨rfl, rfl⟩)
    | (go_at_call 72; (with_reducible refine (I2.out _).mono ?_); rintro e1 w1 ⟨rfl, rfl⟩))
  go_ret
  exact ⟨rfl, Below.refl _ _⟩
set_option maxRecDepth 100000 in
set_option maxHeartbeats 2000000 in
theorem rMul_i1 (a b : Nat) (p q : Bool) (R : Int) (SG : Hid (∀ w, Calls Try.prog 74 #[.bool (!(p == q)), .int .u64 9218868437227405312] w fun e w' => e = .returned (.int .u64 R) ∧ w = w')) (G1 : Hid (PB 70 a p)) (G2 : Hid (PB 70 b q)) (N1 : Hid (PB 71 a false)) (N2 : Hid (PB 71 b false)) (I1 : Hid (PB 72 a true)) (Z2 : Hid (PB 73 b false)) (Z1 : Hid (PB 73 a false)) (w : World) : Calls Try.prog 32 #[.int .u64 a, .int .u64 b] w fun e w' => e = .returned (.int .u64 (R)) ∧ Below w.heap.size w w' := by
  go_enter Try.func32, Try.ntmps32
  go_wp2_with (first
    | (go_at_call 70; (with_reducible refine (G1.out _).mono ?_); rintro e1 w1 ⟨rfl, rfl⟩)
    | (go_at_call 70; (with_reducible refine (G2.out _).mono ?_); rintro e1 w1 ⟨rfl, rfl⟩)
    | (go_at_call 71; (with_reducible refine (N1.out _).mono ?_); rintro e1 w1 ⟨rfl, rfl⟩)
    | (go_at_call 71; (with_reducible refine (N2.out _).mono ?_); rintro e1 w1 ⟨rfl, rfl⟩)
    | (go_at_call 72; (with_reducible refine (I1.out _).mono ?_); rintro e1 w1 ⟨rfl, rfl⟩)
    | (go_at_call 73; (with_reducible refine (Z2.out _).mono ?_); rintro e1 w1 ⟨rfl, rfl⟩)
    | (go_at_call 73; (with_reducible refine (Z1.out _).mono ?_); rintro e1 w1 ⟨rfl, rfl⟩)
    | (go_at_call 74; (with_reducible refine (SG.out _).mono ?_); rintro e1 w1 ⟨rfl, rfl⟩))
  go_ret
  exact ⟨rfl, Below.refl _ _⟩
set_option maxRecDepth 100000 in
set_option maxHeartbeats 2000000 in
theorem rMul_i2 (a b : Nat) (p q : Bool) (R : Int) (SG : Hid (∀ w, Calls Try.prog 74 #[.bool (!(p == q)), .int .u64 9218868437227405312] w fun e w' => e = .returned (.int .u64 R) ∧ w = w')) (G1 : Hid (PB 70 a p)) (G2 : Hid (PB 70 b q)) (N1 : Hid (PB 71 a false)) (N2 : Hid (PB 71 b false)) (I1 : Hid (PB 72 a false)) (Z1 : Hid (PB 73 a false)) (I2 : Hid (PB 72 b true)) (w : World) : Calls Try.prog 32 #[.int .u64 a, .int .u64 b] w fun e w' => e = .returned (.int .u64 (R)) ∧ Below w.heap.size w w' := by
  go_enter Try.func32, Try.ntmps32
  go_wp2_with (first
    | (go_at_call 70; (with_reducible refine (G1.out _).mono ?_); rintro e1 w1 ⟨rfl, rfl⟩)
    | (go_at_call 70; (with_reducible refine (G2.out _).mono ?_); rintro e1 w1 ⟨rfl, rfl⟩)
    | (go_at_call 71; (with_reducible refine (N1.out _).mono ?_); rintro e1 w1 ⟨rfl, rfl⟩)
    | (go_at_call 71; (with_reducible refine (N2.out _).mono ?_); rintro e1 w1 ⟨rfl, rfl⟩)
    | (go_at_call 72; (with_reducible refine (I1.out _).mono ?_); rintro e1 w1 ⟨rfl, rfl⟩)
    | (go_at_call 73; (with_reducible refine (Z1.out _).mono ?_); rintro e1 w1 ⟨rfl, rfl⟩)
    | (go_at_call 72; (with_reducible refine (I2.out _).mono ?_); rintro e1 w1 ⟨rfl, rfl⟩)
    | (go_at_call 74; (with_reducible refine (SG.out _).mono ?_); rintro e1 w1 ⟨rfl, rfl⟩))
  go_ret
  exact ⟨rfl, Below.refl _ _⟩
set_option maxRecDepth 100000 in
set_option maxHeartbeats 2000000 in
theorem rMul_f0 (a b : Nat) (p q : Bool) (A B D : Nat) (ea eb R : Int) (be : -1074 ≤ ea ∧ ea ≤ 971 ∧ -1074 ≤ eb ∧ eb ≤ 971) (p' q' : Bool) (SA : Hid (∀ w, Calls Try.prog 60 #[.int .u64 a] w (Sp w p' A ea))) (SB : Hid (∀ w, Calls Try.prog 60 #[.int .u64 b] w (Sp w q' B eb))) (HX : Hid (∀ (w1 : World) (a1 : Option Addr) (n1 c1 : Nat) (a2 : Option Addr) (n2 c2 : Nat), Nw w1 (.slice a1 n1 c1) (A) → Nw w1 (.slice a2 n2 c2) (B) → Calls Try.prog 80 #[.slice a1 n1 c1, .slice a2 n2 c2] w1 (OneOk w1 D))) (HM : Hid (∀ (w1 : World) (a1 : Option Addr) (n1 c1 : Nat), Nw w1 (.slice a1 n1 c1) (D) → Calls Try.prog 58 #[.bool (!(p == q)), .slice a1 n1 c1, .int .i64 (ea + eb)] w1 fun e w' => e = .returned (.int .u64 R) ∧ Below w1.heap.size w1 w')) (G1 : Hid (PB 70 a p)) (G2 : Hid (PB 70 b q)) (N1 : Hid (PB 71 a false)) (N2 : Hid (PB 71 b false)) (I1 : Hid (PB 72 a false)) (I2 : Hid (PB 72 b false)) (Z1 : Hid (PB 73 a false)) (w : World) : Calls Try.prog 32 #[.int .u64 a, .int .u64 b] w fun e w' => e = .returned (.int .u64 (R)) ∧ Below w.heap.size w w' := by
  go_enter Try.func32, Try.ntmps32
  go_wp2_with (first
    | (go_at_call 70; (with_reducible refine (G1.out _).mono ?_); rintro e1 w1 ⟨rfl, rfl⟩)
    | (go_at_call 70; (with_reducible refine (G2.out _).mono ?_); rintro e1 w1 ⟨rfl, rfl⟩)
    | (go_at_call 71; (with_reducible refine (N1.out _).mono ?_); rintro e1 w1 ⟨rfl, rfl⟩)
    | (go_at_call 71; (with_reducible refine (N2.out _).mono ?_); rintro e1 w1 ⟨rfl, rfl⟩)
    | (go_at_call 72; (with_reducible refine (I1.out _).mono ?_); rintro e1 w1 ⟨rfl, rfl⟩)
    | (go_at_call 72; (with_reducible refine (I2.out _).mono ?_); rintro e1 w1 ⟨rfl, rfl⟩)
    | (go_at_call 73; (with_reducible refine (Z1.out _).mono ?_); rintro e1 w1 ⟨rfl, rfl⟩)
    | (go_at_call 60; (with_reducible refine (SA.out _).mono ?_); rintro e1 w1 ⟨a1, n1, c1, rfl, hv1, hb1⟩)
    | (go_at_call 60; (with_reducible refine (SB.out _).mono ?_); rintro e2 w2 ⟨a2, n2, c2, rfl, hv2, hb2⟩)
    | (go_at_call 80; (with_reducible refine (HX.out _ _ _ _ _ _ _ (hv1.below hb2) hv2).mono ?_); rintro e3 w3 ⟨a3, n3, c3, rfl, hv3, hb3⟩)
    | (go_at_call 58; (with_reducible refine (HM.out _ _ _ _ hv3).mono ?_); rintro e4 w4 ⟨rfl, hb4⟩))
  go_ret
  exact ⟨rfl, btn hb1 (btn hb2 (btn hb3 hb4))⟩
set_option maxRecDepth 100000 in
set_option maxHeartbeats 2000000 in
theorem rMul_f1 (a b : Nat) (p q : Bool) (A B D : Nat) (ea eb R : Int) (be : -1074 ≤ ea ∧ ea ≤ 971 ∧ -1074 ≤ eb ∧ eb ≤ 971) (p' q' : Bool) (SA : Hid (∀ w, Calls Try.prog 60 #[.int .u64 a] w (Sp w p' A ea))) (SB : Hid (∀ w, Calls Try.prog 60 #[.int .u64 b] w (Sp w q' B eb))) (HX : Hid (∀ (w1 : World) (a1 : Option Addr) (n1 c1 : Nat) (a2 : Option Addr) (n2 c2 : Nat), Nw w1 (.slice a1 n1 c1) (A) → Nw w1 (.slice a2 n2 c2) (B) → Calls Try.prog 80 #[.slice a1 n1 c1, .slice a2 n2 c2] w1 (OneOk w1 D))) (HM : Hid (∀ (w1 : World) (a1 : Option Addr) (n1 c1 : Nat), Nw w1 (.slice a1 n1 c1) (D) → Calls Try.prog 58 #[.bool (!(p == q)), .slice a1 n1 c1, .int .i64 (ea + eb)] w1 fun e w' => e = .returned (.int .u64 R) ∧ Below w1.heap.size w1 w')) (G1 : Hid (PB 70 a p)) (G2 : Hid (PB 70 b q)) (N1 : Hid (PB 71 a false)) (N2 : Hid (PB 71 b false)) (I1 : Hid (PB 72 a false)) (I2 : Hid (PB 72 b false)) (Z1 : Hid (PB 73 a true)) (w : World) : Calls Try.prog 32 #[.int .u64 a, .int .u64 b] w fun e w' => e = .returned (.int .u64 (R)) ∧ Below w.heap.size w w' := by
  go_enter Try.func32, Try.ntmps32
  go_wp2_with (first
    | (go_at_call 70; (with_reducible refine (G1.out _).mono ?_); rintro e1 w1 ⟨rfl, rfl⟩)
    | (go_at_call 70; (with_reducible refine (G2.out _).mono ?_); rintro e1 w1 ⟨rfl, rfl⟩)
    | (go_at_call 71; (with_reducible refine (N1.out _).mono ?_); rintro e1 w1 ⟨rfl, rfl⟩)
    | (go_at_call 71; (with_reducible refine (N2.out _).mono ?_); rintro e1 w1 ⟨rfl, rfl⟩)
    | (go_at_call 72; (with_reducible refine (I1.out _).mono ?_); rintro e1 w1 ⟨rfl, rfl⟩)
    | (go_at_call 72; (with_reducible refine (I2.out _).mono ?_); rintro e1 w1 ⟨rfl, rfl⟩)
    | (go_at_call 73; (with_reducible refine (Z1.out _).mono ?_); rintro e1 w1 ⟨rfl, rfl⟩)
    | (go_at_call 60; (with_reducible refine (SA.out _).mono ?_); rintro e1 w1 ⟨a1, n1, c1, rfl, hv1, hb1⟩)
    | (go_at_call 60; (with_reducible refine (SB.out _).mono ?_); rintro e2 w2 ⟨a2, n2, c2, rfl, hv2, hb2⟩)
    | (go_at_call 80; (with_reducible refine (HX.out _ _ _ _ _ _ _ (hv1.below hb2) hv2).mono ?_); rintro e3 w3 ⟨a3, n3, c3, rfl, hv3, hb3⟩)
    | (go_at_call 58; (with_reducible refine (HM.out _ _ _ _ hv3).mono ?_); rintro e4 w4 ⟨rfl, hb4⟩))
  go_ret
  exact ⟨rfl, btn hb1 (btn hb2 (btn hb3 hb4))⟩
theorem rMul_c (a b : Nat) (ha : W a) (hb : W b) (w : World) : Calls Try.prog 32 #[.int .u64 a, .int .u64 b] w fun e w' => e = .returned (.int .u64 ((mulV a b : Nat) : Int)) ∧ Below w.heap.size w w' := by
  have N1 := Lib.hid (risnan_c a ha)
  have N2 := Lib.hid (risnan_c b hb)
  have I1 := Lib.hid (risinf_c a ha)
  have I2 := Lib.hid (risinf_c b hb)
  have Z1 := Lib.hid (riszero_c a ha)
  have Z2 := Lib.hid (riszero_c b hb)
  have G1 := Lib.hid (rminus_c a ha)
  have G2 := Lib.hid (rminus_c b hb)
  have SG := Lib.hid (rsigned_c 9218868437227405312 (ng a != ng b) (by decide))
  by_cases n1 : nan a = true
  · rw [show mulV a b = NaN by simp [mulV, n1]]; rw [n1] at N1; exact rMul_n1 a b _ _ G1 G2 N1 w
  have n1 := Bool.eq_false_iff.2 n1; rw [n1] at N1
  by_cases n2 : nan b = true
  · rw [show mulV a b = NaN by simp [mulV, n1, n2]]; rw [n2] at N2; exact rMul_n2 a b _ _ G1 G2 N1 N2 w
  have n2 := Bool.eq_false_iff.2 n2; rw [n2] at N2
  by_cases i1 : inf a = true
  · have z1 := inf_zer i1
    rw [i1] at I1; rw [z1] at Z1
    by_cases z2 : zer b = true
    · rw [show mulV a b = NaN by simp [mulV, n1, n2, i1, z2]]; rw [z2] at Z2; exact rMul_iz a b _ _ G1 G2 N1 N2 I1 Z2 w
    · have z2 := Bool.eq_false_iff.2 z2; rw [z2] at Z2
      rw [show mulV a b = sg (ng a != ng b) Inf by simp [mulV, n1, n2, i1, z1, z2]]
      exact rMul_i1 a b _ _ _ SG G1 G2 N1 N2 I1 Z2 Z1 w
  have i1 := Bool.eq_false_iff.2 i1; rw [i1] at I1
  by_cases i2 : inf b = true
  · rw [i2] at I2
    by_cases z1 : zer a = true
    · rw [show mulV a b = NaN by simp [mulV, n1, n2, i1, i2, z1]]; rw [z1] at Z1; exact rMul_zi a b _ _ G1 G2 N1 N2 I1 Z1 I2 w
    · have z1 := Bool.eq_false_iff.2 z1; rw [z1] at Z1
      rw [show mulV a b = sg (ng a != ng b) Inf by simp [mulV, n1, n2, i1, i2, z1]]
      exact rMul_i2 a b _ _ _ SG G1 G2 N1 N2 I1 Z1 I2 w
  have i2 := Bool.eq_false_iff.2 i2; rw [i2] at I2
  have be : -1074 ≤ se a ∧ se a ≤ 971 ∧ -1074 ≤ se b ∧ se b ≤ 971 := ⟨se_ge a, se_le n1 i1, se_ge b, se_le n2 i2⟩
  have SA := Lib.hid (fun w => rsplit_c a ha n1 i1 w)
  have SB := Lib.hid (fun w => rsplit_c b hb n2 i2 w)
  have ba := bl_sm a
  have bb := bl_sm b
  have bm := bl_mulb ba bb
  have HX := Lib.hid (fun (w1 : World) (a1 : Option Addr) (n1 c1 : Nat) (a2 : Option Addr) (n2 c2 : Nat) (h1 : Nw w1 (.slice a1 n1 c1) (sm a)) (h2 : Nw w1 (.slice a2 n2 c2) (sm b)) => rmul_n h1 h2 (by omega))
  have HM := Lib.hid (fun (w1 : World) (a1 : Option Addr) (n1 c1 : Nat) (h : Nw w1 (.slice a1 n1 c1) (sm a * sm b)) => rmake_n (ng a != ng b) h (by omega) (se a + se b) (by omega))
  rw [show mulV a b = mulF a b by simp [mulV, n1, n2, i1, i2]]
  obtain ⟨z, hz⟩ : ∃ z, zer a = z := ⟨_, rfl⟩
  rw [hz] at Z1
  cases z
  · exact rMul_f0 a b _ _ _ _ _ _ _ _ be _ _ SA SB HX HM G1 G2 N1 N2 I1 I2 Z1 w
  · exact rMul_f1 a b _ _ _ _ _ _ _ _ be _ _ SA SB HX HM G1 G2 N1 N2 I1 I2 Z1 w
set_option maxRecDepth 100000 in
set_option maxHeartbeats 2000000 in
theorem rquo_0 (g : Bool) (A B X C : Nat) (la lb e k R : Int) (hk : 70 + lb - la = k) (hk0 : 0 ≤ k ∧ k ≤ 200) (bl : 0 ≤ la ∧ la ≤ 100 ∧ 0 ≤ lb ∧ lb ≤ 100) (be : -10000 ≤ e ∧ e ≤ 10000) (x : Option Addr) (n c : Nat) (y : Option Addr) (m d : Nat) (M2 : Nat) (hM2 : M2 ≠ 0) (w : World) (HB1 : Hid (∀ w1, Below w.heap.size w w1 → Calls Try.prog 77 #[.slice y m d] w1 fun e w' => e = .returned (.int .i64 lb) ∧ w1 = w')) (HB2 : Hid (∀ w1, Below w.heap.size w w1 → Calls Try.prog 77 #[.slice x n c] w1 fun e w' => e = .returned (.int .i64 la) ∧ w1 = w')) (HY : Hid (Nw w (.slice y m d) B)) (HS : Hid (Calls Try.prog 78 #[.slice x n c, .int .i64 k] w (OneOk w X))) (HD : Hid (∀ (w1 : World) (a1 : Option Addr) (n1 c1 : Nat) (a2 : Option Addr) (n2 c2 : Nat), Nw w1 (.slice a1 n1 c1) (X) → Nw w1 (.slice a2 n2 c2) (B) → Calls Try.prog 109 #[.slice a1 n1 c1, .slice a2 n2 c2] w1 (Two3 w1 C M2))) (HS1 : Hid (∀ (w1 : World) (a1 : Option Addr) (n1 c1 : Nat), Nw w1 (.slice a1 n1 c1) (C) → Calls Try.prog 78 #[.slice a1 n1 c1, .int .i64 (1)] w1 (OneOk w1 (C * 2)))) (HOf : Hid (∀ w1, Calls Try.prog 83 #[.int .u64 1] w1 (One w1 1))) (HA : Hid (∀ (w1 : World) (a1 : Option Addr) (n1 c1 : Nat) (a2 : Option Addr) (n2 c2 : Nat), Nw w1 (.slice a1 n1 c1) (C * 2) → Nw w1 (.slice a2 n2 c2) (1) → Calls Try.prog 82 #[.slice a1 n1 c1, .slice a2 n2 c2] w1 (One w1 (C * 2 + 1)))) (HM : Hid (∀ (w1 : World) (a1 : Option Addr) (n1 c1 : Nat), Nw w1 (.slice a1 n1 c1) (C * 2 + 1) → Calls Try.prog 58 #[.bool (g), .slice a1 n1 c1, .int .i64 (e - k - 1)] w1 fun e w' => e = .returned (.int .u64 R) ∧ Below w1.heap.size w1 w'))  : Calls Try.prog 75 #[.bool g, .slice x n c, .slice y m d, .int .i64 e] w fun e w' => e = .returned (.int .u64 R) ∧ Below w.heap.size w w' := by
  have H0 := Lib.hid hM2
  clear hM2
  go_enter Try.func75, Try.ntmps75
  go_wp2_with (first
    | (go_at_call 77; (with_reducible refine (HB1.out _ (Below.refl _ _)).mono ?_); rintro e1 w9 ⟨rfl, rfl⟩)
    | (go_at_call 77; (with_reducible refine (HB2.out _ (Below.refl _ _)).mono ?_); rintro e1 w9 ⟨rfl, rfl⟩)
    | (go_at_call 78; (with_reducible refine (HS.out).mono ?_); rintro e1 w1 ⟨a1, n1, c1, rfl, hv1, hb1⟩)
    | (go_at_call 109; (with_reducible refine (HD.out _ _ _ _ _ _ _ hv1 (HY.out.below hb1)).mono ?_); rintro e2 w2 ⟨a2, n2, c2, a3, n3, c3, rfl, hv2, hv3, hb2⟩; have hl3 := hv3.lenp H0.out)
    | (go_at_call 78; (with_reducible refine (HS1.out _ _ _ _ hv2).mono ?_); rintro e3 w3 ⟨a4, n4, c4, rfl, hv4, hb3⟩)
    | (go_at_call 83; (with_reducible refine (HOf.out _).mono ?_); rintro e4 w4 ⟨a5, n5, c5, rfl, hv5, hb4⟩)
    | (go_at_call 82; (with_reducible refine (HA.out _ _ _ _ _ _ _ (hv4.below hb4) hv5).mono ?_); rintro e5 w5 ⟨a6, n6, c6, rfl, hv6, hb5⟩)
    | (go_at_call 58; (with_reducible refine (HM.out _ _ _ _ hv6).mono ?_); rintro e6 w6 ⟨rfl, hb6⟩))
  go_ret
  exact ⟨rfl, btn hb1 (btn hb2 (btn hb3 (btn hb4 (btn hb5 hb6))))⟩
set_option maxRecDepth 100000 in
set_option maxHeartbeats 2000000 in
theorem rquo_1 (g : Bool) (A B X C : Nat) (la lb e k R : Int) (hk : 70 + lb - la = k) (hk0 : 0 ≤ k ∧ k ≤ 200) (bl : 0 ≤ la ∧ la ≤ 100 ∧ 0 ≤ lb ∧ lb ≤ 100) (be : -10000 ≤ e ∧ e ≤ 10000) (x : Option Addr) (n c : Nat) (y : Option Addr) (m d : Nat) (M2 : Nat) (hM2 : M2 = 0) (w : World) (HB1 : Hid (∀ w1, Below w.heap.size w w1 → Calls Try.prog 77 #[.slice y m d] w1 fun e w' => e = .returned (.int .i64 lb) ∧ w1 = w')) (HB2 : Hid (∀ w1, Below w.heap.size w w1 → Calls Try.prog 77 #[.slice x n c] w1 fun e w' => e = .returned (.int .i64 la) ∧ w1 = w')) (HY : Hid (Nw w (.slice y m d) B)) (HS : Hid (Calls Try.prog 78 #[.slice x n c, .int .i64 k] w (OneOk w X))) (HD : Hid (∀ (w1 : World) (a1 : Option Addr) (n1 c1 : Nat) (a2 : Option Addr) (n2 c2 : Nat), Nw w1 (.slice a1 n1 c1) (X) → Nw w1 (.slice a2 n2 c2) (B) → Calls Try.prog 109 #[.slice a1 n1 c1, .slice a2 n2 c2] w1 (Two3 w1 C M2))) (HS1 : Hid (∀ (w1 : World) (a1 : Option Addr) (n1 c1 : Nat), Nw w1 (.slice a1 n1 c1) (C) → Calls Try.prog 78 #[.slice a1 n1 c1, .int .i64 (1)] w1 (OneOk w1 (C * 2)))) (HOf : Hid (∀ w1, Calls Try.prog 83 #[.int .u64 1] w1 (One w1 1))) (HM : Hid (∀ (w1 : World) (a1 : Option Addr) (n1 c1 : Nat), Nw w1 (.slice a1 n1 c1) (C * 2) → Calls Try.prog 58 #[.bool (g), .slice a1 n1 c1, .int .i64 (e - k - 1)] w1 fun e w' => e = .returned (.int .u64 R) ∧ Below w1.heap.size w1 w'))  : Calls Try.prog 75 #[.bool g, .slice x n c, .slice y m d, .int .i64 e] w fun e w' => e = .returned (.int .u64 R) ∧ Below w.heap.size w w' := by
  subst hM2
  go_enter Try.func75, Try.ntmps75
  go_wp2_with (first
    | (go_at_call 77; (with_reducible refine (HB1.out _ (Below.refl _ _)).mono ?_); rintro e1 w9 ⟨rfl, rfl⟩)
    | (go_at_call 77; (with_reducible refine (HB2.out _ (Below.refl _ _)).mono ?_); rintro e1 w9 ⟨rfl, rfl⟩)
    | (go_at_call 78; (with_reducible refine (HS.out).mono ?_); rintro e1 w1 ⟨a1, n1, c1, rfl, hv1, hb1⟩)
    | (go_at_call 109; (with_reducible refine (HD.out _ _ _ _ _ _ _ hv1 (HY.out.below hb1)).mono ?_); rintro e2 w2 ⟨a2, n2, c2, a3, n3, c3, rfl, hv2, hv3, hb2⟩; obtain rfl := hv3.len0)
    | (go_at_call 78; (with_reducible refine (HS1.out _ _ _ _ hv2).mono ?_); rintro e3 w3 ⟨a4, n4, c4, rfl, hv4, hb3⟩)
    | (go_at_call 58; (with_reducible refine (HM.out _ _ _ _ hv4).mono ?_); rintro e6 w6 ⟨rfl, hb6⟩))
  go_ret
  exact ⟨rfl, btn hb1 (btn hb2 (btn hb3 hb6))⟩
theorem rquo_c (g : Bool) {A B : Nat} (hA0 : A ≠ 0) (hB0 : B ≠ 0) (hA : bl A ≤ 53) (hB : bl B ≤ 53) (e : Int) (be : -10000 ≤ e ∧ e ≤ 10000) {x y : Option Addr} {n c m d : Nat} {w : World} (hx : Nw w (.slice x n c) A) (hy : Nw w (.slice y m d) B) :
    Calls Try.prog 75 #[.bool g, .slice x n c, .slice y m d, .int .i64 e] w fun z w' => z = .returned (.int .u64 ((sg g (quoV A B e) : Nat) : Int)) ∧ Below w.heap.size w w' := by
  have pa := bl_pos hA0
  have pb := bl_pos hB0
  obtain ⟨k, hk⟩ : ∃ k : Nat, k = 70 + bl B - bl A := ⟨_, rfl⟩
  rw [quoV_eq A B e k hk]
  have hx1 := bl_shl A k
  have hq : A * 2 ^ k / B ≤ A * 2 ^ k := Nat.div_le_self _ _
  have bq := bl_mono hq
  have bq2 : bl (A * 2 ^ k / B * 2) ≤ 400 := Nat.le_trans (by have := bl_shl (A * 2 ^ k / B) 1; rw [Nat.pow_one] at this; exact this) (by omega)
  have b1 : bl 1 = 1 := by decide
  have bq3 : bl (A * 2 ^ k / B * 2 + 1) ≤ 401 := bl_addb bq2 (by omega)
  have HB1 := Lib.hid (fun (w1 : World) (hb : Below w.heap.size w w1) => rbits_n (hy.below hb) (by omega))
  have HB2 := Lib.hid (fun (w1 : World) (hb : Below w.heap.size w w1) => rbits_n (hx.below hb) (by omega))
  have HS := Lib.hid (rshl_n k hx (by omega))
  have HD := Lib.hid (fun (w1 : World) (a1 : Option Addr) (n1 c1 : Nat) (a2 : Option Addr) (n2 c2 : Nat) (h1 : Nw w1 (.slice a1 n1 c1) (A * 2 ^ k)) (h2 : Nw w1 (.slice a2 n2 c2) B) => rdiv_n h1 (by omega) h2 (by omega) hB0)
  have HS1 : Hid (∀ (w1 : World) (a1 : Option Addr) (n1 c1 : Nat), Nw w1 (.slice a1 n1 c1) (A * 2 ^ k / B) → Calls Try.prog 78 #[.slice a1 n1 c1, .int .i64 1] w1 (OneOk w1 (A * 2 ^ k / B * 2))) := fun w1 a1 n1 c1 h => by
    have := rshl_n 1 h (by omega)
    rw [Nat.pow_one] at this; exact this
  have HOf : Hid (∀ w1, Calls Try.prog 83 #[.int .u64 1] w1 (One w1 1)) := fun w1 => rof_n 1 w1 (W_of (by decide))
  have HA := Lib.hid (fun (w1 : World) (a1 : Option Addr) (n1 c1 : Nat) (a2 : Option Addr) (n2 c2 : Nat) (h1 : Nw w1 (.slice a1 n1 c1) (A * 2 ^ k / B * 2)) (h2 : Nw w1 (.slice a2 n2 c2) 1) => radd_n h1 (by omega) h2 (by omega))
  have hkk : 70 + (bl B : Int) - (bl A : Int) = (k : Int) := by omega
  by_cases r0 : A * 2 ^ k % B = 0
  · have HM := Lib.hid (fun (w1 : World) (a1 : Option Addr) (n1 c1 : Nat) (h : Nw w1 (.slice a1 n1 c1) (A * 2 ^ k / B * 2)) => rmake_n g h (by omega) (e - (k : Int) - 1) (by omega))
    rw [if_neg (by rw [r0]; exact fun h => h rfl), Nat.add_zero, Nat.mul_comm 2]
    exact rquo_1 g A B _ _ _ _ e _ _ hkk (by omega) (by omega) be x n c y m d _ r0 w HB1 HB2 (Lib.hid hy) HS HD HS1 HOf HM
  · have HM := Lib.hid (fun (w1 : World) (a1 : Option Addr) (n1 c1 : Nat) (h : Nw w1 (.slice a1 n1 c1) (A * 2 ^ k / B * 2 + 1)) => rmake_n g h (by omega) (e - (k : Int) - 1) (by omega))
    rw [if_pos r0, Nat.mul_comm 2]
    exact rquo_0 g A B _ _ _ _ e _ _ hkk (by omega) (by omega) be x n c y m d _ r0 w HB1 HB2 (Lib.hid hy) HS HD HS1 HOf HA HM
set_option maxRecDepth 100000 in
set_option maxHeartbeats 2000000 in
theorem rDiv_n1 (a b : Nat) (p q : Bool) (G1 : Hid (PB 70 a p)) (G2 : Hid (PB 70 b q)) (N1 : Hid (PB 71 a true)) (w : World) : Calls Try.prog 19 #[.int .u64 a, .int .u64 b] w fun e w' => e = .returned (.int .u64 (9221120237041090560)) ∧ Below w.heap.size w w' := by
  go_enter Try.func19, Try.ntmps19
  go_wp2_with (first
    | (go_at_call 70; (with_reducible refine (G1.out _).mono ?_); rintro e1 w1 ⟨rfl, rfl⟩)
    | (go_at_call 70; (with_reducible refine (G2.out _).mono ?_); rintro e1 w1 ⟨rfl, rfl⟩)
    | (go_at_call 71; (with_reducible refine (N1.out _).mono ?_); rintro e1 w1 ⟨rfl, rfl⟩))
  go_ret
  exact ⟨rfl, Below.refl _ _⟩
set_option maxRecDepth 100000 in
set_option maxHeartbeats 2000000 in
theorem rDiv_n2 (a b : Nat) (p q : Bool) (G1 : Hid (PB 70 a p)) (G2 : Hid (PB 70 b q)) (N1 : Hid (PB 71 a false)) (N2 : Hid (PB 71 b true)) (w : World) : Calls Try.prog 19 #[.int .u64 a, .int .u64 b] w fun e w' => e = .returned (.int .u64 (9221120237041090560)) ∧ Below w.heap.size w w' := by
  go_enter Try.func19, Try.ntmps19
  go_wp2_with (first
    | (go_at_call 70; (with_reducible refine (G1.out _).mono ?_); rintro e1 w1 ⟨rfl, rfl⟩)
    | (go_at_call 70; (with_reducible refine (G2.out _).mono ?_); rintro e1 w1 ⟨rfl, rfl⟩)
    | (go_at_call 71; (with_reducible refine (N1.out _).mono ?_); rintro e1 w1 ⟨rfl, rfl⟩)
    | (go_at_call 71; (with_reducible refine (N2.out _).mono ?_); rintro e1 w1 ⟨rfl, rfl⟩))
  go_ret
  exact ⟨rfl, Below.refl _ _⟩
set_option maxRecDepth 100000 in
set_option maxHeartbeats 2000000 in
theorem rDiv_ii (a b : Nat) (p q : Bool) (G1 : Hid (PB 70 a p)) (G2 : Hid (PB 70 b q)) (N1 : Hid (PB 71 a false)) (N2 : Hid (PB 71 b false)) (I1 : Hid (PB 72 a true)) (I2 : Hid (PB 72 b true)) (w : World) : Calls Try.prog 19 #[.int .u64 a, .int .u64 b] w fun e w' => e = .returned (.int .u64 (9221120237041090560)) ∧ Below w.heap.size w w' := by
  go_enter Try.func19, Try.ntmps19
  go_wp2_with (first
    | (go_at_call 70; (with_reducible refine (G1.out _).mono ?_); rintro e1 w1 ⟨rfl, rfl⟩)
    | (go_at_call 70; (with_reducible refine (G2.out _).mono ?_); rintro e1 w1 ⟨rfl, rfl⟩)
    | (go_at_call 71; (with_reducible refine (N1.out _).mono ?_); rintro e1 w1 ⟨rfl, rfl⟩)
    | (go_at_call 71; (with_reducible refine (N2.out _).mono ?_); rintro e1 w1 ⟨rfl, rfl⟩)
    | (go_at_call 72; (with_reducible refine (I1.out _).mono ?_); rintro e1 w1 ⟨rfl, rfl⟩)
    | (go_at_call 72; (with_reducible refine (I2.out _).mono ?_); rintro e1 w1 ⟨rfl, rfl⟩))
  go_ret
  exact ⟨rfl, Below.refl _ _⟩
set_option maxRecDepth 100000 in
set_option maxHeartbeats 2000000 in
theorem rDiv_zz (a b : Nat) (p q : Bool) (G1 : Hid (PB 70 a p)) (G2 : Hid (PB 70 b q)) (N1 : Hid (PB 71 a false)) (N2 : Hid (PB 71 b false)) (I1 : Hid (PB 72 a false)) (Z1 : Hid (PB 73 a true)) (Z2 : Hid (PB 73 b true)) (w : World) : Calls Try.prog 19 #[.int .u64 a, .int .u64 b] w fun e w' => e = .returned (.int .u64 (9221120237041090560)) ∧ Below w.heap.size w w' := by
  go_enter Try.func19, Try.ntmps19
  go_wp2_with (first
    | (go_at_call 70; (with_reducible refine (G1.out _).mono ?_); rintro e1 w1 ⟨rfl, rfl⟩)
    | (go_at_call 70; (with_reducible refine (G2.out _).mono ?_); rintro e1 w1 ⟨rfl, rfl⟩)
    | (go_at_call 71; (with_reducible refine (N1.out _).mono ?_); rintro e1 w1 ⟨rfl, rfl⟩)
    | (go_at_call 71; (with_reducible refine (N2.out _).mono ?_); rintro e1 w1 ⟨rfl, rfl⟩)
    | (go_at_call 72; (with_reducible refine (I1.out _).mono ?_); rintro e1 w1 ⟨rfl, rfl⟩)
    | (go_at_call 73; (with_reducible refine (Z1.out _).mono ?_); rintro e1 w1 ⟨rfl, rfl⟩)
    | (go_at_call 73; (with_reducible refine (Z2.out _).mono ?_); rintro e1 w1 ⟨rfl, rfl⟩))
  go_ret
  exact ⟨rfl, Below.refl _ _⟩
set_option maxRecDepth 100000 in
set_option maxHeartbeats 2000000 in
theorem rDiv_i1 (a b : Nat) (p q : Bool) (R : Int) (SG : Hid (∀ w, Calls Try.prog 74 #[.bool (!(p == q)), .int .u64 9218868437227405312] w fun e w' => e = .returned (.int .u64 R) ∧ w = w')) (G1 : Hid (PB 70 a p)) (G2 : Hid (PB 70 b q)) (N1 : Hid (PB 71 a false)) (N2 : Hid (PB 71 b false)) (I1 : Hid (PB 72 a true)) (I2 : Hid (PB 72 b false)) (Z1 : Hid (PB 73 a false)) (w : World) : Calls Try.prog 19 #[.int .u64 a, .int .u64 b] w fun e w' => e = .returned (.int .u64 (R)) ∧ Below w.heap.size w w' := by
  go_enter Try.func19, Try.ntmps19
  go_wp2_with (first
    | (go_at_call 70; (with_reducible refine (G1.out _).mono ?_); rintro e1 w1 ⟨rfl, rfl⟩)
    | (go_at_call 70; (with_reducible refine (G2.out _).mono ?_); rintro e1 w1 ⟨rfl, rfl⟩)
    | (go_at_call 71; (with_reducible refine (N1.out _).mono ?_); rintro e1 w1 ⟨rfl, rfl⟩)
    | (go_at_call 71; (with_reducible refine (N2.out _).mono ?_); rintro e1 w1 ⟨rfl, rfl⟩)
    | (go_at_call 72; (with_reducible refine (I1.out _).mono ?_); rintro e1 w1 ⟨rfl, rfl⟩)
    | (go_at_call 72; (with_reducible refine (I2.out _).mono ?_); rintro e1 w1 ⟨rfl, rfl⟩)
    | (go_at_call 73; (with_reducible refine (Z1.out _).mono ?_); rintro e1 w1 ⟨rfl, rfl⟩)
    | (go_at_call 74; (with_reducible refine (SG.out _).mono ?_); rintro e1 w1 ⟨rfl, rfl⟩))
  go_ret
  exact ⟨rfl, Below.refl _ _⟩
set_option maxRecDepth 100000 in
set_option maxHeartbeats 2000000 in
theorem rDiv_z2 (a b : Nat) (p q : Bool) (R : Int) (SG : Hid (∀ w, Calls Try.prog 74 #[.bool (!(p == q)), .int .u64 9218868437227405312] w fun e w' => e = .returned (.int .u64 R) ∧ w = w')) (G1 : Hid (PB 70 a p)) (G2 : Hid (PB 70 b q)) (N1 : Hid (PB 71 a false)) (N2 : Hid (PB 71 b false)) (I1 : Hid (PB 72 a false)) (Z1 : Hid (PB 73 a false)) (Z2 : Hid (PB 73 b true)) (w : World) : Calls Try.prog 19 #[.int .u64 a, .int .u64 b] w fun e w' => e = .returned (.int .u64 (R)) ∧ Below w.heap.size w w' := by
  go_enter Try.func19, Try.ntmps19
  go_wp2_with (first
    | (go_at_call 70; (with_reducible refine (G1.out _).mono ?_); rintro e1 w1 ⟨rfl, rfl⟩)
    | (go_at_call 70; (with_reducible refine (G2.out _).mono ?_); rintro e1 w1 ⟨rfl, rfl⟩)
    | (go_at_call 71; (with_reducible refine (N1.out _).mono ?_); rintro e1 w1 ⟨rfl, rfl⟩)
    | (go_at_call 71; (with_reducible refine (N2.out _).mono ?_); rintro e1 w1 ⟨rfl, rfl⟩)
    | (go_at_call 72; (with_reducible refine (I1.out _).mono ?_); rintro e1 w1 ⟨rfl, rfl⟩)
    | (go_at_call 73; (with_reducible refine (Z1.out _).mono ?_); rintro e1 w1 ⟨rfl, rfl⟩)
    | (go_at_call 73; (with_reducible refine (Z2.out _).mono ?_); rintro e1 w1 ⟨rfl, rfl⟩)
    | (go_at_call 74; (with_reducible refine (SG.out _).mono ?_); rintro e1 w1 ⟨rfl, rfl⟩))
  go_ret
  exact ⟨rfl, Below.refl _ _⟩
set_option maxRecDepth 100000 in
set_option maxHeartbeats 2000000 in
theorem rDiv_i2 (a b : Nat) (p q : Bool) (R : Int) (SG : Hid (∀ w, Calls Try.prog 74 #[.bool (!(p == q)), .int .u64 0] w fun e w' => e = .returned (.int .u64 R) ∧ w = w')) (G1 : Hid (PB 70 a p)) (G2 : Hid (PB 70 b q)) (N1 : Hid (PB 71 a false)) (N2 : Hid (PB 71 b false)) (I1 : Hid (PB 72 a false)) (Z1 : Hid (PB 73 a false)) (Z2 : Hid (PB 73 b false)) (I2 : Hid (PB 72 b true)) (w : World) : Calls Try.prog 19 #[.int .u64 a, .int .u64 b] w fun e w' => e = .returned (.int .u64 (R)) ∧ Below w.heap.size w w' := by
  go_enter Try.func19, Try.ntmps19
  go_wp2_with (first
    | (go_at_call 70; (with_reducible refine (G1.out _).mono ?_); rintro e1 w1 ⟨rfl, rfl⟩)
    | (go_at_call 70; (with_reducible refine (G2.out _).mono ?_); rintro e1 w1 ⟨rfl, rfl⟩)
    | (go_at_call 71; (with_reducible refine (N1.out _).mono ?_); rintro e1 w1 ⟨rfl, rfl⟩)
    | (go_at_call 71; (with_reducible refine (N2.out _).mono ?_); rintro e1 w1 ⟨rfl, rfl⟩)
    | (go_at_call 72; (with_reducible refine (I1.out _).mono ?_); rintro e1 w1 ⟨rfl, rfl⟩)
    | (go_at_call 73; (with_reducible refine (Z1.out _).mono ?_); rintro e1 w1 ⟨rfl, rfl⟩)
    | (go_at_call 73; (with_reducible refine (Z2.out _).mono ?_); rintro e1 w1 ⟨rfl, rfl⟩)
    | (go_at_call 72; (with_reducible refine (I2.out _).mono ?_); rintro e1 w1 ⟨rfl, rfl⟩)
    | (go_at_call 74; (with_reducible refine (SG.out _).mono ?_); rintro e1 w1 ⟨rfl, rfl⟩))
  go_ret
  exact ⟨rfl, Below.refl _ _⟩
set_option maxRecDepth 100000 in
set_option maxHeartbeats 2000000 in
theorem rDiv_z1f (a b : Nat) (p q : Bool) (R : Int) (SG : Hid (∀ w, Calls Try.prog 74 #[.bool (!(p == q)), .int .u64 0] w fun e w' => e = .returned (.int .u64 R) ∧ w = w')) (G1 : Hid (PB 70 a p)) (G2 : Hid (PB 70 b q)) (N1 : Hid (PB 71 a false)) (N2 : Hid (PB 71 b false)) (I1 : Hid (PB 72 a false)) (Z1 : Hid (PB 73 a true)) (Z2 : Hid (PB 73 b false)) (I2 : Hid (PB 72 b false)) (w : World) : Calls Try.prog 19 #[.int .u64 a, .int .u64 b] w fun e w' => e = .returned (.int .u64 (R)) ∧ Below w.heap.size w w' := by
  go_enter Try.func19, Try.ntmps19
  go_wp2_with (first
    | (go_at_call 70; (with_reducible refine (G1.out _).mono ?_); rintro e1 w1 ⟨rfl, rfl⟩)
    | (go_at_call 70; (with_reducible refine (G2.out _).mono ?_); rintro e1 w1 ⟨rfl, rfl⟩)
    | (go_at_call 71; (with_reducible refine (N1.out _).mono ?_); rintro e1 w1 ⟨rfl, rfl⟩)
    | (go_at_call 71; (with_reducible refine (N2.out _).mono ?_); rintro e1 w1 ⟨rfl, rfl⟩)
    | (go_at_call 72; (with_reducible refine (I1.out _).mono ?_); rintro e1 w1 ⟨rfl, rfl⟩)
    | (go_at_call 73; (with_reducible refine (Z1.out _).mono ?_); rintro e1 w1 ⟨rfl, rfl⟩)
    | (go_at_call 73; (with_reducible refine (Z2.out _).mono ?_); rintro e1 w1 ⟨rfl, rfl⟩)
    | (go_at_call 72; (with_reducible refine (I2.out _).mono ?_); rintro e1 w1 ⟨rfl, rfl⟩)
    | (go_at_call 74; (with_reducible refine (SG.out _).mono ?_); rintro e1 w1 ⟨rfl, rfl⟩))
  go_ret
  exact ⟨rfl, Below.refl _ _⟩
set_option maxRecDepth 100000 in
set_option maxHeartbeats 2000000 in
theorem rDiv_z1t (a b : Nat) (p q : Bool) (R : Int) (SG : Hid (∀ w, Calls Try.prog 74 #[.bool (!(p == q)), .int .u64 0] w fun e w' => e = .returned (.int .u64 R) ∧ w = w')) (G1 : Hid (PB 70 a p)) (G2 : Hid (PB 70 b q)) (N1 : Hid (PB 71 a false)) (N2 : Hid (PB 71 b false)) (I1 : Hid (PB 72 a false)) (Z1 : Hid (PB 73 a true)) (Z2 : Hid (PB 73 b false)) (I2 : Hid (PB 72 b true)) (w : World) : Calls Try.prog 19 #[.int .u64 a, .int .u64 b] w fun e w' => e = .returned (.int .u64 (R)) ∧ Below w.heap.size w w' := by
  go_enter Try.func19, Try.ntmps19
  go_wp2_with (first
    | (go_at_call 70; (with_reducible refine (G1.out _).mono ?_); rintro e1 w1 ⟨rfl, rfl⟩)
    | (go_at_call 70; (with_reducible refine (G2.out _).mono ?_); rintro e1 w1 ⟨rfl, rfl⟩)
    | (go_at_call 71; (with_reducible refine (N1.out _).mono ?_); rintro e1 w1 ⟨rfl, rfl⟩)
    | (go_at_call 71; (with_reducible refine (N2.out _).mono ?_); rintro e1 w1 ⟨rfl, rfl⟩)
    | (go_at_call 72; (with_reducible refine (I1.out _).mono ?_); rintro e1 w1 ⟨rfl, rfl⟩)
    | (go_at_call 73; (with_reducible refine (Z1.out _).mono ?_); rintro e1 w1 ⟨rfl, rfl⟩)
    | (go_at_call 73; (with_reducible refine (Z2.out _).mono ?_); rintro e1 w1 ⟨rfl, rfl⟩)
    | (go_at_call 72; (with_reducible refine (I2.out _).mono ?_); rintro e1 w1 ⟨rfl, rfl⟩)
    | (go_at_call 74; (with_reducible refine (SG.out _).mono ?_); rintro e1 w1 ⟨rfl, rfl⟩))
  go_ret
  exact ⟨rfl, Below.refl _ _⟩
set_option maxRecDepth 100000 in
set_option maxHeartbeats 2000000 in
theorem rDiv_f (a b : Nat) (p q : Bool) (A B : Nat) (ea eb R : Int) (be : -1074 ≤ ea ∧ ea ≤ 971 ∧ -1074 ≤ eb ∧ eb ≤ 971) (p' q' : Bool) (SA : Hid (∀ w, Calls Try.prog 60 #[.int .u64 a] w (Sp w p' A ea))) (SB : Hid (∀ w, Calls Try.prog 60 #[.int .u64 b] w (Sp w q' B eb))) (HQ : Hid (∀ (w1 : World) (a1 : Option Addr) (n1 c1 : Nat) (a2 : Option Addr) (n2 c2 : Nat), Nw w1 (.slice a1 n1 c1) A → Nw w1 (.slice a2 n2 c2) B → Calls Try.prog 75 #[.bool (!(p == q)), .slice a1 n1 c1, .slice a2 n2 c2, .int .i64 (ea - eb)] w1 fun e w' => e = .returned (.int .u64 R) ∧ Below w1.heap.size w1 w')) (G1 : Hid (PB 70 a p)) (G2 : Hid (PB 70 b q)) (N1 : Hid (PB 71 a false)) (N2 : Hid (PB 71 b false)) (I1 : Hid (PB 72 a false)) (I2 : Hid (PB 72 b false)) (Z1 : Hid (PB 73 a false)) (Z2 : Hid (PB 73 b false)) (w : World) : Calls Try.prog 19 #[.int .u64 a, .int .u64 b] w fun e w' => e = .returned (.int .u64 (R)) ∧ Below w.heap.size w w' := by
  go_enter Try.func19, Try.ntmps19
  go_wp2_with (first
    | (go_at_call 70; (with_reducible refine (G1.out _).mono ?_); rintro e1 w1 ⟨rfl, rfl⟩)
    | (go_at_call 70; (with_reducible refine (G2.out _).mono ?_); rintro e1 w1 ⟨rfl, rfl⟩)
    | (go_at_call 71; (with_reducible refine (N1.out _).mono ?_); rintro e1 w1 ⟨rfl, rfl⟩)
    | (go_at_call 71; (with_reducible refine (N2.out _).mono ?_); rintro e1 w1 ⟨rfl, rfl⟩)
    | (go_at_call 72; (with_reducible refine (I1.out _).mono ?_); rintro e1 w1 ⟨rfl, rfl⟩)
    | (go_at_call 72; (with_reducible refine (I2.out _).mono ?_); rintro e1 w1 ⟨rfl, rfl⟩)
    | (go_at_call 73; (with_reducible refine (Z1.out _).mono ?_); rintro e1 w1 ⟨rfl, rfl⟩)
    | (go_at_call 73; (with_reducible refine (Z2.out _).mono ?_); rintro e1 w1 ⟨rfl, rfl⟩)
    | (go_at_call 60; (with_reducible refine (SA.out _).mono ?_); rintro e1 w1 ⟨a1, n1, c1, rfl, hv1, hb1⟩)
    | (go_at_call 60; (with_reducible refine (SB.out _).mono ?_); rintro e2 w2 ⟨a2, n2, c2, rfl, hv2, hb2⟩)
    | (go_at_call 75; (with_reducible refine (HQ.out _ _ _ _ _ _ _ (hv1.below hb2) hv2).mono ?_); rintro e3 w3 ⟨rfl, hb3⟩))
  go_ret
  exact ⟨rfl, btn hb1 (btn hb2 hb3)⟩
theorem rDiv_c (a b : Nat) (ha : W a) (hb : W b) (w : World) : Calls Try.prog 19 #[.int .u64 a, .int .u64 b] w fun e w' => e = .returned (.int .u64 ((divV a b : Nat) : Int)) ∧ Below w.heap.size w w' := by
  have N1 := Lib.hid (risnan_c a ha)
  have N2 := Lib.hid (risnan_c b hb)
  have I1 := Lib.hid (risinf_c a ha)
  have I2 := Lib.hid (risinf_c b hb)
  have Z1 := Lib.hid (riszero_c a ha)
  have Z2 := Lib.hid (riszero_c b hb)
  have G1 := Lib.hid (rminus_c a ha)
  have G2 := Lib.hid (rminus_c b hb)
  have SG := Lib.hid (rsigned_c 9218868437227405312 (ng a != ng b) (by decide))
  have S0 := Lib.hid (rsigned_c 0 (ng a != ng b) (by decide))
  by_cases n1 : nan a = true
  · rw [show divV a b = NaN by simp [divV, n1]]; rw [n1] at N1; exact rDiv_n1 a b _ _ G1 G2 N1 w
  have n1 := Bool.eq_false_iff.2 n1; rw [n1] at N1
  by_cases n2 : nan b = true
  · rw [show divV a b = NaN by simp [divV, n1, n2]]; rw [n2] at N2; exact rDiv_n2 a b _ _ G1 G2 N1 N2 w
  have n2 := Bool.eq_false_iff.2 n2; rw [n2] at N2
  by_cases i1 : inf a = true
  · have z1 := inf_zer i1
    rw [i1] at I1; rw [z1] at Z1
    by_cases i2 : inf b = true
    · rw [show divV a b = NaN by simp [divV, n1, n2, i1, i2]]; rw [i2] at I2; exact rDiv_ii a b _ _ G1 G2 N1 N2 I1 I2 w
    · have i2 := Bool.eq_false_iff.2 i2; rw [i2] at I2
      rw [show divV a b = sg (ng a != ng b) Inf by simp [divV, n1, n2, i1, z1, i2]]
      exact rDiv_i1 a b _ _ _ SG G1 G2 N1 N2 I1 I2 Z1 w
  have i1 := Bool.eq_false_iff.2 i1; rw [i1] at I1
  by_cases z2 : zer b = true
  · rw [z2] at Z2
    by_cases z1 : zer a = true
    · rw [show divV a b = NaN by simp [divV, n1, n2, i1, z1, z2]]; rw [z1] at Z1; exact rDiv_zz a b _ _ G1 G2 N1 N2 I1 Z1 Z2 w
    · have z1 := Bool.eq_false_iff.2 z1; rw [z1] at Z1
      rw [show divV a b = sg (ng a != ng b) Inf by simp [divV, n1, n2, i1, z1, z2]]
      exact rDiv_z2 a b _ _ _ SG G1 G2 N1 N2 I1 Z1 Z2 w
  have z2 := Bool.eq_false_iff.2 z2; rw [z2] at Z2
  by_cases z1 : zer a = true
  · rw [z1] at Z1
    rw [show divV a b = sg (ng a != ng b) 0 by simp [divV, n1, n2, i1, z1, z2]]
    by_cases i2 : inf b = true
    · rw [i2] at I2; exact rDiv_z1t a b _ _ _ S0 G1 G2 N1 N2 I1 Z1 Z2 I2 w
    · rw [Bool.eq_false_iff.2 i2] at I2; exact rDiv_z1f a b _ _ _ S0 G1 G2 N1 N2 I1 Z1 Z2 I2 w
  have z1 := Bool.eq_false_iff.2 z1; rw [z1] at Z1
  by_cases i2 : inf b = true
  · rw [i2] at I2
    rw [show divV a b = sg (ng a != ng b) 0 by simp [divV, n1, n2, i1, i2, z1, z2]]
    exact rDiv_i2 a b _ _ _ S0 G1 G2 N1 N2 I1 Z1 Z2 I2 w
  have i2 := Bool.eq_false_iff.2 i2; rw [i2] at I2
  have be : -1074 ≤ se a ∧ se a ≤ 971 ∧ -1074 ≤ se b ∧ se b ≤ 971 := ⟨se_ge a, se_le n1 i1, se_ge b, se_le n2 i2⟩
  have SA := Lib.hid (fun w => rsplit_c a ha n1 i1 w)
  have SB := Lib.hid (fun w => rsplit_c b hb n2 i2 w)
  have a0 : sm a ≠ 0 := fun h => by have := sm_zero.1 h; rw [z1] at this; cases this
  have b0 : sm b ≠ 0 := fun h => by have := sm_zero.1 h; rw [z2] at this; cases this
  have HQ := Lib.hid (fun (w1 : World) (a1 : Option Addr) (n1 c1 : Nat) (a2 : Option Addr) (n2 c2 : Nat) (h1 : Nw w1 (.slice a1 n1 c1) (sm a)) (h2 : Nw w1 (.slice a2 n2 c2) (sm b)) => rquo_c (ng a != ng b) a0 b0 (bl_sm a) (bl_sm b) (se a - se b) (by omega) h1 h2)
  rw [show divV a b = divF a b by simp [divV, n1, n2, i1, i2, z1, z2]]
  exact rDiv_f a b _ _ _ _ _ _ _ be _ _ SA SB HQ G1 G2 N1 N2 I1 I2 Z1 Z2 w
end Go.Proofs.Ytecgkhijiogggaa
