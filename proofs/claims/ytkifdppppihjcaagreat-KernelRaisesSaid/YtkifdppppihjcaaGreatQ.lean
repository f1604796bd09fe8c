/- Texts Y5 Y6 Y7, for this seat. -/
import Derived.Test.YtkifdppppihjcaaGreatZ
namespace Go.Proofs.YtkifdppppihjcaaGreat
set_option linter.unusedVariables false
set_option linter.unusedSimpArgs false
open Go.RowKit Go.Shelf SF
set_option maxRecDepth 100000 in
set_option maxHeartbeats 2000000 in
theorem rMul_n1 (a b : Nat) (p q : Bool) (G1 : Hid (PB 69 a p)) (G2 : Hid (PB 69 b q)) (N1 : Hid (PB 64 a true)) (w : World) : Calls Tryz.prog 126 #[.int .u64 a, .int .u64 b] w fun e w' => e = .returned (.int .u64 (9221120237041090560)) ∧ Below w.heap.size w w' := by
  go_enter Tryz.func126, Tryz.ntmps126
  go_wp2_with (first
    | (go_at_call 69; (with_reducible refine (G1.out _).mono ?_); rintro e1 w1 ⟨rfl, rfl⟩)
    | (go_at_call 69; (with_reducible refine (G2.out _).mono ?_); rintro e1 w1 ⟨rfl, rfl⟩)
    | (go_at_call 64; (with_reducible refine (N1.out _).mono ?_); rintro e1 w1 ⟨rfl, rfl⟩))
  go_ret
  exact ⟨rfl, Below.refl _ _⟩
set_option maxRecDepth 100000 in
set_option maxHeartbeats 2000000 in
theorem rMul_n2 (a b : Nat) (p q : Bool) (G1 : Hid (PB 69 a p)) (G2 : Hid (PB 69 b q)) (N1 : Hid (PB 64 a false)) (N2 : Hid (PB 64 b true)) (w : World) : Calls Tryz.prog 126 #[.int .u64 a, .int .u64 b] w fun e w' => e = .returned (.int .u64 (9221120237041090560)) ∧ Below w.heap.size w w' := by
  go_enter Tryz.func126, Tryz.ntmps126
  go_wp2_with (first
    | (go_at_call 69; (with_reducible refine (G1.out _).mono ?_); rintro e1 w1 ⟨rfl, rfl⟩)
    | (go_at_call 69; (with_reducible refine (G2.out _).mono ?_); rintro e1 w1 ⟨rfl, rfl⟩)
    | (go_at_call 64; (with_reducible refine (N1.out _).mono ?_); rintro e1 w1 ⟨rfl, rfl⟩)
    | (go_at_call 64; (with_reducible refine (N2.out _).mono ?_); rintro e1 w1 ⟨rfl, rfl⟩))
  go_ret
  exact ⟨rfl, Below.refl _ _⟩
set_option maxRecDepth 100000 in
set_option maxHeartbeats 2000000 in
theorem rMul_iz (a b : Nat) (p q : Bool) (G1 : Hid (PB 69 a p)) (G2 : Hid (PB 69 b q)) (N1 : Hid (PB 64 a false)) (N2 : Hid (PB 64 b false)) (I1 : Hid (PB 99 a true)) (Z2 : Hid (PB 61 b true)) (w : World) : Calls Tryz.prog 126 #[.int .u64 a, .int .u64 b] w fun e w' => e = .returned (.int .u64 (9221120237041090560)) ∧ Below w.heap.size w w' := by
  go_enter Tryz.func126, Tryz.ntmps126
  go_wp2_with (first
    | (go_at_call 69; (with_reducible refine (G1.out _).mono ?_); rintro e1 w1 ⟨rfl, rfl⟩)
    | (go_at_call 69; (with_reducible refine (G2.out _).mono ?_); rintro e1 w1 ⟨rfl, rfl⟩)
    | (go_at_call 64; (with_reducible refine (N1.out _).mono ?_); rintro e1 w1 ⟨rfl, rfl⟩)
    | (go_at_call 64; (with_reducible refine (N2.out _).mono ?_); rintro e1 w1 ⟨rfl, rfl⟩)
    | (go_at_call 99; (with_reducible refine (I1.out _).mono ?_); rintro e1 w1 ⟨rfl, rfl⟩)
    | (go_at_call 61; (with_reducible refine (Z2.out _).mono ?_); rintro e1 w1 ⟨rfl, rfl⟩))
  go_ret
  exact ⟨rfl, Below.refl _ _⟩
set_option maxRecDepth 100000 in
set_option maxHeartbeats 2000000 in
theorem rMul_zi (a b : Nat) (p q : Bool) (G1 : Hid (PB 69 a p)) (G2 : Hid (PB 69 b q)) (N1 : Hid (PB 64 a false)) (N2 : Hid (PB 64 b false)) (I1 : Hid (PB 99 a false)) (Z1 : Hid (PB 61 a true)) (I2 : Hid (PB 99 b true)) (w : World) : Calls Tryz.prog 126 #[.int .u64 a, .int .u64 b] w fun e w' => e = .returned (.int .u64 (9221120237041090560)) ∧ Below w.heap.size w w' := by
  go_enter Tryz.func126, Tryz.ntmps126
  go_wp2_with (first
    | (go_at_call 69; (with_reducible refine (G1.out _).mono ?_); rintro e1 w1 ⟨rfl, rfl⟩)
    | (go_at_call 69; (with_reducible refine (G2.out _).mono ?_); rintro e1 w1 ⟨rfl, rfl⟩)
    | (go_at_call 64; (with_reducible refine (N1.out _).mono ?_); rintro e1 w1 ⟨rfl, rfl⟩)
    | (go_at_call 64; (with_reducible refine (N2.out _).mono ?_); rintro e1 w1 ⟨rfl, rfl⟩)
    | (go_at_call 99; (with_reducible refine (I1.out _).mono ?_); rintro e1 w1 ⟨rfl, rfl⟩)
    | (go_at_call 61; (with_reducible refine (Z1.out _).mono ?_); rintro e1 w1 ⟨rfl, rfl⟩)
    | (go_at_call 99; (with_reducible refine (I2.out _).mono ?_); rintro e1 w1 ⟨rfl, rfl⟩))
  go_ret
  exact ⟨rfl, Below.refl _ _⟩
set_option maxRecDepth 100000 in
set_option maxHeartbeats 2000000 in
theorem rMul_i1 (a b : Nat) (p q : Bool) (R : Int) (SG : Hid (∀ w, Calls Tryz.prog 157 #[.bool (!(p == q)), .int .u64 9218868437227405312] w fun e w' => e = .returned (.int .u64 R) ∧ w = w')) (G1 : Hid (PB 69 a p)) (G2 : Hid (PB 69 b q)) (N1 : Hid (PB 64 a false)) (N2 : Hid (PB 64 b false)) (I1 : Hid (PB 99 a true)) (Z2 : Hid (PB 61 b false)) (Z1 : Hid (PB 61 a false)) (w : World) : Calls Tryz.prog 126 #[.int .u64 a, .int .u64 b] w fun e w' => e = .returned (.int .u64 (R)) ∧ Below w.heap.size w w' := by
  go_enter Tryz.func126, Tryz.ntmps126
  go_wp2_with (first
    | (go_at_call 69; (with_reducible refine (G1.out _).mono ?_); rintro e1 w1 ⟨rfl, rfl⟩)
    | (go_at_call 69; (with_reducible refine (G2.out _).mono ?_); rintro e1 w1 ⟨rfl, rfl⟩)
    | (go_at_call 64; (with_reducible refine (N1.out _).mono ?_); rintro e1 w1 ⟨rfl, rfl⟩)
    | (go_at_call 64; (with_reducible refine (N2.out _).mono ?_); rintro e1 w1 ⟨rfl, rfl⟩)
    | (go_at_call 99; (with_reducible refine (I1.out _).mono ?_); rintro e1 w1 ⟨rfl, rfl⟩)
    | (go_at_call 61; (with_reducible refine (Z2.out _).mono ?_); rintro e1 w1 ⟨rfl, rfl⟩)
    | (go_at_call 61; (with_reducible refine (Z1.out _).mono ?_); rintro e1 w1 ⟨rfl, rfl⟩)
    | (go_at_call 157; (with_reducible refine (SG.out _).mono ?_); rintro e1 w1 ⟨rfl, rfl⟩))
  go_ret
  exact ⟨rfl, Below.refl _ _⟩
set_option maxRecDepth 100000 in
set_option maxHeartbeats 2000000 in
theorem rMul_i2 (a b : Nat) (p q : Bool) (R : Int) (SG : Hid (∀ w, Calls Tryz.prog 157 #[.bool (!(p == q)), .int .u64 9218868437227405312] w fun e w' => e = .returned (.int .u64 R) ∧ w = w')) (G1 : Hid (PB 69 a p)) (G2 : Hid (PB 69 b q)) (N1 : Hid (PB 64 a false)) (N2 : Hid (PB 64 b false)) (I1 : Hid (PB 99 a false)) (Z1 : Hid (PB 61 a false)) (I2 : Hid (PB 99 b true)) (w : World) : Calls Tryz.prog 126 #[.int .u64 a, .int .u64 b] w fun e w' => e = .returned (.int .u64 (R)) ∧ Below w.heap.size w w' := by
  go_enter Tryz.func126, Tryz.ntmps126
  go_wp2_with (first
    | (go_at_call 69; (with_reducible refine (G1.out _).mono ?_); rintro e1 w1 ⟨rfl, rfl⟩)
    | (go_at_call 69; (with_reducible refine (G2.out _).mono ?_); rintro e1 w1 ⟨rfl, rfl⟩)
    | (go_at_call 64; (with_reducible refine (N1.out _).mono ?_); rintro e1 w1 ⟨rfl, rfl⟩)
    | (go_at_call 64; (with_reducible refine (N2.out _).mono ?_); rintro e1 w1 ⟨rfl, rfl⟩)
    | (go_at_call 99; (with_reducible refine (I1.out _).mono ?_); rintro e1 w1 ⟨rfl, rfl⟩)
    | (go_at_call 61; (with_reducible refine (Z1.out _).mono ?_); rintro e1 w1 ⟨rfl, rfl⟩)
    | (go_at_call 99; (with_reducible refine (I2.out _).mono ?_); rintro e1 w1 ⟨rfl, rfl⟩)
    | (go_at_call 157; (with_reducible refine (SG.out _).mono ?_); rintro e1 w1 ⟨rfl, rfl⟩))
  go_ret
  exact ⟨rfl, Below.refl _ _⟩
set_option maxRecDepth 100000 in
set_option maxHeartbeats 2000000 in
theorem rMul_f0 (a b : Nat) (p q : Bool) (A B D : Nat) (ea eb R : Int) (be : -1074 ≤ ea ∧ ea ≤ 971 ∧ -1074 ≤ eb ∧ eb ≤ 971) (p' q' : Bool) (SA : Hid (∀ w, Calls Tryz.prog 119 #[.int .u64 a] w (Sp w p' A ea))) (SB : Hid (∀ w, Calls Tryz.prog 119 #[.int .u64 b] w (Sp w q' B eb))) (HX : Hid (∀ (w1 : World) (a1 : Option Addr) (n1 c1 : Nat) (a2 : Option Addr) (n2 c2 : Nat), Nw w1 (.slice a1 n1 c1) (A) → Nw w1 (.slice a2 n2 c2) (B) → Calls Tryz.prog 145 #[.slice a1 n1 c1, .slice a2 n2 c2] w1 (OneOk w1 D))) (HM : Hid (∀ (w1 : World) (a1 : Option Addr) (n1 c1 : Nat), Nw w1 (.slice a1 n1 c1) (D) → Calls Tryz.prog 134 #[.bool (!(p == q)), .slice a1 n1 c1, .int .i64 (ea + eb)] w1 fun e w' => e = .returned (.int .u64 R) ∧ Below w1.heap.size w1 w')) (G1 : Hid (PB 69 a p)) (G2 : Hid (PB 69 b q)) (N1 : Hid (PB 64 a false)) (N2 : Hid (PB 64 b false)) (I1 : Hid (PB 99 a false)) (I2 : Hid (PB 99 b false)) (Z1 : Hid (PB 61 a false)) (w : World) : Calls Tryz.prog 126 #[.int .u64 a, .int .u64 b] w fun e w' => e = .returned (.int .u64 (R)) ∧ Below w.heap.size w w' := by
  go_enter Tryz.func126, Tryz.ntmps126
  go_wp2_with (first
    | (go_at_call 69; (with_reducible refine (G1.out _).mono ?_); rintro e1 w1 ⟨rfl, rfl⟩)
    | (go_at_call 69; (with_reducible refine (G2.out _).mono ?_); rintro e1 w1 ⟨rfl, rfl⟩)
    | (go_at_call 64; (with_reducible refine (N1.out _).mono ?_); rintro e1 w1 ⟨rfl, rfl⟩)
    | (go_at_call 64; (with_reducible refine (N2.out _).mono ?_); rintro e1 w1 ⟨rfl, rfl⟩)
    | (go_at_call 99; (with_reducible refine (I1.out _).mono ?_); rintro e1 w1 ⟨rfl, rfl⟩)
    | (go_at_call 99; (with_reducible refine (I2.out _).mono ?_); rintro e1 w1 ⟨rfl, rfl⟩)
    | (go_at_call 61; (with_reducible refine (Z1.out _).mono ?_); rintro e1 w1 ⟨rfl, rfl⟩)
    | (go_at_call 119; (with_reducible refine (SA.out _).mono ?_); rintro e1 w1 ⟨a1, n1, c1, rfl, hv1, hb1⟩)
    | (go_at_call 119; (with_reducible refine (SB.out _).mono ?_); rintro e2 w2 ⟨a2, n2, c2, rfl, hv2, hb2⟩)
    | (go_at_call 145; (with_reducible refine (HX.out _ _ _ _ _ _ _ (hv1.below hb2) hv2).mono ?_); rintro e3 w3 ⟨a3, n3, c3, rfl, hv3, hb3⟩)
    | (go_at_call 134; (with_reducible refine (HM.out _ _ _ _ hv3).mono ?_); rintro e4 w4 ⟨rfl, hb4⟩))
  go_ret
  exact ⟨rfl, btn hb1 (btn hb2 (btn hb3 hb4))⟩
set_option maxRecDepth 100000 in
set_option maxHeartbeats 2000000 in
theorem rMul_f1 (a b : Nat) (p q : Bool) (A B D : Nat) (ea eb R : Int) (be : -1074 ≤ ea ∧ ea ≤ 971 ∧ -1074 ≤ eb ∧ eb ≤ 971) (p' q' : Bool) (SA : Hid (∀ w, Calls Tryz.prog 119 #[.int .u64 a] w (Sp w p' A ea))) (SB : Hid (∀ w, Calls Tryz.prog 119 #[.int .u64 b] w (Sp w q' B eb))) (HX : Hid (∀ (w1 : World) (a1 : Option Addr) (n1 c1 : Nat) (a2 : Option Addr) (n2 c2 : Nat), Nw w1 (.slice a1 n1 c1) (A) → Nw w1 (.slice a2 n2 c2) (B) → Calls Tryz.prog 145 #[.slice a1 n1 c1, .slice a2 n2 c2] w1 (OneOk w1 D))) (HM : Hid (∀ (w1 : World) (a1 : Option Addr) (n1 c1 : Nat), Nw w1 (.slice a1 n1 c1) (D) → Calls Tryz.prog 134 #[.bool (!(p == q)), .slice a1 n1 c1, .int .i64 (ea + eb)] w1 fun e w' => e = .returned (.int .u64 R) ∧ Below w1.heap.size w1 w')) (G1 : Hid (PB 69 a p)) (G2 : Hid (PB 69 b q)) (N1 : Hid (PB 64 a false)) (N2 : Hid (PB 64 b false)) (I1 : Hid (PB 99 a false)) (I2 : Hid (PB 99 b false)) (Z1 : Hid (PB 61 a true)) (w : World) : Calls Tryz.prog 126 #[.int .u64 a, .int .u64 b] w fun e w' => e = .returned (.int .u64 (R)) ∧ Below w.heap.size w w' := by
  go_enter Tryz.func126, Tryz.ntmps126
  go_wp2_with (first
    | (go_at_call 69; (with_reducible refine (G1.out _).mono ?_); rintro e1 w1 ⟨rfl, rfl⟩)
    | (go_at_call 69; (with_reducible refine (G2.out _).mono ?_); rintro e1 w1 ⟨rfl, rfl⟩)
    | (go_at_call 64; (with_reducible refine (N1.out _).mono ?_); rintro e1 w1 ⟨rfl, rfl⟩)
    | (go_at_call 64; (with_reducible refine (N2.out _).mono ?_); rintro e1 w1 ⟨rfl, rfl⟩)
    | (go_at_call 99; (with_reducible refine (I1.out _).mono ?_); rintro e1 w1 ⟨rfl, rfl⟩)
    | (go_at_call 99; (with_reducible refine (I2.out _).mono ?_); rintro e1 w1 ⟨rfl, rfl⟩)
    | (go_at_call 61; (with_reducible refine (Z1.out _).mono ?_); rintro e1 w1 ⟨rfl, rfl⟩)
    | (go_at_call 119; (with_reducible refine (SA.out _).mono ?_); rintro e1 w1 ⟨a1, n1, c1, rfl, hv1, hb1⟩)
    | (go_at_call 119; (with_reducible refine (SB.out _).mono ?_); rintro e2 w2 ⟨a2, n2, c2, rfl, hv2, hb2⟩)
    | (go_at_call 145; (with_reducible refine (HX.out _ _ _ _ _ _ _ (hv1.below hb2) hv2).mono ?_); rintro e3 w3 ⟨a3, n3, c3, rfl, hv3, hb3⟩)
    | (go_at_call 134; (with_reducible refine (HM.out _ _ _ _ hv3).mono ?_); rintro e4 w4 ⟨rfl, hb4⟩))
  go_ret
  exact ⟨rfl, btn hb1 (btn hb2 (btn hb3 hb4))⟩
theorem rMul_c (a b : Nat) (ha : W a) (hb : W b) (w : World) : Calls Tryz.prog 126 #[.int .u64 a, .int .u64 b] w fun e w' => e = .returned (.int .u64 ((mulV a b : Nat) : Int)) ∧ Below w.heap.size w w' := by
  have N1 := Lib.hid (risnan_c a ha)
  have N2 := Lib.hid (risnan_c b hb)
  have I1 := Lib.hid (risinf_c a ha)
  have I2 := Lib.hid (risinf_c b hb)
  have Z1 := Lib.hid (riszero_c a ha)
  have Z2 := Lib.hid (riszero_c b hb)
  have G1 := Lib.hid (rminus_c a ha)
  have G2 := Lib.hid (rminus_c b hb)
  have SG := Lib.hid (rsigned_c 9218868437227405312 (ng a != ng b) (by decide))
  by_cases n1 : nan a = true
  · rw [show mulV a b = NaN by simp [mulV, n1]]; rw [n1] at N1; exact rMul_n1 a b _ _ G1 G2 N1 w
  have n1 := Bool.eq_false_iff.2 n1; rw [n1] at N1
  by_cases n2 : nan b = true
  · rw [show mulV a b = NaN by simp [mulV, n1, n2]]; rw [n2] at N2; exact rMul_n2 a b _ _ G1 G2 N1 N2 w
  have n2 := Bool.eq_false_iff.2 n2; rw [n2] at N2
  by_cases i1 : inf a = true
  · have z1 := inf_zer i1
    rw [i1] at I1; rw [z1] at Z1
    by_cases z2 : zer b = true
    · rw [show mulV a b = NaN by simp [mulV, n1, n2, i1, z2]]; rw [z2] at Z2; exact rMul_iz a b _ _ G1 G2 N1 N2 I1 Z2 w
    · have z2 := Bool.eq_false_iff.2 z2; rw [z2] at Z2
      rw [show mulV a b = sg (ng a != ng b) Inf by simp [mulV, n1, n2, i1, z1, z2]]
      exact rMul_i1 a b _ _ _ SG G1 G2 N1 N2 I1 Z2 Z1 w
  have i1 := Bool.eq_false_iff.2 i1; rw [i1] at I1
  by_cases i2 : inf b = true
  · rw [i2] at I2
    by_cases z1 : zer a = true
    · rw [show mulV a b = NaN by simp [mulV, n1, n2, i1, i2, z1]]; rw [z1] at Z1; exact rMul_zi a b _ _ G1 G2 N1 N2 I1 Z1 I2 w
    · have z1 := Bool.eq_false_iff.2 z1; rw [z1] at Z1
      rw [show mulV a b = sg (ng a != ng b) Inf by simp [mulV, n1, n2, i1, i2, z1]]
      exact rMul_i2 a b _ _ _ SG G1 G2 N1 N2 I1 Z1 I2 w
  have i2 := Bool.eq_false_iff.2 i2; rw [i2] at I2
  have be : -1074 ≤ se a ∧ se a ≤ 971 ∧ -1074 ≤ se b ∧ se b ≤ 971 := ⟨se_ge a, se_le n1 i1, se_ge b, se_le n2 i2⟩
  have SA := Lib.hid (fun w => rsplit_c a ha n1 i1 w)
  have SB := Lib.hid (fun w => rsplit_c b hb n2 i2 w)
  have ba := bl_sm a
  have bb := bl_sm b
  have bm := bl_mulb ba bb
  have HX := Lib.hid (fun (w1 : World) (a1 : Option Addr) (n1 c1 : Nat) (a2 : Option Addr) (n2 c2 : Nat) (h1 : Nw w1 (.slice a1 n1 c1) (sm a)) (h2 : Nw w1 (.slice a2 n2 c2) (sm b)) => rmul_n h1 h2 (by omega))
  have HM := Lib.hid (fun (w1 : World) (a1 : Option Addr) (n1 c1 : Nat) (h : Nw w1 (.slice a1 n1 c1) (sm a * sm b)) => rmake_n (ng a != ng b) h (by omega) (se a + se b) (by omega))
  rw [show mulV a b = mulF a b by simp [mulV, n1, n2, i1, i2]]
  obtain ⟨z, hz⟩ : ∃ z, zer a = z := ⟨_, rfl⟩
  rw [hz] at Z1
  cases z
  · exact rMul_f0 a b _ _ _ _ _ _ _ _ be _ _ SA SB HX HM G1 G2 N1 N2 I1 I2 Z1 w
  · exact rMul_f1 a b _ _ _ _ _ _ _ _ be _ _ SA SB HX HM G1 G2 N1 N2 I1 I2 Z1 w
set_option maxRecDepth 100000 in
set_option maxHeartbeats 2000000 in
theorem rquo_0 (g : Bool) (A B X C : Nat) (la lb e k R : Int) (hk : 70 + lb - la = k) (hk0 : 0 ≤ k ∧ k ≤ 200) (bl : 0 ≤ la ∧ la ≤ 100 ∧ 0 ≤ lb ∧ lb ≤ 100) (be : -10000 ≤ e ∧ e ≤ 10000) (x : Option Addr) (n c : Nat) (y : Option Addr) (m d : Nat) (M2 : Nat) (hM2 : M2 ≠ 0) (w : World) (HB1 : Hid (∀ w1, Below w.heap.size w w1 → Calls Tryz.prog 121 #[.slice y m d] w1 fun e w' => e = .returned (.int .i64 lb) ∧ w1 = w')) (HB2 : Hid (∀ w1, Below w.heap.size w w1 → Calls Tryz.prog 121 #[.slice x n c] w1 fun e w' => e = .returned (.int .i64 la) ∧ w1 = w')) (HY : Hid (Nw w (.slice y m d) B)) (HS : Hid (Calls Tryz.prog 120 #[.slice x n c, .int .i64 k] w (OneOk w X))) (HD : Hid (∀ (w1 : World) (a1 : Option Addr) (n1 c1 : Nat) (a2 : Option Addr) (n2 c2 : Nat), Nw w1 (.slice a1 n1 c1) (X) → Nw w1 (.slice a2 n2 c2) (B) → Calls Tryz.prog 168 #[.slice a1 n1 c1, .slice a2 n2 c2] w1 (Two3 w1 C M2))) (HS1 : Hid (∀ (w1 : World) (a1 : Option Addr) (n1 c1 : Nat), Nw w1 (.slice a1 n1 c1) (C) → Calls Tryz.prog 120 #[.slice a1 n1 c1, .int .i64 (1)] w1 (OneOk w1 (C * 2)))) (HOf : Hid (∀ w1, Calls Tryz.prog 122 #[.int .u64 1] w1 (One w1 1))) (HA : Hid (∀ (w1 : World) (a1 : Option Addr) (n1 c1 : Nat) (a2 : Option Addr) (n2 c2 : Nat), Nw w1 (.slice a1 n1 c1) (C * 2) → Nw w1 (.slice a2 n2 c2) (1) → Calls Tryz.prog 146 #[.slice a1 n1 c1, .slice a2 n2 c2] w1 (One w1 (C * 2 + 1)))) (HM : Hid (∀ (w1 : World) (a1 : Option Addr) (n1 c1 : Nat), Nw w1 (.slice a1 n1 c1) (C * 2 + 1) → Calls Tryz.prog 134 #[.bool (g), .slice a1 n1 c1, .int .i64 (e - k - 1)] w1 fun e w' => e = .returned (.int .u64 R) ∧ Below w1.heap.size w1 w'))  : Calls Tryz.prog 158 #[.bool g, .slice x n c, .slice y m d, .int .i64 e] w fun e w' => e = .returned (.int .u64 R) ∧ Below w.heap.size w w' := by
  have H0 := Lib.hid hM2
  clear hM2
  go_enter Tryz.func158, Tryz.ntmps158
  go_wp2_with (first
    | (go_at_call 121; (with_reducible refine (HB1.out _ (Below.refl _ _)).mono ?_); rintro e1 w9 ⟨rfl, rfl⟩)
    | (go_at_call 121; (with_reducible refine (HB2.out _ (Below.refl _ _)).mono ?_); rintro e1 w9 ⟨rfl, rfl⟩)
    | (go_at_call 120; (with_reducible refine (HS.out).mono ?_); rintro e1 w1 ⟨a1, n1, c1, rfl, hv1, hb1⟩)
    | (go_at_call 168; (with_reducible refine (HD.out _ _ _ _ _ _ _ hv1 (HY.out.below hb1)).mono ?_); rintro e2 w2 ⟨a2, n2, c2, a3, n3, c3, rfl, hv2, hv3, hb2⟩; have hl3 := hv3.lenp H0.out)
    | (go_at_call 120; (with_reducible refine (HS1.out _ _ _ _ hv2).mono ?_); rintro e3 w3 ⟨a4, n4, c4, rfl, hv4, hb3⟩)
    | (go_at_call 122; (with_reducible refine (HOf.out _).mono ?_); rintro e4 w4 ⟨a5, n5, c5, rfl, hv5, hb4⟩)
    | (go_at_call 146; (with_reducible refine (HA.out _ _ _ _ _ _ _ (hv4.below hb4) hv5).mono ?_); rintro e5 w5 ⟨a6, n6, c6, rfl, hv6, hb5⟩)
    | (go_at_call 134; (with_reducible refine (HM.out _ _ _ _ hv6).mono ?_); rintro e6 w6 ⟨rfl, hb6⟩))
  go_ret
  exact ⟨rfl, btn hb1 (btn hb2 (btn hb3 (btn hb4 (btn hb5 hb6))))⟩
set_option maxRecDepth 100000 in
set_option maxHeartbeats 2000000 in
theorem rquo_1 (g : Bool) (A B X C : Nat) (la lb e k R : Int) (hk : 70 + lb - la = k) (hk0 : 0 ≤ k ∧ k ≤ 200) (bl : 0 ≤ la ∧ la ≤ 100 ∧ 0 ≤ lb ∧ lb ≤ 100) (be : -10000 ≤ e ∧ e ≤ 10000) (x : Option Addr) (n c : Nat) (y : Option Addr) (m d : Nat) (M2 : Nat) (hM2 : M2 = 0) (w : World) (HB1 : Hid (∀ w1, Below w.heap.size w w1 → Calls Tryz.prog 121 #[.slice y m d] w1 fun e w' => e = .returned (.int .i64 lb) ∧ w1 = w')) (HB2 : Hid (∀ w1, Below w.heap.size w w1 → Calls Tryz.prog 121 #[.slice x n c] w1 fun e w' => e = .returned (.int .i64 la) ∧ w1 = w')) (HY : Hid (Nw w (.slice y m d) B)) (HS : Hid (Calls Tryz.prog 120 #[.slice x n c, .int .i64 k] w (OneOk w X))) (HD : Hid (∀ (w1 : World) (a1 : Option Addr) (n1 c1 : Nat) (a2 : Option Addr) (n2 c2 : Nat), Nw w1 (.slice a1 n1 c1) (X) → Nw w1 (.slice a2 n2 c2) (B) → Calls Tryz.prog 168 #[.slice a1 n1 c1, .slice a2 n2 c2] w1 (Two3 w1 C M2))) (HS1 : Hid (∀ (w1 : World) (a1 : Option Addr) (n1 c1 : Nat), Nw w1 (.slice a1 n1 c1) (C) → Calls Tryz.prog 120 #[.slice a1 n1 c1, .int .i64 (1)] w1 (OneOk w1 (C * 2)))) (HOf : Hid (∀ w1, Calls Tryz.prog 122 #[.int .u64 1] w1 (One w1 1))) (HM : Hid (∀ (w1 : World) (a1 : Option Addr) (n1 c1 : Nat), Nw w1 (.slice a1 n1 c1) (C * 2) → Calls Tryz.prog 134 #[.bool (g), .slice a1 n1 c1, .int .i64 (e - k - 1)] w1 fun e w' => e = .returned (.int .u64 R) ∧ Below w1.heap.size w1 w'))  : Calls Tryz.prog 158 #[.bool g, .slice x n c, .slice y m d, .int .i64 e] w fun e w' => e = .returned (.int .u64 R) ∧ Below w.heap.size w w' := by
  subst hM2
  go_enter Tryz.func158, Tryz.ntmps158
  go_wp2_with (first
    | (go_at_call 121; (with_reducible refine (HB1.out _ (Below.refl _ _)).mono ?_); rintro e1 w9 ⟨rfl, rfl⟩)
    | (go_at_call 121; (with_reducible refine (HB2.out _ (Below.refl _ _)).mono ?_); rintro e1 w9 ⟨rfl, rfl⟩)
    | (go_at_call 120; (with_reducible refine (HS.out).mono ?_); rintro e1 w1 ⟨a1, n1, c1, rfl, hv1, hb1⟩)
    | (go_at_call 168; (with_reducible refine (HD.out _ _ _ _ _ _ _ hv1 (HY.out.below hb1)).mono ?_); rintro e2 w2 ⟨a2, n2, c2, a3, n3, c3, rfl, hv2, hv3, hb2⟩; obtain rfl := hv3.len0)
    | (go_at_call 120; (with_reducible refine (HS1.out _ _ _ _ hv2).mono ?_); rintro e3 w3 ⟨a4, n4, c4, rfl, hv4, hb3⟩)
    | (go_at_call 134; (with_reducible refine (HM.out _ _ _ _ hv4).mono ?_); rintro e6 w6 ⟨rfl, hb6⟩))
  go_ret
  exact ⟨rfl, btn hb1 (btn hb2 (btn hb3 hb6))⟩
theorem rquo_c (g : Bool) {A B : Nat} (hA0 : A ≠ 0) (hB0 : B ≠ 0) (hA : bl A ≤ 53) (hB : bl B ≤ 53) (e : Int) (be : -10000 ≤ e ∧ e ≤ 10000) {x y : Option Addr} {n c m d : Nat} {w : World} (hx : Nw w (.slice x n c) A) (hy : Nw w (.slice y m d) B) :
    Calls Tryz.prog 158 #[.bool g, .slice x n c, .slice y m d, .int .i64 e] w fun z w' => z = .returned (.int .u64 ((sg g (quoV A B e) : Nat) : Int)) ∧ Below w.heap.size w w' := by
  have pa := bl_pos hA0
  have pb := bl_pos hB0
  obtain ⟨k, hk⟩ : ∃ k : Nat, k = 70 + bl B - bl A := ⟨_, rfl⟩
  rw [quoV_eq A B e k hk]
  have hx1 := bl_shl A k
  have hq : A * 2 ^ k / B ≤ A * 2 ^ k := Nat.div_le_self _ _
  have bq := bl_mono hq
  have bq2 : bl (A * 2 ^ k / B * 2) ≤ 400 := Nat.le_trans (by have := bl_shl (A * 2 ^ k / B) 1; rw [Nat.pow_one] at this; exact this) (by omega)
  have b1 : bl 1 = 1 := by decide
  have bq3 : bl (A * 2 ^ k / B * 2 + 1) ≤ 401 := bl_addb bq2 (by omega)
  have HB1 := Lib.hid (fun (w1 : World) (hb : Below w.heap.size w w1) => rbits_n (hy.below hb) (by omega))
  have HB2 := Lib.hid (fun (w1 : World) (hb : Below w.heap.size w w1) => rbits_n (hx.below hb) (by omega))
  have HS := Lib.hid (rshl_n k hx (by omega))
  have HD := Lib.hid (fun (w1 : World) (a1 : Option Addr) (n1 c1 : Nat) (a2 : Option Addr) (n2 c2 : Nat) (h1 : Nw w1 (.slice a1 n1 c1) (A * 2 ^ k)) (h2 : Nw w1 (.slice a2 n2 c2) B) => rdiv_n h1 (by omega) h2 (by omega) hB0)
  have HS1 : Hid (∀ (w1 : World) (a1 : Option Addr) (n1 c1 : Nat), Nw w1 (.slice a1 n1 c1) (A * 2 ^ k / B) → Calls Tryz.prog 120 #[.slice a1 n1 c1, .int .i64 1] w1 (OneOk w1 (A * 2 ^ k / B * 2))) := fun w1 a1 n1 c1 h => by
    have := rshl_n 1 h (by omega)
    rw [Nat.pow_one] at this; exact this
  have HOf : Hid (∀ w1, Calls Tryz.prog 122 #[.int .u64 1] w1 (One w1 1)) := fun w1 => rof_n 1 w1 (W_of (by decide))
  have HA := Lib.hid (fun (w1 : World) (a1 : Option Addr) (n1 c1 : Nat) (a2 : Option Addr) (n2 c2 : Nat) (h1 : Nw w1 (.slice a1 n1 c1) (A * 2 ^ k / B * 2)) (h2 : Nw w1 (.slice a2 n2 c2) 1) => radd_n h1 (by omega) h2 (by omega))
  have hkk : 70 + (bl B : Int) - (bl A : Int) = (k : Int) := by omega
  by_cases r0 : A * 2 ^ k % B = 0
  · have HM := Lib.hid (fun (w1 : World) (a1 : Option Addr) (n1 c1 : Nat) (h : Nw w1 (.slice a1 n1 c1) (A * 2 ^ k / B * 2)) => rmake_n g h (by omega) (e - (k : Int) - 1) (by omega))
    rw [if_neg (by rw [r0]; exact fun h => h rfl), Nat.add_zero, Nat.mul_comm 2]
    exact rquo_1 g A B _ _ _ _ e _ _ hkk (by omega) (by omega) be x n c y m d _ r0 w HB1 HB2 (Lib.hid hy) HS HD HS1 HOf HM
  · have HM := Lib.hid (fun (w1 : World) (a1 : Option Addr) (n1 c1 : Nat) (h : Nw w1 (.slice a1 n1 c1) (A * 2 ^ k / B * 2 + 1)) => rmake_n g h (by omega) (e - (k : Int) - 1) (by omega))
    rw [if_pos r0, Nat.mul_comm 2]
    exact rquo_0 g A B _ _ _ _ e _ _ hkk (by omega) (by omega) be x n c y m d _ r0 w HB1 HB2 (Lib.hid hy) HS HD HS1 HOf HA HM
set_option maxRecDepth 100000 in
set_option maxHeartbeats 2000000 in
theorem rDiv_n1 (a b : Nat) (p q : Bool) (G1 : Hid (PB 69 a p)) (G2 : Hid (PB 69 b q)) (N1 : Hid (PB 64 a true)) (w : World) : Calls Tryz.prog 127 #[.int .u64 a, .int .u64 b] w fun e w' => e = .returned (.int .u64 (9221120237041090560)) ∧ Below w.heap.size w w' := by
  go_enter Tryz.func127, Tryz.ntmps127
  go_wp2_with (first
    | (go_at_call 69; (with_reducible refine (G1.out _).mono ?_); rintro e1 w1 ⟨rfl, rfl⟩)
    | (go_at_call 69; (with_reducible refine (G2.out _).mono ?_); rintro e1 w1 ⟨rfl, rfl⟩)
    | (go_at_call 64; (with_reducible refine (N1.out _).mono ?_); rintro e1 w1 ⟨rfl, rfl⟩))
  go_ret
  exact ⟨rfl, Below.refl _ _⟩
set_option maxRecDepth 100000 in
set_option maxHeartbeats 2000000 in
theorem rDiv_n2 (a b : Nat) (p q : Bool) (G1 : Hid (PB 69 a p)) (G2 : Hid (PB 69 b q)) (N1 : Hid (PB 64 a false)) (N2 : Hid (PB 64 b true)) (w : World) : Calls Tryz.prog 127 #[.int .u64 a, .int .u64 b] w fun e w' => e = .returned (.int .u64 (9221120237041090560)) ∧ Below w.heap.size w w' := by
  go_enter Tryz.func127, Tryz.ntmps127
  go_wp2_with (first
    | (go_at_call 69; (with_reducible refine (G1.out _).mono ?_); rintro e1 w1 ⟨rfl, rfl⟩)
    | (go_at_call 69; (with_reducible refine (G2.out _).mono ?_); rintro e1 w1 ⟨rfl, rfl⟩)
    | (go_at_call 64; (with_reducible refine (N1.out _).mono ?_); rintro e1 w1 ⟨rfl, rfl⟩)
    | (go_at_call 64; (with_reducible refine (N2.out _).mono ?_); rintro e1 w1 ⟨rfl, rfl⟩))
  go_ret
  exact ⟨rfl, Below.refl _ _⟩
set_option maxRecDepth 100000 in
set_option maxHeartbeats 2000000 in
theorem rDiv_ii (a b : Nat) (p q : Bool) (G1 : Hid (PB 69 a p)) (G2 : Hid (PB 69 b q)) (N1 : Hid (PB 64 a false)) (N2 : Hid (PB 64 b false)) (I1 : Hid (PB 99 a true)) (I2 : Hid (PB 99 b true)) (w : World) : Calls Tryz.prog 127 #[.int .u64 a, .int .u64 b] w fun e w' => e = .returned (.int .u64 (9221120237041090560)) ∧ Below w.heap.size w w' := by
  go_enter Tryz.func127, Tryz.ntmps127
  go_wp2_with (first
    | (go_at_call 69; (with_reducible refine (G1.out _).mono ?_); rintro e1 w1 ⟨rfl, rfl⟩)
    | (go_at_call 69; (with_reducible refine (G2.out _).mono ?_); rintro e1 w1 ⟨rfl, rfl⟩)
    | (go_at_call 64; (with_reducible refine (N1.out _).mono ?_); rintro e1 w1 ⟨rfl, rfl⟩)
    | (go_at_call 64; (with_reducible refine (N2.out _).mono ?_); rintro e1 w1 ⟨rfl, rfl⟩)
    | (go_at_call 99; (with_reducible refine (I1.out _).mono ?_); rintro e1 w1 ⟨rfl, rfl⟩)
    | (go_at_call 99; (with_reducible refine (I2.out _).mono ?_); rintro e1 w1 ⟨rfl, rfl⟩))
  go_ret
  exact ⟨rfl, Below.refl _ _⟩
set_option maxRecDepth 100000 in
set_option maxHeartbeats 2000000 in
theorem rDiv_zz (a b : Nat) (p q : Bool) (G1 : Hid (PB 69 a p)) (G2 : Hid (PB 69 b q)) (N1 : Hid (PB 64 a false)) (N2 : Hid (PB 64 b false)) (I1 : Hid (PB 99 a false)) (Z1 : Hid (PB 61 a true)) (Z2 : Hid (PB 61 b true)) (w : World) : Calls Tryz.prog 127 #[.int .u64 a, .int .u64 b] w fun e w' => e = .returned (.int .u64 (9221120237041090560)) ∧ Below w.heap.size w w' := by
  go_enter Tryz.func127, Tryz.ntmps127
  go_wp2_with (first
    | (go_at_call 69; (with_reducible refine (G1.out _).mono ?_); rintro e1 w1 ⟨rfl, rfl⟩)
    | (go_at_call 69; (with_reducible refine (G2.out _).mono ?_); rintro e1 w1 ⟨rfl, rfl⟩)
    | (go_at_call 64; (with_reducible refine (N1.out _).mono ?_); rintro e1 w1 ⟨rfl, rfl⟩)
    | (go_at_call 64; (with_reducible refine (N2.out _).mono ?_); rintro e1 w1 ⟨rfl, rfl⟩)
    | (go_at_call 99; (with_reducible refine (I1.out _).mono ?_); rintro e1 w1 ⟨rfl, rfl⟩)
    | (go_at_call 61; (with_reducible refine (Z1.out _).mono ?_); rintro e1 w1 ⟨rfl, rfl⟩)
    | (go_at_call 61; (with_reducible refine (Z2.out _).mono ?_); rintro e1 w1 ⟨rfl, rfl⟩))
  go_ret
  exact ⟨rfl, Below.refl _ _⟩
set_option maxRecDepth 100000 in
set_option maxHeartbeats 2000000 in
theorem rDiv_i1 (a b : Nat) (p q : Bool) (R : Int) (SG : Hid (∀ w, Calls Tryz.prog 157 #[.bool (!(p == q)), .int .u64 9218868437227405312] w fun e w' => e = .returned (.int .u64 R) ∧ w = w')) (G1 : Hid (PB 69 a p)) (G2 : Hid (PB 69 b q)) (N1 : Hid (PB 64 a false)) (N2 : Hid (PB 64 b false)) (I1 : Hid (PB 99 a true)) (I2 : Hid (PB 99 b false)) (Z1 : Hid (PB 61 a false)) (w : World) : Calls Tryz.prog 127 #[.int .u64 a, .int .u64 b] w fun e w' => e = .returned (.int .u64 (R)) ∧ Below w.heap.size w w' := by
  go_enter Tryz.func127, Tryz.ntmps127
  go_wp2_with (first
    | (go_at_call 69; (with_reducible refine (G1.out _).mono ?_); rintro e1 w1 ⟨rfl, rfl⟩)
    | (go_at_call 69; (with_reducible refine (G2.out _).mono ?_); rintro e1 w1 ⟨rfl, rfl⟩)
    | (go_at_call 64; (with_reducible refine (N1.out _).mono ?_); rintro e1 w1 ⟨rfl, rfl⟩)
    | (go_at_call 64; (with_reducible refine (N2.out _).mono ?_); rintro e1 w1 ⟨rfl, rfl⟩)
    | (go_at_call 99; (with_reducible refine (I1.out _).mono ?_); rintro e1 w1 ⟨rfl, rfl⟩)
    | (go_at_call 99; (with_reducible refine (I2.out _).mono ?_); rintro e1 w1 ⟨rfl, rfl⟩)
    | (go_at_call 61; (with_reducible refine (Z1.out _).mono ?_); rintro e1 w1 ⟨rfl, rfl⟩)
    | (go_at_call 157; (with_reducible refine (SG.out _).mono ?_); rintro e1 w1 ⟨rfl, rfl⟩))
  go_ret
  exact ⟨rfl, Below.refl _ _⟩
set_option maxRecDepth 100000 in
set_option maxHeartbeats 2000000 in
theorem rDiv_z2 (a b : Nat) (p q : Bool) (R : Int) (SG : Hid (∀ w, Calls Tryz.prog 157 #[.bool (!(p == q)), .int .u64 9218868437227405312] w fun e w' => e = .returned (.int .u64 R) ∧ w = w')) (G1 : Hid (PB 69 a p)) (G2 : Hid (PB 69 b q)) (N1 : Hid (PB 64 a false)) (N2 : Hid (PB 64 b false)) (I1 : Hid (PB 99 a false)) (Z1 : Hid (PB 61 a false)) (Z2 : Hid (PB 61 b true)) (w : World) : Calls Tryz.prog 127 #[.int .u64 a, .int .u64 b] w fun e w' => e = .returned (.int .u64 (R)) ∧ Below w.heap.size w w' := by
  go_enter Tryz.func127, Tryz.ntmps127
  go_wp2_with (first
    | (go_at_call 69; (with_reducible refine (G1.out _).mono ?_); rintro e1 w1 ⟨rfl, rfl⟩)
    | (go_at_call 69; (with_reducible refine (G2.out _).mono ?_); rintro e1 w1 ⟨rfl, rfl⟩)
    | (go_at_call 64; (with_reducible refine (N1.out _).mono ?_); rintro e1 w1 ⟨rfl, rfl⟩)
    | (go_at_call 64; (with_reducible refine (N2.out _).mono ?_); rintro e1 w1 ⟨rfl, rfl⟩)
    | (go_at_call 99; (with_reducible refine (I1.out _).mono ?_); rintro e1 w1 ⟨rfl, rfl⟩)
    | (go_at_call 61; (with_reducible refine (Z1.out _).mono ?_); rintro e1 w1 ⟨rfl, rfl⟩)
    | (go_at_call 61; (with_reducible refine (Z2.out _).mono ?_); rintro e1 w1 ⟨rfl, rfl⟩)
    | (go_at_call 157; (with_reducible refine (SG.out _).mono ?_); rintro e1 w1 ⟨rfl, rfl⟩))
  go_ret
  exact ⟨rfl, Below.refl _ _⟩
set_option maxRecDepth 100000 in
set_option maxHeartbeats 2000000 in
theorem rDiv_i2 (a b : Nat) (p q : Bool) (R : Int) (SG : Hid (∀ w, Calls Tryz.prog 157 #[.bool (!(p == q)), .int .u64 0] w fun e w' => e = .returned (.int .u64 R) ∧ w = w')) (G1 : Hid (PB 69 a p)) (G2 : Hid (PB 69 b q)) (N1 : Hid (PB 64 a false)) (N2 : Hid (PB 64 b false)) (I1 : Hid (PB 99 a false)) (Z1 : Hid (PB 61 a false)) (Z2 : Hid (PB 61 b false)) (I2 : Hid (PB 99 b true)) (w : World) : Calls Tryz.prog 127 #[.int .u64 a, .int .u64 b] w fun e w' => e = .returned (.int .u64 (R)) ∧ Below w.heap.size w w' := by
  go_enter Tryz.func127, Tryz.ntmps127
  go_wp2_with (first
    | (go_at_call 69; (with_reducible refine (G1.out _).mono ?_); rintro e1 w1 ⟨rfl, rfl⟩)
    | (go_at_call 69; (with_reducible refine (G2.out _).mono ?_); rintro e1 w1 ⟨rfl, rfl⟩)
    | (go_at_call 64; (with_reducible refine (N1.out _).mono ?_); rintro e1 w1 ⟨rfl, rfl⟩)
    | (go_at_call 64; (with_reducible refine (N2.out _).mono ?_); rintro e1 w1 ⟨rfl, rfl⟩)
    | (go_at_call 99; (with_reducible refine (I1.out _).mono ?_); rintro e1 w1 ⟨rfl, rfl⟩)
    | (go_at_call 61; (with_reducible refine (Z1.out _).mono ?_); rintro e1 w1 ⟨rfl, rfl⟩)
    | (go_at_call 61; (with_reducible refine (Z2.out _).mono ?_); rintro e1 w1 ⟨rfl, rfl⟩)
    | (go_at_call 99; (with_reducible refine (I2.out _).mono ?_); rintro e1 w1 ⟨rfl, rfl⟩)
    | (go_at_call 157; (with_reducible refine (SG.out _).mono ?_); rintro e1 w1 ⟨rfl, rfl⟩))
  go_ret
  exact ⟨rfl, Below.refl _ _⟩
set_option maxRecDepth 100000 in
set_option maxHeartbeats 2000000 in
theorem rDiv_z1f (a b : Nat) (p q : Bool) (R : Int) (SG : Hid (∀ w, Calls Tryz.prog 157 #[.bool (!(p == q)), .int .u64 0] w fun e w' => e = .returned (.int .u64 R) ∧ w = w')) (G1 : Hid (PB 69 a p)) (G2 : Hid (PB 69 b q)) (N1 : Hid (PB 64 a false)) (N2 : Hid (PB 64 b false)) (I1 : Hid (PB 99 a false)) (Z1 : Hid (PB 61 a true)) (Z2 : Hid (PB 61 b false)) (I2 : Hid (PB 99 b false)) (w : World) : Calls Tryz.prog 127 #[.int .u64 a, .int .u64 b] w fun e w' => e = .returned (.int .u64 (R)) ∧ Below w.heap.size w w' := by
  go_enter Tryz.func127, Tryz.ntmps127
  go_wp2_with (first
    | (go_at_call 69; (with_reducible refine (G1.out _).mono ?_); rintro e1 w1 ⟨rfl, rfl⟩)
    | (go_at_call 69; (with_reducible refine (G2.out _).mono ?_); rintro e1 w1 ⟨rfl, rfl⟩)
    | (go_at_call 64; (with_reducible refine (N1.out _).mono ?_); rintro e1 w1 ⟨rfl, rfl⟩)
    | (go_at_call 64; (with_reducible refine (N2.out _).mono ?_); rintro e1 w1 ⟨rfl, rfl⟩)
    | (go_at_call 99; (with_reducible refine (I1.out _).mono ?_); rintro e1 w1 ⟨rfl, rfl⟩)
    | (go_at_call 61; (with_reducible refine (Z1.out _).mono ?_); rintro e1 w1 ⟨rfl, rfl⟩)
    | (go_at_call 61; (with_reducible refine (Z2.out _).mono ?_); rintro e1 w1 ⟨rfl, rfl⟩)
    | (go_at_call 99; (with_reducible refine (I2.out _).mono ?_); rintro e1 w1 ⟨rfl, rfl⟩)
    | (go_at_call 157; (with_reducible refine (SG.out _).mono ?_); rintro e1 w1 ⟨rfl, rfl⟩))
  go_ret
  exact ⟨rfl, Below.refl _ _⟩
set_option maxRecDepth 100000 in
set_option maxHeartbeats 2000000 in
theorem rDiv_z1t (a b : Nat) (p q : Bool) (R : Int) (SG : Hid (∀ w, Calls Tryz.prog 157 #[.bool (!(p == q)), .int .u64 0] w fun e w' => e = .returned (.int .u64 R) ∧ w = w')) (G1 : Hid (PB 69 a p)) (G2 : Hid (PB 69 b q)) (N1 : Hid (PB 64 a false)) (N2 : Hid (PB 64 b false)) (I1 : Hid (PB 99 a false)) (Z1 : Hid (PB 61 a true)) (Z2 : Hid (PB 61 b false)) (I2 : Hid (PB 99 b true)) (w : World) : Calls Tryz.prog 127 #[.int .u64 a, .int .u64 b] w fun e w' => e = .returned (.int .u64 (R)) ∧ Below w.heap.size w w' := by
  go_enter Tryz.func127, Tryz.ntmps127
  go_wp2_with (first
    | (go_at_call 69; (with_reducible refine (G1.out _).mono ?_); rintro e1 w1 ⟨rfl, rfl⟩)
    | (go_at_call 69; (with_reducible refine (G2.out _).mono ?_); rintro e1 w1 ⟨rfl, rfl⟩)
    | (go_at_call 64; (with_reducible refine (N1.out _).mono ?_); rintro e1 w1 ⟨rfl, rfl⟩)
    | (go_at_call 64; (with_reducible refine (N2.out _).mono ?_); rintro e1 w1 ⟨rfl, rfl⟩)
    | (go_at_call 99; (with_reducible refine (I1.out _).mono ?_); rintro e1 w1 ⟨rfl, rfl⟩)
    | (go_at_call 61; (with_reducible refine (Z1.out _).mono ?_); rintro e1 w1 ⟨rfl, rfl⟩)
    | (go_at_call 61; (with_reducible refine (Z2.out _).mono ?_); rintro e1 w1 ⟨rfl, rfl⟩)
    | (go_at_call 99; (with_reducible refine (I2.out _).mono ?_); rintro e1 w1 ⟨rfl, rfl⟩)
    | (go_at_call 157; (with_reducible refine (SG.out _).mono ?_); rintro e1 w1 ⟨rfl, rfl⟩))
  go_ret
  exact ⟨rfl, Below.refl _ _⟩
set_option maxRecDepth 100000 in
set_option maxHeartbeats 2000000 in
theorem rDiv_f (a b : Nat) (p q : Bool) (A B : Nat) (ea eb R : Int) (be : -1074 ≤ ea ∧ ea ≤ 971 ∧ -1074 ≤ eb ∧ eb ≤ 971) (p' q' : Bool) (SA : Hid (∀ w, Calls Tryz.prog 119 #[.int .u64 a] w (Sp w p' A ea))) (SB : Hid (∀ w, Calls Tryz.prog 119 #[.int .u64 b] w (Sp w q' B eb))) (HQ : Hid (∀ (w1 : World) (a1 : Option Addr) (n1 c1 : Nat) (a2 : Option Addr) (n2 c2 : Nat), Nw w1 (.slice a1 n1 c1) A → Nw w1 (.slice a2 n2 c2) B → Calls Tryz.prog 158 #[.bool (!(p == q)), .slice a1 n1 c1, .slice a2 n2 c2, .int .i64 (ea - eb)] w1 fun e w' => e = .returned (.int .u64 R) ∧ Below w1.heap.size w1 w')) (G1 : Hid (PB 69 a p)) (G2 : Hid (PB 69 b q)) (N1 : Hid (PB 64 a false)) (N2 : Hid (PB 64 b false)) (I1 : Hid (PB 99 a false)) (I2 : Hid (PB 99 b false)) (Z1 : Hid (PB 61 a false)) (Z2 : Hid (PB 61 b false)) (w : World) : Calls Tryz.prog 127 #[.int .u64 a, .int .u64 b] w fun e w' => e = .returned (.int .u64 (R)) ∧ Below w.heap.size w w' := by
  go_enter Tryz.func127, Tryz.ntmps127
  go_wp2_with (first
    | (go_at_call 69; (with_reducible refine (G1.out _).mono ?_); rintro e1 w1 ⟨rfl, rfl⟩)
    | (go_at_call 69; (with_reducible refine (G2.out _).mono ?_); rintro e1 w1 ⟨rfl, rfl⟩)
    | (go_at_call 64; (with_reducible refine (N1.out _).mono ?_); rintro e1 w1 ⟨rfl, rfl⟩)
    | (go_at_call 64; (with_reducible refine (N2.out _).mono ?_); rintro e1 w1 ⟨rfl, rfl⟩)
    | (go_at_call 99; (with_reducible refine (I1.out _).mono ?_); rintro e1 w1 ⟨rfl, rfl⟩)
    | (go_at_call 99; (with_reducible refine (I2.out _).mono ?_); rintro e1 w1 ⟨rfl, rfl⟩)
    | (go_at_call 61; (with_reducible refine (Z1.out _).mono ?_); rintro e1 w1 ⟨rfl, rfl⟩)
    | (go_at_call 61; (with_reducible refine (Z2.out _).mono ?_); rintro e1 w1 ⟨rfl, rfl⟩)
    | (go_at_call 119; (with_reducible refine (SA.out _).mono ?_); rintro e1 w1 ⟨a1, n1, c1, rfl, hv1, hb1⟩)
    | (go_at_call 119; (with_reducible refine (SB.out _).mono ?_); rintro e2 w2 ⟨a2, n2, c2, rfl, hv2, hb2⟩)
    | (go_at_call 158; (with_reducible refine (HQ.out _ _ _ _ _ _ _ (hv1.below hb2) hv2).mono ?_); rintro e3 w3 ⟨rfl, hb3⟩))
  go_ret
  exact ⟨rfl, btn hb1 (btn hb2 hb3)⟩
theorem rDiv_c (a b : Nat) (ha : W a) (hb : W b) (w : World) : Calls Tryz.prog 127 #[.int .u64 a, .int .u64 b] w fun e w' => e = .returned (.int .u64 ((divV a b : Nat) : Int)) ∧ Below w.heap.size w w' := by
  have N1 := Lib.hid (risnan_c a ha)
  have N2 := Lib.hid (risnan_c b hb)
  have I1 := Lib.hid (risinf_c a ha)
  have I2 := Lib.hid (risinf_c b hb)
  have Z1 := Lib.hid (riszero_c a ha)
  have Z2 := Lib.hid (riszero_c b hb)
  have G1 := Lib.hid (rminus_c a ha)
  have G2 := Lib.hid (rminus_c b hb)
  have SG := Lib.hid (rsigned_c 9218868437227405312 (ng a != ng b) (by decide))
  have S0 := Lib.hid (rsigned_c 0 (ng a != ng b) (by decide))
  by_cases n1 : nan a = true
  · rw [show divV a b = NaN by simp [divV, n1]]; rw [n1] at N1; exact rDiv_n1 a b _ _ G1 G2 N1 w
  have n1 := Bool.eq_false_iff.2 n1; rw [n1] at N1
  by_cases n2 : nan b = true
  · rw [show divV a b = NaN by simp [divV, n1, n2]]; rw [n2] at N2; exact rDiv_n2 a b _ _ G1 G2 N1 N2 w
  have n2 := Bool.eq_false_iff.2 n2; rw [n2] at N2
  by_cases i1 : inf a = true
  · have z1 := inf_zer i1
    rw [i1] at I1; rw [z1] at Z1
    by_cases i2 : inf b = true
    · rw [show divV a b = NaN by simp [divV, n1, n2, i1, i2]]; rw [i2] at I2; exact rDiv_ii a b _ _ G1 G2 N1 N2 I1 I2 w
    · have i2 := Bool.eq_false_iff.2 i2; rw [i2] at I2
      rw [show divV a b = sg (ng a != ng b) Inf by simp [divV, n1, n2, i1, z1, i2]]
      exact rDiv_i1 a b _ _ _ SG G1 G2 N1 N2 I1 I2 Z1 w
  have i1 := Bool.eq_false_iff.2 i1; rw [i1] at I1
  by_cases z2 : zer b = true
  · rw [z2] at Z2
    by_cases z1 : zer a = true
    · rw [show divV a b = NaN by simp [divV, n1, n2, i1, z1, z2]]; rw [z1] at Z1; exact rDiv_zz a b _ _ G1 G2 N1 N2 I1 Z1 Z2 w
    · have z1 := Bool.eq_false_iff.2 z1; rw [z1] at Z1
      rw [show divV a b = sg (ng a != ng b) Inf by simp [divV, n1, n2, i1, z1, z2]]
      exact rDiv_z2 a b _ _ _ SG G1 G2 N1 N2 I1 Z1 Z2 w
  have z2 := Bool.eq_false_iff.2 z2; rw [z2] at Z2
  by_cases z1 : zer a = true
  · rw [z1] at Z1
    rw [show divV a b = sg (ng a != ng b) 0 by simp [divV, n1, n2, i1, z1, z2]]
    by_cases i2 : inf b = true
    · rw [i2] at I2; exact rDiv_z1t a b _ _ _ S0 G1 G2 N1 N2 I1 Z1 Z2 I2 w
    · rw [Bool.eq_false_iff.2 i2] at I2; exact rDiv_z1f a b _ _ _ S0 G1 G2 N1 N2 I1 Z1 Z2 I2 w
  have z1 := Bool.eq_false_iff.2 z1; rw [z1] at Z1
  by_cases i2 : inf b = true
  · rw [i2] at I2
    rw [show divV a b = sg (ng a != ng b) 0 by simp [divV, n1, n2, i1, i2, z1, z2]]
    exact rDiv_i2 a b _ _ _ S0 G1 G2 N1 N2 I1 Z1 Z2 I2 w
  have i2 := Bool.eq_false_iff.2 i2; rw [i2] at I2
  have be : -1074 ≤ se a ∧ se a ≤ 971 ∧ -1074 ≤ se b ∧ se b ≤ 971 := ⟨se_ge a, se_le n1 i1, se_ge b, se_le n2 i2⟩
  have SA := Lib.hid (fun w => rsplit_c a ha n1 i1 w)
  have SB := Lib.hid (fun w => rsplit_c b hb n2 i2 w)
  have a0 : sm a ≠ 0 := fun h => by have := sm_zero.1 h; rw [z1] at this; cases this
  have b0 : sm b ≠ 0 := fun h => by have := sm_zero.1 h; rw [z2] at this; cases this
  have HQ := Lib.hid (fun (w1 : World) (a1 : Option Addr) (n1 c1 : Nat) (a2 : Option Addr) (n2 c2 : Nat) (h1 : Nw w1 (.slice a1 n1 c1) (sm a)) (h2 : Nw w1 (.slice a2 n2 c2) (sm b)) => rquo_c (ng a != ng b) a0 b0 (bl_sm a) (bl_sm b) (se a - se b) (by omega) h1 h2)
  rw [show divV a b = divF a b by simp [divV, n1, n2, i1, i2, z1, z2]]
  exact rDiv_f a b _ _ _ _ _ _ _ be _ _ SA SB HQ G1 G2 N1 N2 I1 I2 Z1 Z2 w
end Go.Proofs.YtkifdppppihjcaaGreat

namespace Go.Proofs.YtkifdppppihjcaaGreat
set_option linter.unusedVariables false
set_option linter.unusedSimpArgs false
open Go.RowKit Go.Shelf SF

theorem rootL_succ (M i r : Nat) : rootL M (i + 1) r = if (r + 2 ^ i) * (r + 2 ^ i) ≤ M then rootL M i (r + 2 ^ i) else rootL M i r := rfl
def RootRel (w : World) (M : Nat) (v3 v4 : Value) (wr : World) : Prop := ∃ (j r n c : Nat) (a : Option Addr), j ≤ 67 ∧ v3 = .slice a n c ∧ v4 = .int .i64 ((j : Int) - 1) ∧ Below w.heap.size w wr ∧ Hid (Nw wr (.slice a n c) r ∧ isq M = rootL M j r ∧ r + 2 ^ j ≤ 2 ^ 67)
set_option maxRecDepth 100000 in
set_option maxHeartbeats 4000000 in
theorem rroot_c {w : World} {a : Option Addr} {n c M : Nat} (h : Nw w (.slice a n c) M) (hM : bl M ≤ 200) : Calls Tryz.prog 144 #[.slice a n c] w fun e w' => ∃ a n c, e = .returned (.slice a n c) ∧ Nw w' (.slice a n c) (isq M) ∧ Below w.heap.size w w' := by
  have HM := Lib.hid h
  have HOf : Hid (∀ w1, Calls Tryz.prog 122 #[.int .u64 1] w1 (One w1 1)) := fun w1 => rof_n 1 w1 (W_of (by decide))
  clear h
  go_enter Tryz.func144, Tryz.ntmps144
  go_wp2
  go_loopw [3, 4, 5, 6, 7, 8, 9] (fun v3 v4 _ _ _ _ _ wr => RootRel w M v3 v4 wr) (fun _ v4 _ _ _ _ _ _ => (intOf v4 + 1).toNat)
  case atStart => unfold RootRel; exact ⟨67, 0, 0, 0, none, by decide, rfl, rfl, Below.refl _ _, by unfold Nw; rw [ws_zero]; exact Rd.nil _ _ _, rfl, by decide⟩
  case round =>
    obtain ⟨j, r, n1, c1, a1, hj, rfl, rfl, hbw, HO⟩ := hrel
    cases j with
    | zero =>
      have HE := HO.out.2.1
      have HQ := Lib.hid (show isq M = r from HE)
      clear HE
      go_wp2
      go_ret
      exact ⟨a1, n1, c1, rfl, by rw [HQ.out]; exact HO.out.1, hbw⟩
    | succ i =>
      have hr := HO.out.2.2
      have hp : 2 ^ (i + 1) = 2 * 2 ^ i := by rw [Nat.pow_succ, Nat.mul_comm]
      have bT : bl (r + 2 ^ i) ≤ 68 := by
        apply bl_le_of_lt
        have : (2 : Nat) ^ 68 = 2 * 2 ^ 67 := by decide
        have p0 := Nat.two_pow_pos i
        omega
      have br : bl r ≤ 68 := bl_mono' (Nat.le_add_right _ _) bT
      have bp : bl (2 ^ i) ≤ 68 := bl_mono' (Nat.le_add_left _ _) bT
      have bs := bl_mulb bT bT
      have hir := HO.out.2.1
      rw [rootL_succ] at hir
      have HS : Hid (∀ (w1 : World) (a1 : Option Addr) (n1 c1 : Nat), Nw w1 (.slice a1 n1 c1) 1 → Calls Tryz.prog 120 #[.slice a1 n1 c1, .int .i64 (i : Int)] w1 (OneOk w1 (2 ^ i))) := fun w1 a1 n1 c1 h => by
        have b1 : bl 1 = 1 := by decide
        have := rshl_n i h (by omega)
        rw [Nat.one_mul] at this; exact this
      have HA := Lib.hid (fun (w1 : World) (a1 : Option Addr) (n1 c1 : Nat) (a2 : Option Addr) (n2 c2 : Nat) (h1 : Nw w1 (.slice a1 n1 c1) r) (h2 : Nw w1 (.slice a2 n2 c2) (2 ^ i)) => radd_n h1 (by omega) h2 (by omega))
      have HMu := Lib.hid (fun (w1 : World) (a1 : Option Addr) (n1 c1 : Nat) (h1 : Nw w1 (.slice a1 n1 c1) (r + 2 ^ i)) => rmul_n h1 h1 (by omega))
      have HC := Lib.hid (fun (w1 : World) (a1 : Option Addr) (n1 c1 : Nat) (a2 : Option Addr) (n2 c2 : Nat) (h1 : Nw w1 (.slice a1 n1 c1) ((r + 2 ^ i) * (r + 2 ^ i))) (h2 : Nw w1 (.slice a2 n2 c2) M) => rcmp_n h1 (by omega) h2 (by omega))
      by_cases hle : (r + 2 ^ i) * (r + 2 ^ i) ≤ M
      · rw [if_pos hle] at hir
        have hc := cmp_le0 hle
        obtain ⟨t, ht⟩ : ∃ t, cmpI (((r + 2 ^ i) * (r + 2 ^ i) : Nat) : Int) (M : Int) = t := ⟨_, rfl⟩
        rw [ht] at HC hc
        have HI := Lib.hid hir
        have HP := Lib.hid (show r + 2 ^ i + 2 ^ i ≤ 2 ^ 67 by omega)
        clear ht hir hle hr hp bT br bp bs
        go_wp2_with (first
          | (go_at_call 122; (with_reducible refine (HOf.out _).mono ?_); rintro e1 w1 ⟨a2, n2, c2, rfl, hv2, hb1⟩)
          | (go_at_call 120; (with_reducible refine (HS.out _ _ _ _ hv2).mono ?_); rintro e1 w2 ⟨a3, n3, c3, rfl, hv3, hb2⟩)
          | (go_at_call 146; refine (HA.out _ _ _ _ _ _ _ (HO.out.1.below (btn hb1 hb2)) hv3).mono ?_; rintro e1 w3 ⟨a4, n4, c4, rfl, hv4, hb3⟩)
          | (go_at_call 145; (with_reducible refine (HMu.out _ _ _ _ hv4).mono ?_); rintro e1 w4 ⟨a5, n5, c5, rfl, hv5, hb4⟩)
          | (go_at_call 123; refine (HC.out _ _ _ _ _ _ _ hv5 (HM.out.below (btn hbw (btn hb1 (btn hb2 (btn hb3 hb4)))))).mono ?_; rintro e1 w5 ⟨rfl, hb5⟩))
        go_roundw
        case rel =>
          unfold RootRel
          exact ⟨i, r + 2 ^ i, n4, c4, a4, by omega, rfl, by go_num, btn hbw (btn hb1 (btn hb2 (btn hb3 (btn hb4 hb5)))), hv4.below (btn hb4 hb5), HI.out, HP.out⟩
        case measure => simp [intOf]
      · rw [if_neg hle] at hir
        have hc := cmp_gt0 (show M < (r + 2 ^ i) * (r + 2 ^ i) by omega)
        obtain ⟨t, ht⟩ : ∃ t, cmpI (((r + 2 ^ i) * (r + 2 ^ i) : Nat) : Int) (M : Int) = t := ⟨_, rfl⟩
        rw [ht] at HC hc
        have HI := Lib.hid hir
        have HP := Lib.hid (show r + 2 ^ i ≤ 2 ^ 67 by omega)
        clear ht hir hle hr hp bT br bp bs
        go_wp2_with (first
          | (go_at_call 122; (with_reducible refine (HOf.out _).mono ?_); rintro e1 w1 ⟨a2, n2, c2, rfl, hv2, hb1⟩)
          | (go_at_call 120; (with_reducible refine (HS.out _ _ _ _ hv2).mono ?_); rintro e1 w2 ⟨a3, n3, c3, rfl, hv3, hb2⟩)
          | (go_at_call 146; refine (HA.out _ _ _ _ _ _ _ (HO.out.1.below (btn hb1 hb2)) hv3).mono ?_; rintro e1 w3 ⟨a4, n4, c4, rfl, hv4, hb3⟩)
          | (go_at_call 145; (with_reducible refine (HMu.out _ _ _ _ hv4).mono ?_); rintro e1 w4 ⟨a5, n5, c5, rfl, hv5, hb4⟩)
          | (go_at_call 123; refine (HC.out _ _ _ _ _ _ _ hv5 (HM.out.below (btn hbw (btn hb1 (btn hb2 (btn hb3 hb4)))))).mono ?_; rintro e1 w5 ⟨rfl, hb5⟩))
        go_roundw
        case rel =>
          unfold RootRel
          exact ⟨i, r, n1, c1, a1, by omega, rfl, by go_num, btn hbw (btn hb1 (btn hb2 (btn hb3 (btn hb4 hb5)))), HO.out.1.below (btn hb1 (btn hb2 (btn hb3 (btn hb4 hb5)))), HI.out, HP.out⟩
        case measure => simp [intOf]
end Go.Proofs.YtkifdppppihjcaaGreat

namespace Go.Proofs.YtkifdppppihjcaaGreat
set_option linter.unusedVariables false
set_option linter.unusedSimpArgs false
open Go.RowKit Go.Shelf SF
set_option maxRecDepth 100000 in
set_option maxHeartbeats 2000000 in
theorem rSqrt_n1 (a : Nat) (N1 : Hid (PB 64 a true)) (w : World) : Calls Tryz.prog 97 #[.int .u64 a] w fun e w' => e = .returned (.int .u64 (9221120237041090560)) ∧ Below w.heap.size w w' := by
  go_enter Tryz.func97, Tryz.ntmps97
  go_wp2_with (first
    | (go_at_call 64; (with_reducible refine (N1.out _).mono ?_); rintro e1 w1 ⟨rfl, rfl⟩))
  go_ret
  exact ⟨rfl, Below.refl _ _⟩
set_option maxRecDepth 100000 in
set_option maxHeartbeats 2000000 in
theorem rSqrt_z1 (a : Nat) (N1 : Hid (PB 64 a false)) (Z1 : Hid (PB 61 a true)) (w : World) : Calls Tryz.prog 97 #[.int .u64 a] w fun e w' => e = .returned (.int .u64 ((a : Int))) ∧ Below w.heap.size w w' := by
  go_enter Tryz.func97, Tryz.ntmps97
  go_wp2_with (first
    | (go_at_call 64; (with_reducible refine (N1.out _).mono ?_); rintro e1 w1 ⟨rfl, rfl⟩)
    | (go_at_call 61; (with_reducible refine (Z1.out _).mono ?_); rintro e1 w1 ⟨rfl, rfl⟩))
  go_ret
  exact ⟨rfl, Below.refl _ _⟩
set_option maxRecDepth 100000 in
set_option maxHeartbeats 2000000 in
theorem rSqrt_g1 (a : Nat) (N1 : Hid (PB 64 a false)) (Z1 : Hid (PB 61 a false)) (G1 : Hid (PB 69 a true)) (w : World) : Calls Tryz.prog 97 #[.int .u64 a] w fun e w' => e = .returned (.int .u64 (9221120237041090560)) ∧ Below w.heap.size w w' := by
  go_enter Tryz.func97, Tryz.ntmps97
  go_wp2_with (first
    | (go_at_call 64; (with_reducible refine (N1.out _).mono ?_); rintro e1 w1 ⟨rfl, rfl⟩)
    | (go_at_call 61; (with_reducible refine (Z1.out _).mono ?_); rintro e1 w1 ⟨rfl, rfl⟩)
    | (go_at_call 69; (with_reducible refine (G1.out _).mono ?_); rintro e1 w1 ⟨rfl, rfl⟩))
  go_ret
  exact ⟨rfl, Below.refl _ _⟩
set_option maxRecDepth 100000 in
set_option maxHeartbeats 2000000 in
theorem rSqrt_i1 (a : Nat) (N1 : Hid (PB 64 a false)) (Z1 : Hid (PB 61 a false)) (G1 : Hid (PB 69 a false)) (I1 : Hid (PB 99 a true)) (w : World) : Calls Tryz.prog 97 #[.int .u64 a] w fun e w' => e = .returned (.int .u64 ((a : Int))) ∧ Below w.heap.size w w' := by
  go_enter Tryz.func97, Tryz.ntmps97
  go_wp2_with (first
    | (go_at_call 64; (with_reducible refine (N1.out _).mono ?_); rintro e1 w1 ⟨rfl, rfl⟩)
    | (go_at_call 61; (with_reducible refine (Z1.out _).mono ?_); rintro e1 w1 ⟨rfl, rfl⟩)
    | (go_at_call 69; (with_reducible refine (G1.out _).mono ?_); rintro e1 w1 ⟨rfl, rfl⟩)
    | (go_at_call 99; (with_reducible refine (I1.out _).mono ?_); rintro e1 w1 ⟨rfl, rfl⟩))
  go_ret
  exact ⟨rfl, Below.refl _ _⟩
set_option maxRecDepth 100000 in
set_option maxHeartbeats 2000000 in
theorem rSqrt_f00 (a : Nat) (N1 : Hid (PB 64 a false)) (Z1 : Hid (PB 61 a false)) (G1 : Hid (PB 69 a false)) (I1 : Hid (PB 99 a false)) (A M S X : Nat) (b e k q R : Int)  (p' : Bool) (hb0 : 0 ≤ b ∧ b ≤ 53) (he : -1074 ≤ e ∧ e ≤ 971) (hk : 130 - b = k) (hkb : 0 ≤ k ∧ k ≤ 130) (ht : (e - k).tmod 2 = 0) (hq : (e - k).tdiv 2 = q) (hq0 : -1300 ≤ q ∧ q ≤ 1300) (u : Int) (hu : u = 0) (SA : Hid (∀ w, Calls Tryz.prog 119 #[.int .u64 a] w (Sp w p' A e))) (HB : Hid (∀ (w1 : World) (a1 : Option Addr) (n1 c1 : Nat), Nw w1 (.slice a1 n1 c1) A → Calls Tryz.prog 121 #[.slice a1 n1 c1] w1 fun e w' => e = .returned (.int .i64 b) ∧ w1 = w')) (HS : Hid (∀ (w1 : World) (a1 : Option Addr) (n1 c1 : Nat), Nw w1 (.slice a1 n1 c1) (A) → Calls Tryz.prog 120 #[.slice a1 n1 c1, .int .i64 (k)] w1 (OneOk w1 (M)))) (HR : Hid (∀ (w1 : World) (a1 : Option Addr) (n1 c1 : Nat), Nw w1 (.slice a1 n1 c1) M → Calls Tryz.prog 144 #[.slice a1 n1 c1] w1 fun e w' => ∃ a n c, e = .returned (.slice a n c) ∧ Nw w' (.slice a n c) X ∧ Below w1.heap.size w1 w')) (HX : Hid (∀ (w1 : World) (a1 : Option Addr) (n1 c1 : Nat), Nw w1 (.slice a1 n1 c1) X → Calls Tryz.prog 145 #[.slice a1 n1 c1, .slice a1 n1 c1] w1 (OneOk w1 S))) (HS1 : Hid (∀ (w1 : World) (a1 : Option Addr) (n1 c1 : Nat), Nw w1 (.slice a1 n1 c1) (X) → Calls Tryz.prog 120 #[.slice a1 n1 c1, .int .i64 (1)] w1 (OneOk w1 (X * 2)))) (HC : Hid (∀ (w1 : World) (a1 : Option Addr) (n1 c1 : Nat) (a2 : Option Addr) (n2 c2 : Nat), Nw w1 (.slice a1 n1 c1) (S) → Nw w1 (.slice a2 n2 c2) (M) → Calls Tryz.prog 123 #[.slice a1 n1 c1, .slice a2 n2 c2] w1 fun e w' => e = .returned (.int .i64 u) ∧ Below w1.heap.size w1 w')) (HM : Hid (∀ (w1 : World) (a1 : Option Addr) (n1 c1 : Nat), Nw w1 (.slice a1 n1 c1) (X * 2) → Calls Tryz.prog 134 #[.bool (false), .slice a1 n1 c1, .int .i64 (q - 1)] w1 fun e w' => e = .returned (.int .u64 R) ∧ Below w1.heap.size w1 w')) (w : World) : Calls Tryz.prog 97 #[.int .u64 a] w fun e w' => e = .returned (.int .u64 R) ∧ Below w.heap.size w w' := by
  go_enter Tryz.func97, Tryz.ntmps97
  go_wp2_with (first
    | (go_at_call 64; (with_reducible refine (N1.out _).mono ?_); rintro e1 w1 ⟨rfl, rfl⟩)
    | (go_at_call 61; (with_reducible refine (Z1.out _).mono ?_); rintro e1 w1 ⟨rfl, rfl⟩)
    | (go_at_call 69; (with_reducible refine (G1.out _).mono ?_); rintro e1 w1 ⟨rfl, rfl⟩)
    | (go_at_call 99; (with_reducible refine (I1.out _).mono ?_); rintro e1 w1 ⟨rfl, rfl⟩)
    | (go_at_call 119; (with_reducible refine (SA.out _).mono ?_); rintro e1 w1 ⟨a1, n1, c1, rfl, hv1, hb1⟩)
    | (go_at_call 121; (with_reducible refine (HB.out _ _ _ _ hv1).mono ?_); rintro e2 w2 ⟨rfl, rfl⟩)
    | (go_at_call 120; (with_reducible refine (HS.out _ _ _ _ hv1).mono ?_); rintro e3 w3 ⟨a3, n3, c3, rfl, hv3, hb3⟩)
    | (go_at_call 144; (with_reducible refine (HR.out _ _ _ _ hv3).mono ?_); rintro e4 w4 ⟨a4, n4, c4, rfl, hv4, hb4⟩)
    | (go_at_call 145; (with_reducible refine (HX.out _ _ _ _ hv4).mono ?_); rintro e5 w5 ⟨a5, n5, c5, rfl, hv5, hb5⟩)
    | (go_at_call 120; (with_reducible refine (HS1.out _ _ _ _ (hv4.below hb5)).mono ?_); rintro e6 w6 ⟨a6, n6, c6, rfl, hv6, hb6⟩)
    | (go_at_call 123; (with_reducible refine (HC.out _ _ _ _ _ _ _ (hv5.below hb6) (hv3.below (btn hb4 (btn hb5 hb6)))).mono ?_); rintro e7 w7 ⟨rfl, hb7⟩)
    | (go_at_call 134; (with_reducible refine (HM.out _ _ _ _ (hv6.below hb7)).mono ?_); rintro e10 w10 ⟨rfl, hb10⟩))
  go_ret
  exact ⟨rfl, btn hb1 (btn hb3 (btn hb4 (btn hb5 (btn hb6 (btn hb7 hb10)))))⟩
set_option maxRecDepth 100000 in
set_option maxHeartbeats 2000000 in
theorem rSqrt_f01 (a : Nat) (N1 : Hid (PB 64 a false)) (Z1 : Hid (PB 61 a false)) (G1 : Hid (PB 69 a false)) (I1 : Hid (PB 99 a false)) (A M S X : Nat) (b e k q R : Int)  (p' : Bool) (hb0 : 0 ≤ b ∧ b ≤ 53) (he : -1074 ≤ e ∧ e ≤ 971) (hk : 130 - b = k) (hkb : 0 ≤ k ∧ k ≤ 130) (ht : (e - k).tmod 2 = 0) (hq : (e - k).tdiv 2 = q) (hq0 : -1300 ≤ q ∧ q ≤ 1300) (u : Int) (hu : ¬ u = 0) (SA : Hid (∀ w, Calls Tryz.prog 119 #[.int .u64 a] w (Sp w p' A e))) (HB : Hid (∀ (w1 : World) (a1 : Option Addr) (n1 c1 : Nat), Nw w1 (.slice a1 n1 c1) A → Calls Tryz.prog 121 #[.slice a1 n1 c1] w1 fun e w' => e = .returned (.int .i64 b) ∧ w1 = w')) (HS : Hid (∀ (w1 : World) (a1 : Option Addr) (n1 c1 : Nat), Nw w1 (.slice a1 n1 c1) (A) → Calls Tryz.prog 120 #[.slice a1 n1 c1, .int .i64 (k)] w1 (OneOk w1 (M)))) (HR : Hid (∀ (w1 : World) (a1 : Option Addr) (n1 c1 : Nat), Nw w1 (.slice a1 n1 c1) M → Calls Tryz.prog 144 #[.slice a1 n1 c1] w1 fun e w' => ∃ a n c, e = .returned (.slice a n c) ∧ Nw w' (.slice a n c) X ∧ Below w1.heap.size w1 w')) (HX : Hid (∀ (w1 : World) (a1 : Option Addr) (n1 c1 : Nat), Nw w1 (.slice a1 n1 c1) X → Calls Tryz.prog 145 #[.slice a1 n1 c1, .slice a1 n1 c1] w1 (OneOk w1 S))) (HS1 : Hid (∀ (w1 : World) (a1 : Option Addr) (n1 c1 : Nat), Nw w1 (.slice a1 n1 c1) (X) → Calls Tryz.prog 120 #[.slice a1 n1 c1, .int .i64 (1)] w1 (OneOk w1 (X * 2)))) (HC : Hid (∀ (w1 : World) (a1 : Option Addr) (n1 c1 : Nat) (a2 : Option Addr) (n2 c2 : Nat), Nw w1 (.slice a1 n1 c1) (S) → Nw w1 (.slice a2 n2 c2) (M) → Calls Tryz.prog 123 #[.slice a1 n1 c1, .slice a2 n2 c2] w1 fun e w' => e = .returned (.int .i64 u) ∧ Below w1.heap.size w1 w')) (HOf : Hid (∀ w1, Calls Tryz.prog 122 #[.int .u64 1] w1 (One w1 1))) (HA : Hid (∀ (w1 : World) (a1 : Option Addr) (n1 c1 : Nat) (a2 : Option Addr) (n2 c2 : Nat), Nw w1 (.slice a1 n1 c1) (X * 2) → Nw w1 (.slice a2 n2 c2) (1) → Calls Tryz.prog 146 #[.slice a1 n1 c1, .slice a2 n2 c2] w1 (One w1 (X * 2 + 1)))) (HM : Hid (∀ (w1 : World) (a1 : Option Addr) (n1 c1 : Nat), Nw w1 (.slice a1 n1 c1) (X * 2 + 1) → Calls Tryz.prog 134 #[.bool (false), .slice a1 n1 c1, .int .i64 (q - 1)] w1 fun e w' => e = .returned (.int .u64 R) ∧ Below w1.heap.size w1 w')) (w : World) : Calls Tryz.prog 97 #[.int .u64 a] w fun e w' => e = .returned (.int .u64 R) ∧ Below w.heap.size w w' := by
  go_enter Tryz.func97, Tryz.ntmps97
  go_wp2_with (first
    | (go_at_call 64; (with_reducible refine (N1.out _).mono ?_); rintro e1 w1 ⟨rfl, rfl⟩)
    | (go_at_call 61; (with_reducible refine (Z1.out _).mono ?_); rintro e1 w1 ⟨rfl, rfl⟩)
    | (go_at_call 69; (with_reducible refine (G1.out _).mono ?_); rintro e1 w1 ⟨rfl, rfl⟩)
    | (go_at_call 99; (with_reducible refine (I1.out _).mono ?_); rintro e1 w1 ⟨rfl, rfl⟩)
    | (go_at_call 119; (with_reducible refine (SA.out _).mono ?_); rintro e1 w1 ⟨a1, n1, c1, rfl, hv1, hb1⟩)
    | (go_at_call 121; (with_reducible refine (HB.out _ _ _ _ hv1).mono ?_); rintro e2 w2 ⟨rfl, rfl⟩)
    | (go_at_call 120; (with_reducible refine (HS.out _ _ _ _ hv1).mono ?_); rintro e3 w3 ⟨a3, n3, c3, rfl, hv3, hb3⟩)
    | (go_at_call 144; (with_reducible refine (HR.out _ _ _ _ hv3).mono ?_); rintro e4 w4 ⟨a4, n4, c4, rfl, hv4, hb4⟩)
    | (go_at_call 145; (with_reducible refine (HX.out _ _ _ _ hv4).mono ?_); rintro e5 w5 ⟨a5, n5, c5, rfl, hv5, hb5⟩)
    | (go_at_call 120; (with_reducible refine (HS1.out _ _ _ _ (hv4.below hb5)).mono ?_); rintro e6 w6 ⟨a6, n6, c6, rfl, hv6, hb6⟩)
    | (go_at_call 123; (with_reducible refine (HC.out _ _ _ _ _ _ _ (hv5.below hb6) (hv3.below (btn hb4 (btn hb5 hb6)))).mono ?_); rintro e7 w7 ⟨rfl, hb7⟩)
    | (go_at_call 122; (with_reducible refine (HOf.out _).mono ?_); rintro e8 w8 ⟨a8, n8, c8, rfl, hv8, hb8⟩)
    | (go_at_call 146; (with_reducible refine (HA.out _ _ _ _ _ _ _ (hv6.below (btn hb7 hb8)) hv8).mono ?_); rintro e9 w9 ⟨a9, n9, c9, rfl, hv9, hb9⟩)
    | (go_at_call 134; (with_reducible refine (HM.out _ _ _ _ hv9).mono ?_); rintro e10 w10 ⟨rfl, hb10⟩))
  go_ret
  exact ⟨rfl, btn hb1 (btn hb3 (btn hb4 (btn hb5 (btn hb6 (btn hb7 (btn hb8 (btn hb9 hb10)))))))⟩
set_option maxRecDepth 100000 in
set_option maxHeartbeats 2000000 in
theorem rSqrt_f10 (a : Nat) (N1 : Hid (PB 64 a false)) (Z1 : Hid (PB 61 a false)) (G1 : Hid (PB 69 a false)) (I1 : Hid (PB 99 a false)) (A M S X : Nat) (b e k K t q R : Int)  (p' : Bool) (hb0 : 0 ≤ b ∧ b ≤ 53) (he : -1074 ≤ e ∧ e ≤ 971) (hk : 130 - b = k) (hkb : 0 ≤ k ∧ k ≤ 130) (ht : (e - k).tmod 2 = t) (ht0 : ¬ t = 0) (hK : k + 1 = K) (hq : (e - K).tdiv 2 = q) (hq0 : -1300 ≤ q ∧ q ≤ 1300) (u : Int) (hu : u = 0) (SA : Hid (∀ w, Calls Tryz.prog 119 #[.int .u64 a] w (Sp w p' A e))) (HB : Hid (∀ (w1 : World) (a1 : Option Addr) (n1 c1 : Nat), Nw w1 (.slice a1 n1 c1) A → Calls Tryz.prog 121 #[.slice a1 n1 c1] w1 fun e w' => e = .returned (.int .i64 b) ∧ w1 = w')) (HS : Hid (∀ (w1 : World) (a1 : Option Addr) (n1 c1 : Nat), Nw w1 (.slice a1 n1 c1) (A) → Calls Tryz.prog 120 #[.slice a1 n1 c1, .int .i64 (K)] w1 (OneOk w1 (M)))) (HR : Hid (∀ (w1 : World) (a1 : Option Addr) (n1 c1 : Nat), Nw w1 (.slice a1 n1 c1) M → Calls Tryz.prog 144 #[.slice a1 n1 c1] w1 fun e w' => ∃ a n c, e = .returned (.slice a n c) ∧ Nw w' (.slice a n c) X ∧ Below w1.heap.size w1 w')) (HX : Hid (∀ (w1 : World) (a1 : Option Addr) (n1 c1 : Nat), Nw w1 (.slice a1 n1 c1) X → Calls Tryz.prog 145 #[.slice a1 n1 c1, .slice a1 n1 c1] w1 (OneOk w1 S))) (HS1 : Hid (∀ (w1 : World) (a1 : Option Addr) (n1 c1 : Nat), Nw w1 (.slice a1 n1 c1) (X) → Calls Tryz.prog 120 #[.slice a1 n1 c1, .int .i64 (1)] w1 (OneOk w1 (X * 2)))) (HC : Hid (∀ (w1 : World) (a1 : Option Addr) (n1 c1 : Nat) (a2 : Option Addr) (n2 c2 : Nat), Nw w1 (.slice a1 n1 c1) (S) → Nw w1 (.slice a2 n2 c2) (M) → Calls Tryz.prog 123 #[.slice a1 n1 c1, .slice a2 n2 c2] w1 fun e w' => e = .returned (.int .i64 u) ∧ Below w1.heap.size w1 w')) (HM : Hid (∀ (w1 : World) (a1 : Option Addr) (n1 c1 : Nat), Nw w1 (.slice a1 n1 c1) (X * 2) → Calls Tryz.prog 134 #[.bool (false), .slice a1 n1 c1, .int .i64 (q - 1)] w1 fun e w' => e = .returned (.int .u64 R) ∧ Below w1.heap.size w1 w')) (w : World) : Calls Tryz.prog 97 #[.int .u64 a] w fun e w' => e = .returned (.int .u64 R) ∧ Below w.heap.size w w' := by
  go_enter Tryz.func97, Tryz.ntmps97
  go_wp2_with (first
    | (go_at_call 64; (with_reducible refine (N1.out _).mono ?_); rintro e1 w1 ⟨rfl, rfl⟩)
    | (go_at_call 61; (with_reducible refine (Z1.out _).mono ?_); rintro e1 w1 ⟨rfl, rfl⟩)
    | (go_at_call 69; (with_reducible refine (G1.out _).mono ?_); rintro e1 w1 ⟨rfl, rfl⟩)
    | (go_at_call 99; (with_reducible refine (I1.out _).mono ?_); rintro e1 w1 ⟨rfl, rfl⟩)
    | (go_at_call 119; (with_reducible refine (SA.out _).mono ?_); rintro e1 w1 ⟨a1, n1, c1, rfl, hv1, hb1⟩)
    | (go_at_call 121; (with_reducible refine (HB.out _ _ _ _ hv1).mono ?_); rintro e2 w2 ⟨rfl, rfl⟩)
    | (go_at_call 120; (with_reducible refine (HS.out _ _ _ _ hv1).mono ?_); rintro e3 w3 ⟨a3, n3, c3, rfl, hv3, hb3⟩)
    | (go_at_call 144; (with_reducible refine (HR.out _ _ _ _ hv3).mono ?_); rintro e4 w4 ⟨a4, n4, c4, rfl, hv4, hb4⟩)
    | (go_at_call 145; (with_reducible refine (HX.out _ _ _ _ hv4).mono ?_); rintro e5 w5 ⟨a5, n5, c5, rfl, hv5, hb5⟩)
    | (go_at_call 120; (with_reducible refine (HS1.out _ _ _ _ (hv4.below hb5)).mono ?_); rintro e6 w6 ⟨a6, n6, c6, rfl, hv6, hb6⟩)
    | (go_at_call 123; (with_reducible refine (HC.out _ _ _ _ _ _ _ (hv5.below hb6) (hv3.below (btn hb4 (btn hb5 hb6)))).mono ?_); rintro e7 w7 ⟨rfl, hb7⟩)
    | (go_at_call 134; (with_reducible refine (HM.out _ _ _ _ (hv6.below hb7)).mono ?_); rintro e10 w10 ⟨rfl, hb10⟩))
  go_ret
  exact ⟨rfl, btn hb1 (btn hb3 (btn hb4 (btn hb5 (btn hb6 (btn hb7 hb10)))))⟩
set_option maxRecDepth 100000 in
set_option maxHeartbeats 2000000 in
theorem rSqrt_f11 (a : Nat) (N1 : Hid (PB 64 a false)) (Z1 : Hid (PB 61 a false)) (G1 : Hid (PB 69 a false)) (I1 : Hid (PB 99 a false)) (A M S X : Nat) (b e k K t q R : Int)  (p' : Bool) (hb0 : 0 ≤ b ∧ b ≤ 53) (he : -1074 ≤ e ∧ e ≤ 971) (hk : 130 - b = k) (hkb : 0 ≤ k ∧ k ≤ 130) (ht : (e - k).tmod 2 = t) (ht0 : ¬ t = 0) (hK : k + 1 = K) (hq : (e - K).tdiv 2 = q) (hq0 : -1300 ≤ q ∧ q ≤ 1300) (u : Int) (hu : ¬ u = 0) (SA : Hid (∀ w, Calls Tryz.prog 119 #[.int .u64 a] w (Sp w p' A e))) (HB : Hid (∀ (w1 : World) (a1 : Option Addr) (n1 c1 : Nat), Nw w1 (.slice a1 n1 c1) A → Calls Tryz.prog 121 #[.slice a1 n1 c1] w1 fun e w' => e = .returned (.int .i64 b) ∧ w1 = w')) (HS : Hid (∀ (w1 : World) (a1 : Option Addr) (n1 c1 : Nat), Nw w1 (.slice a1 n1 c1) (A) → Calls Tryz.prog 120 #[.slice a1 n1 c1, .int .i64 (K)] w1 (OneOk w1 (M)))) (HR : Hid (∀ (w1 : World) (a1 : Option Addr) (n1 c1 : Nat), Nw w1 (.slice a1 n1 c1) M → Calls Tryz.prog 144 #[.slice a1 n1 c1] w1 fun e w' => ∃ a n c, e = .returned (.slice a n c) ∧ Nw w' (.slice a n c) X ∧ Below w1.heap.size w1 w')) (HX : Hid (∀ (w1 : World) (a1 : Option Addr) (n1 c1 : Nat), Nw w1 (.slice a1 n1 c1) X → Calls Tryz.prog 145 #[.slice a1 n1 c1, .slice a1 n1 c1] w1 (OneOk w1 S))) (HS1 : Hid (∀ (w1 : World) (a1 : Option Addr) (n1 c1 : Nat), Nw w1 (.slice a1 n1 c1) (X) → Calls Tryz.prog 120 #[.slice a1 n1 c1, .int .i64 (1)] w1 (OneOk w1 (X * 2)))) (HC : Hid (∀ (w1 : World) (a1 : Option Addr) (n1 c1 : Nat) (a2 : Option Addr) (n2 c2 : Nat), Nw w1 (.slice a1 n1 c1) (S) → Nw w1 (.slice a2 n2 c2) (M) → Calls Tryz.prog 123 #[.slice a1 n1 c1, .slice a2 n2 c2] w1 fun e w' => e = .returned (.int .i64 u) ∧ Below w1.heap.size w1 w')) (HOf : Hid (∀ w1, Calls Tryz.prog 122 #[.int .u64 1] w1 (One w1 1))) (HA : Hid (∀ (w1 : World) (a1 : Option Addr) (n1 c1 : Nat) (a2 : Option Addr) (n2 c2 : Nat), Nw w1 (.slice a1 n1 c1) (X * 2) → Nw w1 (.slice a2 n2 c2) (1) → Calls Tryz.prog 146 #[.slice a1 n1 c1, .slice a2 n2 c2] w1 (One w1 (X * 2 + 1)))) (HM : Hid (∀ (w1 : World) (a1 : Option Addr) (n1 c1 : Nat), Nw w1 (.slice a1 n1 c1) (X * 2 + 1) → Calls Tryz.prog 134 #[.bool (false), .slice a1 n1 c1, .int .i64 (q - 1)] w1 fun e w' => e = .returned (.int .u64 R) ∧ Below w1.heap.size w1 w')) (w : World) : Calls Tryz.prog 97 #[.int .u64 a] w fun e w' => e = .returned (.int .u64 R) ∧ Below w.heap.size w w' := by
  go_enter Tryz.func97, Tryz.ntmps97
  go_wp2_with (first
    | (go_at_call 64; (with_reducible refine (N1.out _).mono ?_); rintro e1 w1 ⟨rfl, rfl⟩)
    | (go_at_call 61; (with_reducible refine (Z1.out _).mono ?_); rintro e1 w1 ⟨rfl, rfl⟩)
    | (go_at_call 69; (with_reducible refine (G1.out _).mono ?_); rintro e1 w1 ⟨rfl, rfl⟩)
    | (go_at_call 99; (with_reducible refine (I1.out _).mono ?_); rintro e1 w1 ⟨rfl, rfl⟩)
    | (go_at_call 119; (with_reducible refine (SA.out _).mono ?_); rintro e1 w1 ⟨a1, n1, c1, rfl, hv1, hb1⟩)
    | (go_at_call 121; (with_reducible refine (HB.out _ _ _ _ hv1).mono ?_); rintro e2 w2 ⟨rfl, rfl⟩)
    | (go_at_call 120; (with_reducible refine (HS.out _ _ _ _ hv1).mono ?_); rintro e3 w3 ⟨a3, n3, c3, rfl, hv3, hb3⟩)
    | (go_at_call 144; (with_reducible refine (HR.out _ _ _ _ hv3).mono ?_); rintro e4 w4 ⟨a4, n4, c4, rfl, hv4, hb4⟩)
    | (go_at_call 145; (with_reducible refine (HX.out _ _ _ _ hv4).mono ?_); rintro e5 w5 ⟨a5, n5, c5, rfl, hv5, hb5⟩)
    | (go_at_call 120; (with_reducible refine (HS1.out _ _ _ _ (hv4.below hb5)).mono ?_); rintro e6 w6 ⟨a6, n6, c6, rfl, hv6, hb6⟩)
    | (go_at_call 123; (with_reducible refine (HC.out _ _ _ _ _ _ _ (hv5.below hb6) (hv3.below (btn hb4 (btn hb5 hb6)))).mono ?_); rintro e7 w7 ⟨rfl, hb7⟩)
    | (go_at_call 122; (with_reducible refine (HOf.out _).mono ?_); rintro e8 w8 ⟨a8, n8, c8, rfl, hv8, hb8⟩)
    | (go_at_call 146; (with_reducible refine (HA.out _ _ _ _ _ _ _ (hv6.below (btn hb7 hb8)) hv8).mono ?_); rintro e9 w9 ⟨a9, n9, c9, rfl, hv9, hb9⟩)
    | (go_at_call 134; (with_reducible refine (HM.out _ _ _ _ hv9).mono ?_); rintro e10 w10 ⟨rfl, hb10⟩))
  go_ret
  exact ⟨rfl, btn hb1 (btn hb3 (btn hb4 (btn hb5 (btn hb6 (btn hb7 (btn hb8 (btn hb9 hb10)))))))⟩
theorem tdiv2 {x : Int} (h : x % 2 = 0) : x.tdiv 2 = x / 2 ∧ x.tmod 2 = 0 := by
  obtain ⟨z, rfl⟩ : ∃ z, x = 2 * z := ⟨x / 2, by omega⟩
  refine ⟨?_, Int.mul_tmod_right 2 z⟩
  rw [Int.mul_tdiv_cancel_left z (by decide)]; omega
theorem tmod2 {x : Int} (h : ¬ x % 2 = 0) : ¬ x.tmod 2 = 0 := by
  intro c
  have := Int.tmod_add_mul_tdiv x 2
  omega
theorem rSqrt_c (a : Nat) (ha : W a) (w : World) : Calls Tryz.prog 97 #[.int .u64 a] w fun e w' => e = .returned (.int .u64 ((sqrtV a : Nat) : Int)) ∧ Below w.heap.size w w' := by
  have N1 := Lib.hid (risnan_c a ha)
  have I1 := Lib.hid (risinf_c a ha)
  have Z1 := Lib.hid (riszero_c a ha)
  have G1 := Lib.hid (rminus_c a ha)
  by_cases n1 : nan a = true
  · rw [show sqrtV a = NaN by simp [sqrtV, n1]]; rw [n1] at N1; exact rSqrt_n1 a N1 w
  have n1 := Bool.eq_false_iff.2 n1; rw [n1] at N1
  by_cases z1 : zer a = true
  · rw [show sqrtV a = a by simp [sqrtV, n1, z1]]; rw [z1] at Z1; exact rSqrt_z1 a N1 Z1 w
  have z1 := Bool.eq_false_iff.2 z1; rw [z1] at Z1
  by_cases g1 : ng a = true
  · rw [show sqrtV a = NaN by simp [sqrtV, n1, z1, g1]]; rw [g1] at G1; exact rSqrt_g1 a N1 Z1 G1 w
  have g1 := Bool.eq_false_iff.2 g1; rw [g1] at G1
  by_cases i1 : inf a = true
  · rw [show sqrtV a = a by simp [sqrtV, n1, z1, g1, i1]]; rw [i1] at I1; exact rSqrt_i1 a N1 Z1 G1 I1 w
  have i1 := Bool.eq_false_iff.2 i1; rw [i1] at I1
  have hv : sqrtV a = sqrtF a := by
    unfold sqrtV
    rw [if_neg (by rw [n1]; decide), if_neg (by rw [z1]; decide), if_neg (by rw [g1]; decide), if_neg (by rw [i1]; decide)]
  rw [hv]
  have SA := Lib.hid (fun w => rsplit_c a ha n1 i1 w)
  have la := se_ge a
  have ua := se_le n1 i1
  have bb := bl_sm a
  have a0 : sm a ≠ 0 := fun h => by have := sm_zero.1 h; rw [z1] at this; cases this
  obtain ⟨K, hK⟩ : ∃ K, sqk (bl (sm a)) (se a) = K := ⟨_, rfl⟩
  have hsq : sqm a = sm a * 2 ^ K := by unfold sqm; rw [hK]
  have hKb : K = 130 - bl (sm a) ∨ K = 131 - bl (sm a) := by rw [← hK]; unfold sqk; split <;> simp
  have hKe : (se a - (K : Int)) % 2 = 0 := by rw [← hK]; unfold sqk; split <;> omega
  have hpar : (se a - ((130 - bl (sm a) : Nat) : Int)) % 2 = 0 ↔ K = 130 - bl (sm a) := by
    rw [← hK]; unfold sqk; split <;> omega
  have bM : bl (sqm a) ≤ 131 := by rw [hsq, bl_mul K a0]; omega
  have hisq := isq_is (m := sqm a) (Nat.lt_of_lt_of_le (bl_lt _) (pow_le (by omega)))
  obtain ⟨X, hX⟩ : ∃ X, isq (sqm a) = X := ⟨_, rfl⟩
  have hform : sqrtF a = pat (2 * X + (if X * X ≠ sqm a then 1 else 0)) ((se a - (K : Int)) / 2 - 1) false := by unfold sqrtF; rw [hX, hK]
  rw [hform]
  rw [hX] at hisq
  have bX : bl X ≤ 67 := by
    apply bl_le_of_lt
    rcases Nat.lt_or_ge X (2 ^ 67) with h | h
    · exact h
    · exfalso
      have h1 := hisq.1
      have h2 : 2 ^ 67 * 2 ^ 67 ≤ X * X := Nat.mul_le_mul h h
      have h3 := bl_lt (sqm a)
      have h4 := pow_le bM
      rw [← Nat.pow_add] at h2
      have : (2 : Nat) ^ 131 < 2 ^ (67 + 67) := Nat.pow_lt_pow_right (by decide) (by decide)
      omega
  have bS := bl_mulb bX bX
  have b2 : bl (X * 2) ≤ 68 := by have := bl_shl X 1; rw [Nat.pow_one] at this; omega
  have b1 : bl 1 = 1 := by decide
  have b3 : bl (X * 2 + 1) ≤ 69 := bl_addb b2 (by omega)
  have HB := Lib.hid (fun (w1 : World) (a1 : Option Addr) (n1 c1 : Nat) (h : Nw w1 (.slice a1 n1 c1) (sm a)) => rbits_n h (by omega))
  have HS := fun (w1 : World) (a1 : Option Addr) (n1 c1 : Nat) (h : Nw w1 (.slice a1 n1 c1) (sm a)) => rshl_n K h (by omega)
  rw [← hsq] at HS
  have HR := fun (w1 : World) (a1 : Option Addr) (n1 c1 : Nat) (h : Nw w1 (.slice a1 n1 c1) (sqm a)) => rroot_c h (by omega)
  rw [hX] at HR
  have HR := Lib.hid HR
  have HX := Lib.hid (fun (w1 : World) (a1 : Option Addr) (n1 c1 : Nat) (h : Nw w1 (.slice a1 n1 c1) X) => rmul_n h h (by omega))
  have HS1 : Hid (∀ (w1 : World) (a1 : Option Addr) (n1 c1 : Nat), Nw w1 (.slice a1 n1 c1) X → Calls Tryz.prog 120 #[.slice a1 n1 c1, .int .i64 1] w1 (OneOk w1 (X * 2))) := fun w1 a1 n1 c1 h => by
    have := rshl_n 1 h (by omega)
    rw [Nat.pow_one] at this; exact this
  have HOf : Hid (∀ w1, Calls Tryz.prog 122 #[.int .u64 1] w1 (One w1 1)) := fun w1 => rof_n 1 w1 (W_of (by decide))
  have HA := Lib.hid (fun (w1 : World) (a1 : Option Addr) (n1 c1 : Nat) (a2 : Option Addr) (n2 c2 : Nat) (h1 : Nw w1 (.slice a1 n1 c1) (X * 2)) (h2 : Nw w1 (.slice a2 n2 c2) 1) => radd_n h1 (by omega) h2 (by omega))
  have HC := fun (w1 : World) (a1 : Option Addr) (n1 c1 : Nat) (a2 : Option Addr) (n2 c2 : Nat) (h1 : Nw w1 (.slice a1 n1 c1) (X * X)) (h2 : Nw w1 (.slice a2 n2 c2) (sqm a)) => rcmp_n h1 (by omega) h2 (by omega)
  have hq : (se a - (K : Int)).tdiv 2 = (se a - (K : Int)) / 2 := (tdiv2 hKe).1
  have HMk := fun (D : Nat) (hD : bl D ≤ 32000) (w1 : World) (a1 : Option Addr) (n1 c1 : Nat) (h : Nw w1 (.slice a1 n1 c1) D) => rmake_n false h hD ((se a - (K : Int)) / 2 - 1) (by omega)
  have hfin : ∀ D : Nat, makeV false D ((se a - (K : Int)) / 2 - 1) = pat D ((se a - (K : Int)) / 2 - 1) false := fun D => by unfold makeV; rw [sg_false]
  obtain ⟨u, hu⟩ : ∃ u, cmpI ((X * X : Nat) : Int) ((sqm a : Nat) : Int) = u := ⟨_, rfl⟩
  have hu0 : u = 0 ↔ X * X = sqm a := by rw [← hu]; unfold cmpI; split <;> (try split) <;> omega
  rw [hu] at HC
  have HC := Lib.hid HC
  have hqb : -1300 ≤ (se a - (K : Int)) / 2 ∧ (se a - (K : Int)) / 2 ≤ 1300 := by omega
  have hk1 : 130 - (bl (sm a) : Int) = ((130 - bl (sm a) : Nat) : Int) := by omega
  by_cases he : X * X = sqm a
  · have HM := HMk (X * 2) (by omega)
    rw [hfin] at HM
    have HM := Lib.hid HM
    rw [if_neg (fun h => h he), Nat.add_zero, Nat.mul_comm 2]
    by_cases ev : K = 130 - bl (sm a)
    · rw [ev] at HS HM hq hqb ⊢
      have HS := Lib.hid HS
      exact rSqrt_f00 a N1 Z1 G1 I1 _ _ _ _ _ _ _ _ _ _ (by omega) ⟨la, ua⟩ hk1 (by omega) (tdiv2 (hpar.2 ev)).2 hq hqb u (hu0.2 he) SA HB HS HR HX HS1 HC HM w
    · have hk2 : ((130 - bl (sm a) : Nat) : Int) + 1 = (K : Int) := by omega
      have HS := Lib.hid HS
      exact rSqrt_f10 a N1 Z1 G1 I1 _ _ _ _ _ _ _ _ _ _ _ _ (by omega) ⟨la, ua⟩ hk1 (by omega) rfl (tmod2 ((not_congr hpar).2 ev)) hk2 hq hqb u (hu0.2 he) SA HB HS HR HX HS1 HC HM w
  · have HM := HMk (X * 2 + 1) (by omega)
    rw [hfin] at HM
    have HM := Lib.hid HM
    rw [if_pos he, Nat.mul_comm 2]
    by_cases ev : K = 130 - bl (sm a)
    · rw [ev] at HS HM hq hqb ⊢
      have HS := Lib.hid HS
      exact rSqrt_f01 a N1 Z1 G1 I1 _ _ _ _ _ _ _ _ _ _ (by omega) ⟨la, ua⟩ hk1 (by omega) (tdiv2 (hpar.2 ev)).2 hq hqb u (fun h => he (hu0.1 h)) SA HB HS HR HX HS1 HC HOf HA HM w
    · have hk2 : ((130 - bl (sm a) : Nat) : Int) + 1 = (K : Int) := by omega
      have HS := Lib.hid HS
      exact rSqrt_f11 a N1 Z1 G1 I1 _ _ _ _ _ _ _ _ _ _ _ _ (by omega) ⟨la, ua⟩ hk1 (by omega) rfl (tmod2 ((not_congr hpar).2 ev)) hk2 hq hqb u (fun h => he (hu0.1 h)) SA HB HS HR HX HS1 HC HOf HA HM w
end Go.Proofs.YtkifdppppihjcaaGreat
