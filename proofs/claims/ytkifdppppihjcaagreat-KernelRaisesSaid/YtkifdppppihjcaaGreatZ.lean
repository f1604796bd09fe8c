/- Texts Y4, for this seat. -/
import Derived.Test.YtkifdppppihjcaaGreatY
namespace Go.Proofs.YtkifdppppihjcaaGreat
set_option linter.unusedVariables false
set_option linter.unusedSimpArgs false
open Go.RowKit Go.Shelf SF

theorem Nw.len0 {w : World} {a : Option Addr} {n c : Nat} (h : Nw w (.slice a n c) 0) : n = 0 := by rw [(Rd.parts h).1]; exact len_z.2 rfl
theorem Nw.lenp {w : World} {a : Option Addr} {n c A : Nat} (h : Nw w (.slice a n c) A) (h0 : A ≠ 0) : 0 < n := by
  rw [(Rd.parts h).1]
  rcases Nat.eq_zero_or_pos (ws A).length with g | g
  · exact absurd (len_z.1 g) h0
  · exact g
set_option maxRecDepth 100000 in
set_option maxHeartbeats 2000000 in
theorem rAdd_n1 (a b : Nat) (N1 : Hid (PB 64 a true)) (w : World) : Calls Tryz.prog 133 #[.int .u64 a, .int .u64 b] w fun e w' => e = .returned (.int .u64 (9221120237041090560)) ∧ Below w.heap.size w w' := by
  go_enter Tryz.func133, Tryz.ntmps133
  go_wp2_with (first
    | (go_at_call 64; (with_reducible refine (N1.out _).mono ?_); rintro e1 w1 ⟨rfl, rfl⟩))
  go_ret
  exact ⟨rfl, Below.refl _ _⟩
set_option maxRecDepth 100000 in
set_option maxHeartbeats 2000000 in
theorem rAdd_n2 (a b : Nat) (N1 : Hid (PB 64 a false)) (N2 : Hid (PB 64 b true)) (w : World) : Calls Tryz.prog 133 #[.int .u64 a, .int .u64 b] w fun e w' => e = .returned (.int .u64 (9221120237041090560)) ∧ Below w.heap.size w w' := by
  go_enter Tryz.func133, Tryz.ntmps133
  go_wp2_with (first
    | (go_at_call 64; (with_reducible refine (N1.out _).mono ?_); rintro e1 w1 ⟨rfl, rfl⟩)
    | (go_at_call 64; (with_reducible refine (N2.out _).mono ?_); rintro e1 w1 ⟨rfl, rfl⟩))
  go_ret
  exact ⟨rfl, Below.refl _ _⟩
set_option maxRecDepth 100000 in
set_option maxHeartbeats 2000000 in
theorem rAdd_ii (a b : Nat) (N1 : Hid (PB 64 a false)) (N2 : Hid (PB 64 b false)) (I1 : Hid (PB 99 a true)) (I2 : Hid (PB 99 b true)) (hne : ¬ (a : Int) = (b : Int)) (w : World) : Calls Tryz.prog 133 #[.int .u64 a, .int .u64 b] w fun e w' => e = .returned (.int .u64 (9221120237041090560)) ∧ Below w.heap.size w w' := by
  go_enter Tryz.func133, Tryz.ntmps133
  go_wp2_with (first
    | (go_at_call 64; (with_reducible refine (N1.out _).mono ?_); rintro e1 w1 ⟨rfl, rfl⟩)
    | (go_at_call 64; (with_reducible refine (N2.out _).mono ?_); rintro e1 w1 ⟨rfl, rfl⟩)
    | (go_at_call 99; (with_reducible refine (I1.out _).mono ?_); rintro e1 w1 ⟨rfl, rfl⟩)
    | (go_at_call 99; (with_reducible refine (I2.out _).mono ?_); rintro e1 w1 ⟨rfl, rfl⟩))
  go_ret
  exact ⟨rfl, Below.refl _ _⟩
set_option maxRecDepth 100000 in
set_option maxHeartbeats 2000000 in
theorem rAdd_ie (a b : Nat) (N1 : Hid (PB 64 a false)) (N2 : Hid (PB 64 b false)) (I1 : Hid (PB 99 a true)) (I2 : Hid (PB 99 b true)) (hne : (a : Int) = (b : Int)) (w : World) : Calls Tryz.prog 133 #[.int .u64 a, .int .u64 b] w fun e w' => e = .returned (.int .u64 ((b : Int))) ∧ Below w.heap.size w w' := by
  go_enter Tryz.func133, Tryz.ntmps133
  go_wp2_with (first
    | (go_at_call 64; (with_reducible refine (N1.out _).mono ?_); rintro e1 w1 ⟨rfl, rfl⟩)
    | (go_at_call 64; (with_reducible refine (N2.out _).mono ?_); rintro e1 w1 ⟨rfl, rfl⟩)
    | (go_at_call 99; (with_reducible refine (I1.out _).mono ?_); rintro e1 w1 ⟨rfl, rfl⟩)
    | (go_at_call 99; (with_reducible refine (I2.out _).mono ?_); rintro e1 w1 ⟨rfl, rfl⟩))
  go_ret
  exact ⟨rfl, Below.refl _ _⟩
set_option maxRecDepth 100000 in
set_option maxHeartbeats 2000000 in
theorem rAdd_i1 (a b : Nat) (N1 : Hid (PB 64 a false)) (N2 : Hid (PB 64 b false)) (I1 : Hid (PB 99 a true)) (I2 : Hid (PB 99 b false)) (w : World) : Calls Tryz.prog 133 #[.int .u64 a, .int .u64 b] w fun e w' => e = .returned (.int .u64 ((a : Int))) ∧ Below w.heap.size w w' := by
  go_enter Tryz.func133, Tryz.ntmps133
  go_wp2_with (first
    | (go_at_call 64; (with_reducible refine (N1.out _).mono ?_); rintro e1 w1 ⟨rfl, rfl⟩)
    | (go_at_call 64; (with_reducible refine (N2.out _).mono ?_); rintro e1 w1 ⟨rfl, rfl⟩)
    | (go_at_call 99; (with_reducible refine (I1.out _).mono ?_); rintro e1 w1 ⟨rfl, rfl⟩)
    | (go_at_call 99; (with_reducible refine (I2.out _).mono ?_); rintro e1 w1 ⟨rfl, rfl⟩))
  go_ret
  exact ⟨rfl, Below.refl _ _⟩
set_option maxRecDepth 100000 in
set_option maxHeartbeats 2000000 in
theorem rAdd_i2 (a b : Nat) (N1 : Hid (PB 64 a false)) (N2 : Hid (PB 64 b false)) (I1 : Hid (PB 99 a false)) (I2 : Hid (PB 99 b true)) (w : World) : Calls Tryz.prog 133 #[.int .u64 a, .int .u64 b] w fun e w' => e = .returned (.int .u64 ((b : Int))) ∧ Below w.heap.size w w' := by
  go_enter Tryz.func133, Tryz.ntmps133
  go_wp2_with (first
    | (go_at_call 64; (with_reducible refine (N1.out _).mono ?_); rintro e1 w1 ⟨rfl, rfl⟩)
    | (go_at_call 64; (with_reducible refine (N2.out _).mono ?_); rintro e1 w1 ⟨rfl, rfl⟩)
    | (go_at_call 99; (with_reducible refine (I1.out _).mono ?_); rintro e1 w1 ⟨rfl, rfl⟩)
    | (go_at_call 99; (with_reducible refine (I2.out _).mono ?_); rintro e1 w1 ⟨rfl, rfl⟩))
  go_ret
  exact ⟨rfl, Below.refl _ _⟩
set_option maxRecDepth 100000 in
set_option maxHeartbeats 2000000 in
theorem rAdd_zz00 (a b : Nat) (N1 : Hid (PB 64 a false)) (N2 : Hid (PB 64 b false)) (I1 : Hid (PB 99 a false)) (I2 : Hid (PB 99 b false))  (ea eb : Int) (SA : Hid (∀ w, Calls Tryz.prog 119 #[.int .u64 a] w (Sp w false 0 ea))) (SB : Hid (∀ w, Calls Tryz.prog 119 #[.int .u64 b] w (Sp w false 0 eb))) (R : Int) (HG : Hid (∀ w, Calls Tryz.prog 157 #[.bool false, .int .u64 0] w fun e w' => e = .returned (.int .u64 R) ∧ w = w')) (w : World) : Calls Tryz.prog 133 #[.int .u64 a, .int .u64 b] w fun e w' => e = .returned (.int .u64 (R)) ∧ Below w.heap.size w w' := by
  go_enter Tryz.func133, Tryz.ntmps133
  go_wp2_with (first
    | (go_at_call 64; (with_reducible refine (N1.out _).mono ?_); rintro e1 w1 ⟨rfl, rfl⟩)
    | (go_at_call 64; (with_reducible refine (N2.out _).mono ?_); rintro e1 w1 ⟨rfl, rfl⟩)
    | (go_at_call 99; (with_reducible refine (I1.out _).mono ?_); rintro e1 w1 ⟨rfl, rfl⟩)
    | (go_at_call 99; (with_reducible refine (I2.out _).mono ?_); rintro e1 w1 ⟨rfl, rfl⟩)
    | (go_at_call 119; (with_reducible refine (SA.out _).mono ?_); rintro e1 w1 ⟨a1, n1, c1, rfl, hv1, hb1⟩; obtain rfl := hv1.len0)
    | (go_at_call 119; (with_reducible refine (SB.out _).mono ?_); rintro e2 w2 ⟨a2, n2, c2, rfl, hv2, hb2⟩; obtain rfl := hv2.len0)
    | (go_at_call 157; (with_reducible refine (HG.out _).mono ?_); rintro e3 w3 ⟨rfl, rfl⟩))
  go_ret
  exact ⟨rfl, btn hb1 hb2⟩
set_option maxRecDepth 100000 in
set_option maxHeartbeats 2000000 in
theorem rAdd_zz01 (a b : Nat) (N1 : Hid (PB 64 a false)) (N2 : Hid (PB 64 b false)) (I1 : Hid (PB 99 a false)) (I2 : Hid (PB 99 b false))  (ea eb : Int) (SA : Hid (∀ w, Calls Tryz.prog 119 #[.int .u64 a] w (Sp w false 0 ea))) (SB : Hid (∀ w, Calls Tryz.prog 119 #[.int .u64 b] w (Sp w true 0 eb))) (R : Int) (HG : Hid (∀ w, Calls Tryz.prog 157 #[.bool false, .int .u64 0] w fun e w' => e = .returned (.int .u64 R) ∧ w = w')) (w : World) : Calls Tryz.prog 133 #[.int .u64 a, .int .u64 b] w fun e w' => e = .returned (.int .u64 (R)) ∧ Below w.heap.size w w' := by
  go_enter Tryz.func133, Tryz.ntmps133
  go_wp2_with (first
    | (go_at_call 64; (with_reducible refine (N1.out _).mono ?_); rintro e1 w1 ⟨rfl, rfl⟩)
    | (go_at_call 64; (with_reducible refine (N2.out _).mono ?_); rintro e1 w1 ⟨rfl, rfl⟩)
    | (go_at_call 99; (with_reducible refine (I1.out _).mono ?_); rintro e1 w1 ⟨rfl, rfl⟩)
    | (go_at_call 99; (with_reducible refine (I2.out _).mono ?_); rintro e1 w1 ⟨rfl, rfl⟩)
    | (go_at_call 119; (with_reducible refine (SA.out _).mono ?_); rintro e1 w1 ⟨a1, n1, c1, rfl, hv1, hb1⟩; obtain rfl := hv1.len0)
    | (go_at_call 119; (with_reducible refine (SB.out _).mono ?_); rintro e2 w2 ⟨a2, n2, c2, rfl, hv2, hb2⟩; obtain rfl := hv2.len0)
    | (go_at_call 157; (with_reducible refine (HG.out _).mono ?_); rintro e3 w3 ⟨rfl, rfl⟩))
  go_ret
  exact ⟨rfl, btn hb1 hb2⟩
set_option maxRecDepth 100000 in
set_option maxHeartbeats 2000000 in
theorem rAdd_zz10 (a b : Nat) (N1 : Hid (PB 64 a false)) (N2 : Hid (PB 64 b false)) (I1 : Hid (PB 99 a false)) (I2 : Hid (PB 99 b false))  (ea eb : Int) (SA : Hid (∀ w, Calls Tryz.prog 119 #[.int .u64 a] w (Sp w true 0 ea))) (SB : Hid (∀ w, Calls Tryz.prog 119 #[.int .u64 b] w (Sp w false 0 eb))) (R : Int) (HG : Hid (∀ w, Calls Tryz.prog 157 #[.bool false, .int .u64 0] w fun e w' => e = .returned (.int .u64 R) ∧ w = w')) (w : World) : Calls Tryz.prog 133 #[.int .u64 a, .int .u64 b] w fun e w' => e = .returned (.int .u64 (R)) ∧ Below w.heap.size w w' := by
  go_enter Tryz.func133, Tryz.ntmps133
  go_wp2_with (first
    | (go_at_call 64; (with_reducible refine (N1.out _).mono ?_); rintro e1 w1 ⟨rfl, rfl⟩)
    | (go_at_call 64; (with_reducible refine (N2.out _).mono ?_); rintro e1 w1 ⟨rfl, rfl⟩)
    | (go_at_call 99; (with_reducible refine (I1.out _).mono ?_); rintro e1 w1 ⟨rfl, rfl⟩)
    | (go_at_call 99; (with_reducible refine (I2.out _).mono ?_); rintro e1 w1 ⟨rfl, rfl⟩)
    | (go_at_call 119; (with_reducible refine (SA.out _).mono ?_); rintro e1 w1 ⟨a1, n1, c1, rfl, hv1, hb1⟩; obtain rfl := hv1.len0)
    | (go_at_call 119; (with_reducible refine (SB.out _).mono ?_); rintro e2 w2 ⟨a2, n2, c2, rfl, hv2, hb2⟩; obtain rfl := hv2.len0)
    | (go_at_call 157; (with_reducible refine (HG.out _).mono ?_); rintro e3 w3 ⟨rfl, rfl⟩))
  go_ret
  exact ⟨rfl, btn hb1 hb2⟩
set_option maxRecDepth 100000 in
set_option maxHeartbeats 2000000 in
theorem rAdd_zz11 (a b : Nat) (N1 : Hid (PB 64 a false)) (N2 : Hid (PB 64 b false)) (I1 : Hid (PB 99 a false)) (I2 : Hid (PB 99 b false))  (ea eb : Int) (SA : Hid (∀ w, Calls Tryz.prog 119 #[.int .u64 a] w (Sp w true 0 ea))) (SB : Hid (∀ w, Calls Tryz.prog 119 #[.int .u64 b] w (Sp w true 0 eb))) (R : Int) (HG : Hid (∀ w, Calls Tryz.prog 157 #[.bool true, .int .u64 0] w fun e w' => e = .returned (.int .u64 R) ∧ w = w')) (w : World) : Calls Tryz.prog 133 #[.int .u64 a, .int .u64 b] w fun e w' => e = .returned (.int .u64 (R)) ∧ Below w.heap.size w w' := by
  go_enter Tryz.func133, Tryz.ntmps133
  go_wp2_with (first
    | (go_at_call 64; (with_reducible refine (N1.out _).mono ?_); rintro e1 w1 ⟨rfl, rfl⟩)
    | (go_at_call 64; (with_reducible refine (N2.out _).mono ?_); rintro e1 w1 ⟨rfl, rfl⟩)
    | (go_at_call 99; (with_reducible refine (I1.out _).mono ?_); rintro e1 w1 ⟨rfl, rfl⟩)
    | (go_at_call 99; (with_reducible refine (I2.out _).mono ?_); rintro e1 w1 ⟨rfl, rfl⟩)
    | (go_at_call 119; (with_reducible refine (SA.out _).mono ?_); rintro e1 w1 ⟨a1, n1, c1, rfl, hv1, hb1⟩; obtain rfl := hv1.len0)
    | (go_at_call 119; (with_reducible refine (SB.out _).mono ?_); rintro e2 w2 ⟨a2, n2, c2, rfl, hv2, hb2⟩; obtain rfl := hv2.len0)
    | (go_at_call 157; (with_reducible refine (HG.out _).mono ?_); rintro e3 w3 ⟨rfl, rfl⟩))
  go_ret
  exact ⟨rfl, btn hb1 hb2⟩
set_option maxRecDepth 100000 in
set_option maxHeartbeats 2000000 in
theorem rAdd_faltsame (a b : Nat) (N1 : Hid (PB 64 a false)) (N2 : Hid (PB 64 b false)) (I1 : Hid (PB 99 a false)) (I2 : Hid (PB 99 b false)) (g1 g2 : Bool) (A B : Nat) (ea eb : Int) (SA : Hid (∀ w, Calls Tryz.prog 119 #[.int .u64 a] w (Sp w g1 A ea))) (SB : Hid (∀ w, Calls Tryz.prog 119 #[.int .u64 b] w (Sp w g2 B eb))) (X Y D : Nat) (R : Int) (be : -1074 ≤ ea ∧ ea ≤ 971 ∧ -1074 ≤ eb ∧ eb ≤ 971) (h0 : A ≠ 0) (hc : eb < ea) (HXA : Hid (∀ (w1 : World) (a1 : Option Addr) (n1 c1 : Nat), Nw w1 (.slice a1 n1 c1) A → Calls Tryz.prog 120 #[.slice a1 n1 c1, .int .i64 (ea - eb)] w1 (OneOk w1 X))) (HXB : Hid (∀ (w1 : World) (a1 : Option Addr) (n1 c1 : Nat), Nw w1 (.slice a1 n1 c1) B → Calls Tryz.prog 120 #[.slice a1 n1 c1, .int .i64 (0)] w1 (OneOk w1 Y))) (HP : Hid (∀ (w1 : World) (a1 : Option Addr) (n1 c1 : Nat) (a2 : Option Addr) (n2 c2 : Nat), Nw w1 (.slice a1 n1 c1) X → Nw w1 (.slice a2 n2 c2) Y → Calls Tryz.prog 146 #[.slice a1 n1 c1, .slice a2 n2 c2] w1 (One w1 D))) (HM : Hid (∀ (w1 : World) (a1 : Option Addr) (n1 c1 : Nat), Nw w1 (.slice a1 n1 c1) D → Calls Tryz.prog 134 #[.bool g1, .slice a1 n1 c1, .int .i64 (eb)] w1 fun e w' => e = .returned (.int .u64 R) ∧ Below w1.heap.size w1 w')) (hg : g1 = g2) (w : World) : Calls Tryz.prog 133 #[.int .u64 a, .int .u64 b] w fun e w' => e = .returned (.int .u64 (R)) ∧ Below w.heap.size w w' := by
  subst hg
  have H0 := Lib.hid h0
  clear h0
  go_enter Tryz.func133, Tryz.ntmps133
  go_wp2_with (first
    | (go_at_call 64; (with_reducible refine (N1.out _).mono ?_); rintro e1 w1 ⟨rfl, rfl⟩)
    | (go_at_call 64; (with_reducible refine (N2.out _).mono ?_); rintro e1 w1 ⟨rfl, rfl⟩)
    | (go_at_call 99; (with_reducible refine (I1.out _).mono ?_); rintro e1 w1 ⟨rfl, rfl⟩)
    | (go_at_call 99; (with_reducible refine (I2.out _).mono ?_); rintro e1 w1 ⟨rfl, rfl⟩)
    | (go_at_call 119; (with_reducible refine (SA.out _).mono ?_); rintro e1 w1 ⟨a1, n1, c1, rfl, hv1, hb1⟩; have hl1 := hv1.lenp H0.out)
    | (go_at_call 119; (with_reducible refine (SB.out _).mono ?_); rintro e2 w2 ⟨a2, n2, c2, rfl, hv2, hb2⟩; skip)
    | (go_at_call 120; (with_reducible refine (HXA.out _ _ _ _ (hv1.below hb2)).mono ?_); rintro e3 w3 ⟨a3, n3, c3, rfl, hv3, hb3⟩)
    | (go_at_call 120; (with_reducible refine (HXB.out _ _ _ _ (hv2.below hb3)).mono ?_); rintro e4 w4 ⟨a4, n4, c4, rfl, hv4, hb4⟩)
    | (go_at_call 146; (with_reducible refine (HP.out _ _ _ _ _ _ _ (hv3.below hb4) hv4).mono ?_); rintro e5 w5 ⟨a5, n5, c5, rfl, hv5, hb5⟩)
    | (go_at_call 134; (with_reducible refine (HM.out _ _ _ _ hv5).mono ?_); rintro e6 w6 ⟨rfl, hb6⟩))
  go_ret
  exact ⟨rfl, btn hb1 (btn hb2 (btn hb3 (btn hb4 (btn hb5 hb6))))⟩
set_option maxRecDepth 100000 in
set_option maxHeartbeats 2000000 in
theorem rAdd_faltgt (a b : Nat) (N1 : Hid (PB 64 a false)) (N2 : Hid (PB 64 b false)) (I1 : Hid (PB 99 a false)) (I2 : Hid (PB 99 b false)) (g1 g2 : Bool) (A B : Nat) (ea eb : Int) (SA : Hid (∀ w, Calls Tryz.prog 119 #[.int .u64 a] w (Sp w g1 A ea))) (SB : Hid (∀ w, Calls Tryz.prog 119 #[.int .u64 b] w (Sp w g2 B eb))) (X Y D : Nat) (R : Int) (be : -1074 ≤ ea ∧ ea ≤ 971 ∧ -1074 ≤ eb ∧ eb ≤ 971) (h0 : A ≠ 0) (hc : eb < ea) (HXA : Hid (∀ (w1 : World) (a1 : Option Addr) (n1 c1 : Nat), Nw w1 (.slice a1 n1 c1) A → Calls Tryz.prog 120 #[.slice a1 n1 c1, .int .i64 (ea - eb)] w1 (OneOk w1 X))) (HXB : Hid (∀ (w1 : World) (a1 : Option Addr) (n1 c1 : Nat), Nw w1 (.slice a1 n1 c1) B → Calls Tryz.prog 120 #[.slice a1 n1 c1, .int .i64 (0)] w1 (OneOk w1 Y))) (hg : (g1 == g2) = false) (t : Int) (HP : Hid (∀ (w1 : World) (a1 : Option Addr) (n1 c1 : Nat) (a2 : Option Addr) (n2 c2 : Nat), Nw w1 (.slice a1 n1 c1) X → Nw w1 (.slice a2 n2 c2) Y → Calls Tryz.prog 123 #[.slice a1 n1 c1, .slice a2 n2 c2] w1 fun e w' => e = .returned (.int .i64 t) ∧ Below w1.heap.size w1 w')) (ht : 0 < t) (HD : Hid (∀ (w1 : World) (a1 : Option Addr) (n1 c1 : Nat) (a2 : Option Addr) (n2 c2 : Nat), Nw w1 (.slice a1 n1 c1) X → Nw w1 (.slice a2 n2 c2) Y → Calls Tryz.prog 151 #[.slice a1 n1 c1, .slice a2 n2 c2] w1 (OneOk w1 D))) (HM : Hid (∀ (w1 : World) (a1 : Option Addr) (n1 c1 : Nat), Nw w1 (.slice a1 n1 c1) D → Calls Tryz.prog 134 #[.bool g1, .slice a1 n1 c1, .int .i64 (eb)] w1 fun e w' => e = .returned (.int .u64 R) ∧ Below w1.heap.size w1 w')) (w : World) : Calls Tryz.prog 133 #[.int .u64 a, .int .u64 b] w fun e w' => e = .returned (.int .u64 (R)) ∧ Below w.heap.size w w' := by
  have H0 := Lib.hid h0
  clear h0
  go_enter Tryz.func133, Tryz.ntmps133
  go_wp2_with (first
    | (go_at_call 64; (with_reducible refine (N1.out _).mono ?_); rintro e1 w1 ⟨rfl, rfl⟩)
    | (go_at_call 64; (with_reducible refine (N2.out _).mono ?_); rintro e1 w1 ⟨rfl, rfl⟩)
    | (go_at_call 99; (with_reducible refine (I1.out _).mono ?_); rintro e1 w1 ⟨rfl, rfl⟩)
    | (go_at_call 99; (with_reducible refine (I2.out _).mono ?_); rintro e1 w1 ⟨rfl, rfl⟩)
    | (go_at_call 119; (with_reducible refine (SA.out _).mono ?_); rintro e1 w1 ⟨a1, n1, c1, rfl, hv1, hb1⟩; have hl1 := hv1.lenp H0.out)
    | (go_at_call 119; (with_reducible refine (SB.out _).mono ?_); rintro e2 w2 ⟨a2, n2, c2, rfl, hv2, hb2⟩; skip)
    | (go_at_call 120; (with_reducible refine (HXA.out _ _ _ _ (hv1.below hb2)).mono ?_); rintro e3 w3 ⟨a3, n3, c3, rfl, hv3, hb3⟩)
    | (go_at_call 120; (with_reducible refine (HXB.out _ _ _ _ (hv2.below hb3)).mono ?_); rintro e4 w4 ⟨a4, n4, c4, rfl, hv4, hb4⟩)
    | (go_at_call 123; (with_reducible refine (HP.out _ _ _ _ _ _ _ (hv3.below hb4) hv4).mono ?_); rintro e5 w5 ⟨rfl, hb5⟩)
    | (go_at_call 151; (with_reducible refine (HD.out _ _ _ _ _ _ _ ((hv3.below hb4).below hb5) (hv4.below hb5)).mono ?_); rintro e6 w6 ⟨a6, n6, c6, rfl, hv6, hb6⟩)
    | (go_at_call 134; (with_reducible refine (HM.out _ _ _ _ hv6).mono ?_); rintro e7 w7 ⟨rfl, hb7⟩))
  go_ret
  exact ⟨rfl, btn hb1 (btn hb2 (btn hb3 (btn hb4 (btn hb5 (btn hb6 hb7)))))⟩
set_option maxRecDepth 100000 in
set_option maxHeartbeats 2000000 in
theorem rAdd_faltlt (a b : Nat) (N1 : Hid (PB 64 a false)) (N2 : Hid (PB 64 b false)) (I1 : Hid (PB 99 a false)) (I2 : Hid (PB 99 b false)) (g1 g2 : Bool) (A B : Nat) (ea eb : Int) (SA : Hid (∀ w, Calls Tryz.prog 119 #[.int .u64 a] w (Sp w g1 A ea))) (SB : Hid (∀ w, Calls Tryz.prog 119 #[.int .u64 b] w (Sp w g2 B eb))) (X Y D : Nat) (R : Int) (be : -1074 ≤ ea ∧ ea ≤ 971 ∧ -1074 ≤ eb ∧ eb ≤ 971) (h0 : A ≠ 0) (hc : eb < ea) (HXA : Hid (∀ (w1 : World) (a1 : Option Addr) (n1 c1 : Nat), Nw w1 (.slice a1 n1 c1) A → Calls Tryz.prog 120 #[.slice a1 n1 c1, .int .i64 (ea - eb)] w1 (OneOk w1 X))) (HXB : Hid (∀ (w1 : World) (a1 : Option Addr) (n1 c1 : Nat), Nw w1 (.slice a1 n1 c1) B → Calls Tryz.prog 120 #[.slice a1 n1 c1, .int .i64 (0)] w1 (OneOk w1 Y))) (hg : (g1 == g2) = false) (t : Int) (HP : Hid (∀ (w1 : World) (a1 : Option Addr) (n1 c1 : Nat) (a2 : Option Addr) (n2 c2 : Nat), Nw w1 (.slice a1 n1 c1) X → Nw w1 (.slice a2 n2 c2) Y → Calls Tryz.prog 123 #[.slice a1 n1 c1, .slice a2 n2 c2] w1 fun e w' => e = .returned (.int .i64 t) ∧ Below w1.heap.size w1 w')) (ht : t < 0) (HD : Hid (∀ (w1 : World) (a1 : Option Addr) (n1 c1 : Nat) (a2 : Option Addr) (n2 c2 : Nat), Nw w1 (.slice a1 n1 c1) Y → Nw w1 (.slice a2 n2 c2) X → Calls Tryz.prog 151 #[.slice a1 n1 c1, .slice a2 n2 c2] w1 (OneOk w1 D))) (HM : Hid (∀ (w1 : World) (a1 : Option Addr) (n1 c1 : Nat), Nw w1 (.slice a1 n1 c1) D → Calls Tryz.prog 134 #[.bool g2, .slice a1 n1 c1, .int .i64 (eb)] w1 fun e w' => e = .returned (.int .u64 R) ∧ Below w1.heap.size w1 w')) (w : World) : Calls Tryz.prog 133 #[.int .u64 a, .int .u64 b] w fun e w' => e = .returned (.int .u64 (R)) ∧ Below w.heap.size w w' := by
  have H0 := Lib.hid h0
  clear h0
  go_enter Tryz.func133, Tryz.ntmps133
  go_wp2_with (first
    | (go_at_call 64; (with_reducible refine (N1.out _).mono ?_); rintro e1 w1 ⟨rfl, rfl⟩)
    | (go_at_call 64; (with_reducible refine (N2.out _).mono ?_); rintro e1 w1 ⟨rfl, rfl⟩)
    | (go_at_call 99; (with_reducible refine (I1.out _).mono ?_); rintro e1 w1 ⟨rfl, rfl⟩)
    | (go_at_call 99; (with_reducible refine (I2.out _).mono ?_); rintro e1 w1 ⟨rfl, rfl⟩)
    | (go_at_call 119; (with_reducible refine (SA.out _).mono ?_); rintro e1 w1 ⟨a1, n1, c1, rfl, hv1, hb1⟩; have hl1 := hv1.lenp H0.out)
    | (go_at_call 119; (with_reducible refine (SB.out _).mono ?_); rintro e2 w2 ⟨a2, n2, c2, rfl, hv2, hb2⟩; skip)
    | (go_at_call 120; (with_reducible refine (HXA.out _ _ _ _ (hv1.below hb2)).mono ?_); rintro e3 w3 ⟨a3, n3, c3, rfl, hv3, hb3⟩)
    | (go_at_call 120; (with_reducible refine (HXB.out _ _ _ _ (hv2.below hb3)).mono ?_); rintro e4 w4 ⟨a4, n4, c4, rfl, hv4, hb4⟩)
    | (go_at_call 123; (with_reducible refine (HP.out _ _ _ _ _ _ _ (hv3.below hb4) hv4).mono ?_); rintro e5 w5 ⟨rfl, hb5⟩)
    | (go_at_call 151; (with_reducible refine (HD.out _ _ _ _ _ _ _ (hv4.below hb5) ((hv3.below hb4).below hb5)).mono ?_); rintro e6 w6 ⟨a6, n6, c6, rfl, hv6, hb6⟩)
    | (go_at_call 134; (with_reducible refine (HM.out _ _ _ _ hv6).mono ?_); rintro e7 w7 ⟨rfl, hb7⟩))
  go_ret
  exact ⟨rfl, btn hb1 (btn hb2 (btn hb3 (btn hb4 (btn hb5 (btn hb6 hb7)))))⟩
set_option maxRecDepth 100000 in
set_option maxHeartbeats 2000000 in
theorem rAdd_falteq (a b : Nat) (N1 : Hid (PB 64 a false)) (N2 : Hid (PB 64 b false)) (I1 : Hid (PB 99 a false)) (I2 : Hid (PB 99 b false)) (g1 g2 : Bool) (A B : Nat) (ea eb : Int) (SA : Hid (∀ w, Calls Tryz.prog 119 #[.int .u64 a] w (Sp w g1 A ea))) (SB : Hid (∀ w, Calls Tryz.prog 119 #[.int .u64 b] w (Sp w g2 B eb))) (X Y D : Nat) (R : Int) (be : -1074 ≤ ea ∧ ea ≤ 971 ∧ -1074 ≤ eb ∧ eb ≤ 971) (h0 : A ≠ 0) (hc : eb < ea) (HXA : Hid (∀ (w1 : World) (a1 : Option Addr) (n1 c1 : Nat), Nw w1 (.slice a1 n1 c1) A → Calls Tryz.prog 120 #[.slice a1 n1 c1, .int .i64 (ea - eb)] w1 (OneOk w1 X))) (HXB : Hid (∀ (w1 : World) (a1 : Option Addr) (n1 c1 : Nat), Nw w1 (.slice a1 n1 c1) B → Calls Tryz.prog 120 #[.slice a1 n1 c1, .int .i64 (0)] w1 (OneOk w1 Y))) (hg : (g1 == g2) = false) (t : Int) (HP : Hid (∀ (w1 : World) (a1 : Option Addr) (n1 c1 : Nat) (a2 : Option Addr) (n2 c2 : Nat), Nw w1 (.slice a1 n1 c1) X → Nw w1 (.slice a2 n2 c2) Y → Calls Tryz.prog 123 #[.slice a1 n1 c1, .slice a2 n2 c2] w1 fun e w' => e = .returned (.int .i64 t) ∧ Below w1.heap.size w1 w')) (ht : t = 0) (w : World) : Calls Tryz.prog 133 #[.int .u64 a, .int .u64 b] w fun e w' => e = .returned (.int .u64 (0)) ∧ Below w.heap.size w w' := by
  have H0 := Lib.hid h0
  clear h0
  go_enter Tryz.func133, Tryz.ntmps133
  go_wp2_with (first
    | (go_at_call 64; (with_reducible refine (N1.out _).mono ?_); rintro e1 w1 ⟨rfl, rfl⟩)
    | (go_at_call 64; (with_reducible refine (N2.out _).mono ?_); rintro e1 w1 ⟨rfl, rfl⟩)
    | (go_at_call 99; (with_reducible refine (I1.out _).mono ?_); rintro e1 w1 ⟨rfl, rfl⟩)
    | (go_at_call 99; (with_reducible refine (I2.out _).mono ?_); rintro e1 w1 ⟨rfl, rfl⟩)
    | (go_at_call 119; (with_reducible refine (SA.out _).mono ?_); rintro e1 w1 ⟨a1, n1, c1, rfl, hv1, hb1⟩; have hl1 := hv1.lenp H0.out)
    | (go_at_call 119; (with_reducible refine (SB.out _).mono ?_); rintro e2 w2 ⟨a2, n2, c2, rfl, hv2, hb2⟩; skip)
    | (go_at_call 120; (with_reducible refine (HXA.out _ _ _ _ (hv1.below hb2)).mono ?_); rintro e3 w3 ⟨a3, n3, c3, rfl, hv3, hb3⟩)
    | (go_at_call 120; (with_reducible refine (HXB.out _ _ _ _ (hv2.below hb3)).mono ?_); rintro e4 w4 ⟨a4, n4, c4, rfl, hv4, hb4⟩)
    | (go_at_call 123; (with_reducible refine (HP.out _ _ _ _ _ _ _ (hv3.below hb4) hv4).mono ?_); rintro e5 w5 ⟨rfl, hb5⟩))
  go_ret
  exact ⟨rfl, btn hb1 (btn hb2 (btn hb3 (btn hb4 hb5)))⟩
set_option maxRecDepth 100000 in
set_option maxHeartbeats 2000000 in
theorem rAdd_fagesame (a b : Nat) (N1 : Hid (PB 64 a false)) (N2 : Hid (PB 64 b false)) (I1 : Hid (PB 99 a false)) (I2 : Hid (PB 99 b false)) (g1 g2 : Bool) (A B : Nat) (ea eb : Int) (SA : Hid (∀ w, Calls Tryz.prog 119 #[.int .u64 a] w (Sp w g1 A ea))) (SB : Hid (∀ w, Calls Tryz.prog 119 #[.int .u64 b] w (Sp w g2 B eb))) (X Y D : Nat) (R : Int) (be : -1074 ≤ ea ∧ ea ≤ 971 ∧ -1074 ≤ eb ∧ eb ≤ 971) (h0 : A ≠ 0) (hc : ¬ eb < ea) (HXA : Hid (∀ (w1 : World) (a1 : Option Addr) (n1 c1 : Nat), Nw w1 (.slice a1 n1 c1) A → Calls Tryz.prog 120 #[.slice a1 n1 c1, .int .i64 (0)] w1 (OneOk w1 X))) (HXB : Hid (∀ (w1 : World) (a1 : Option Addr) (n1 c1 : Nat), Nw w1 (.slice a1 n1 c1) B → Calls Tryz.prog 120 #[.slice a1 n1 c1, .int .i64 (eb - ea)] w1 (OneOk w1 Y))) (HP : Hid (∀ (w1 : World) (a1 : Option Addr) (n1 c1 : Nat) (a2 : Option Addr) (n2 c2 : Nat), Nw w1 (.slice a1 n1 c1) X → Nw w1 (.slice a2 n2 c2) Y → Calls Tryz.prog 146 #[.slice a1 n1 c1, .slice a2 n2 c2] w1 (One w1 D))) (HM : Hid (∀ (w1 : World) (a1 : Option Addr) (n1 c1 : Nat), Nw w1 (.slice a1 n1 c1) D → Calls Tryz.prog 134 #[.bool g1, .slice a1 n1 c1, .int .i64 (ea)] w1 fun e w' => e = .returned (.int .u64 R) ∧ Below w1.heap.size w1 w')) (hg : g1 = g2) (w : World) : Calls Tryz.prog 133 #[.int .u64 a, .int .u64 b] w fun e w' => e = .returned (.int .u64 (R)) ∧ Below w.heap.size w w' := by
  subst hg
  have H0 := Lib.hid h0
  clear h0
  go_enter Tryz.func133, Tryz.ntmps133
  go_wp2_with (first
    | (go_at_call 64; (with_reducible refine (N1.out _).mono ?_); rintro e1 w1 ⟨rfl, rfl⟩)
    | (go_at_call 64; (with_reducible refine (N2.out _).mono ?_); rintro e1 w1 ⟨rfl, rfl⟩)
    | (go_at_call 99; (with_reducible refine (I1.out _).mono ?_); rintro e1 w1 ⟨rfl, rfl⟩)
    | (go_at_call 99; (with_reducible refine (I2.out _).mono ?_); rintro e1 w1 ⟨rfl, rfl⟩)
    | (go_at_call 119; (with_reducible refine (SA.out _).mono ?_); rintro e1 w1 ⟨a1, n1, c1, rfl, hv1, hb1⟩; have hl1 := hv1.lenp H0.out)
    | (go_at_call 119; (with_reducible refine (SB.out _).mono ?_); rintro e2 w2 ⟨a2, n2, c2, rfl, hv2, hb2⟩; skip)
    | (go_at_call 120; (with_reducible refine (HXA.out _ _ _ _ (hv1.below hb2)).mono ?_); rintro e3 w3 ⟨a3, n3, c3, rfl, hv3, hb3⟩)
    | (go_at_call 120; (with_reducible refine (HXB.out _ _ _ _ (hv2.below hb3)).mono ?_); rintro e4 w4 ⟨a4, n4, c4, rfl, hv4, hb4⟩)
    | (go_at_call 146; (with_reducible refine (HP.out _ _ _ _ _ _ _ (hv3.below hb4) hv4).mono ?_); rintro e5 w5 ⟨a5, n5, c5, rfl, hv5, hb5⟩)
    | (go_at_call 134; (with_reducible refine (HM.out _ _ _ _ hv5).mono ?_); rintro e6 w6 ⟨rfl, hb6⟩))
  go_ret
  exact ⟨rfl, btn hb1 (btn hb2 (btn hb3 (btn hb4 (btn hb5 hb6))))⟩
set_option maxRecDepth 100000 in
set_option maxHeartbeats 2000000 in
theorem rAdd_fagegt (a b : Nat) (N1 : Hid (PB 64 a false)) (N2 : Hid (PB 64 b false)) (I1 : Hid (PB 99 a false)) (I2 : Hid (PB 99 b false)) (g1 g2 : Bool) (A B : Nat) (ea eb : Int) (SA : Hid (∀ w, Calls Tryz.prog 119 #[.int .u64 a] w (Sp w g1 A ea))) (SB : Hid (∀ w, Calls Tryz.prog 119 #[.int .u64 b] w (Sp w g2 B eb))) (X Y D : Nat) (R : Int) (be : -1074 ≤ ea ∧ ea ≤ 971 ∧ -1074 ≤ eb ∧ eb ≤ 971) (h0 : A ≠ 0) (hc : ¬ eb < ea) (HXA : Hid (∀ (w1 : World) (a1 : Option Addr) (n1 c1 : Nat), Nw w1 (.slice a1 n1 c1) A → Calls Tryz.prog 120 #[.slice a1 n1 c1, .int .i64 (0)] w1 (OneOk w1 X))) (HXB : Hid (∀ (w1 : World) (a1 : Option Addr) (n1 c1 : Nat), Nw w1 (.slice a1 n1 c1) B → Calls Tryz.prog 120 #[.slice a1 n1 c1, .int .i64 (eb - ea)] w1 (OneOk w1 Y))) (hg : (g1 == g2) = false) (t : Int) (HP : Hid (∀ (w1 : World) (a1 : Option Addr) (n1 c1 : Nat) (a2 : Option Addr) (n2 c2 : Nat), Nw w1 (.slice a1 n1 c1) X → Nw w1 (.slice a2 n2 c2) Y → Calls Tryz.prog 123 #[.slice a1 n1 c1, .slice a2 n2 c2] w1 fun e w' => e = .returned (.int .i64 t) ∧ Below w1.heap.size w1 w')) (ht : 0 < t) (HD : Hid (∀ (w1 : World) (a1 : Option Addr) (n1 c1 : Nat) (a2 : Option Addr) (n2 c2 : Nat), Nw w1 (.slice a1 n1 c1) X → Nw w1 (.slice a2 n2 c2) Y → Calls Tryz.prog 151 #[.slice a1 n1 c1, .slice a2 n2 c2] w1 (OneOk w1 D))) (HM : Hid (∀ (w1 : World) (a1 : Option Addr) (n1 c1 : Nat), Nw w1 (.slice a1 n1 c1) D → Calls Tryz.prog 134 #[.bool g1, .slice a1 n1 c1, .int .i64 (ea)] w1 fun e w' => e = .returned (.int .u64 R) ∧ Below w1.heap.size w1 w')) (w : World) : Calls Tryz.prog 133 #[.int .u64 a, .int .u64 b] w fun e w' => e = .returned (.int .u64 (R)) ∧ Below w.heap.size w w' := by
  have H0 := Lib.hid h0
  clear h0
  go_enter Tryz.func133, Tryz.ntmps133
  go_wp2_with (first
    | (go_at_call 64; (with_reducible refine (N1.out _).mono ?_); rintro e1 w1 ⟨rfl, rfl⟩)
    | (go_at_call 64; (with_reducible refine (N2.out _).mono ?_); rintro e1 w1 ⟨rfl, rfl⟩)
    | (go_at_call 99; (with_reducible refine (I1.out _).mono ?_); rintro e1 w1 ⟨rfl, rfl⟩)
    | (go_at_call 99; (with_reducible refine (I2.out _).mono ?_); rintro e1 w1 ⟨rfl, rfl⟩)
    | (go_at_call 119; (with_reducible refine (SA.out _).mono ?_); rintro e1 w1 ⟨a1, n1, c1, rfl, hv1, hb1⟩; have hl1 := hv1.lenp H0.out)
    | (go_at_call 119; (with_reducible refine (SB.out _).mono ?_); rintro e2 w2 ⟨a2, n2, c2, rfl, hv2, hb2⟩; skip)
    | (go_at_call 120; (with_reducible refine (HXA.out _ _ _ _ (hv1.below hb2)).mono ?_); rintro e3 w3 ⟨a3, n3, c3, rfl, hv3, hb3⟩)
    | (go_at_call 120; (with_reducible refine (HXB.out _ _ _ _ (hv2.below hb3)).mono ?_); rintro e4 w4 ⟨a4, n4, c4, rfl, hv4, hb4⟩)
    | (go_at_call 123; (with_reducible refine (HP.out _ _ _ _ _ _ _ (hv3.below hb4) hv4).mono ?_); rintro e5 w5 ⟨rfl, hb5⟩)
    | (go_at_call 151; (with_reducible refine (HD.out _ _ _ _ _ _ _ ((hv3.below hb4).below hb5) (hv4.below hb5)).mono ?_); rintro e6 w6 ⟨a6, n6, c6, rfl, hv6, hb6⟩)
    | (go_at_call 134; (with_reducible refine (HM.out _ _ _ _ hv6).mono ?_); rintro e7 w7 ⟨rfl, hb7⟩))
  go_ret
  exact ⟨rfl, btn hb1 (btn hb2 (btn hb3 (btn hb4 (btn hb5 (btn hb6 hb7)))))⟩
set_option maxRecDepth 100000 in
set_option maxHeartbeats 2000000 in
theorem rAdd_fagelt (a b : Nat) (N1 : Hid (PB 64 a false)) (N2 : Hid (PB 64 b false)) (I1 : Hid (PB 99 a false)) (I2 : Hid (PB 99 b false)) (g1 g2 : Bool) (A B : Nat) (ea eb : Int) (SA : Hid (∀ w, Calls Tryz.prog 119 #[.int .u64 a] w (Sp w g1 A ea))) (SB : Hid (∀ w, Calls Tryz.prog 119 #[.int .u64 b] w (Sp w g2 B eb))) (X Y D : Nat) (R : Int) (be : -1074 ≤ ea ∧ ea ≤ 971 ∧ -1074 ≤ eb ∧ eb ≤ 971) (h0 : A ≠ 0) (hc : ¬ eb < ea) (HXA : Hid (∀ (w1 : World) (a1 : Option Addr) (n1 c1 : Nat), Nw w1 (.slice a1 n1 c1) A → Calls Tryz.prog 120 #[.slice a1 n1 c1, .int .i64 (0)] w1 (OneOk w1 X))) (HXB : Hid (∀ (w1 : World) (a1 : Option Addr) (n1 c1 : Nat), Nw w1 (.slice a1 n1 c1) B → Calls Tryz.prog 120 #[.slice a1 n1 c1, .int .i64 (eb - ea)] w1 (OneOk w1 Y))) (hg : (g1 == g2) = false) (t : Int) (HP : Hid (∀ (w1 : World) (a1 : Option Addr) (n1 c1 : Nat) (a2 : Option Addr) (n2 c2 : Nat), Nw w1 (.slice a1 n1 c1) X → Nw w1 (.slice a2 n2 c2) Y → Calls Tryz.prog 123 #[.slice a1 n1 c1, .slice a2 n2 c2] w1 fun e w' => e = .returned (.int .i64 t) ∧ Below w1.heap.size w1 w')) (ht : t < 0) (HD : Hid (∀ (w1 : World) (a1 : Option Addr) (n1 c1 : Nat) (a2 : Option Addr) (n2 c2 : Nat), Nw w1 (.slice a1 n1 c1) Y → Nw w1 (.slice a2 n2 c2) X → Calls Tryz.prog 151 #[.slice a1 n1 c1, .slice a2 n2 c2] w1 (OneOk w1 D))) (HM : Hid (∀ (w1 : World) (a1 : Option Addr) (n1 c1 : Nat), Nw w1 (.slice a1 n1 c1) D → Calls Tryz.prog 134 #[.bool g2, .slice a1 n1 c1, .int .i64 (ea)] w1 fun e w' => e = .returned (.int .u64 R) ∧ Below w1.heap.size w1 w')) (w : World) : Calls Tryz.prog 133 #[.int .u64 a, .int .u64 b] w fun e w' => e = .returned (.int .u64 (R)) ∧ Below w.heap.size w w' := by
  have H0 := Lib.hid h0
  clear h0
  go_enter Tryz.func133, Tryz.ntmps133
  go_wp2_with (first
    | (go_at_call 64; (with_reducible refine (N1.out _).mono ?_); rintro e1 w1 ⟨rfl, rfl⟩)
    | (go_at_call 64; (with_reducible refine (N2.out _).mono ?_); rintro e1 w1 ⟨rfl, rfl⟩)
    | (go_at_call 99; (with_reducible refine (I1.out _).mono ?_); rintro e1 w1 ⟨rfl, rfl⟩)
    | (go_at_call 99; (with_reducible refine (I2.out _).mono ?_); rintro e1 w1 ⟨rfl, rfl⟩)
    | (go_at_call 119; (with_reducible refine (SA.out _).mono ?_); rintro e1 w1 ⟨a1, n1, c1, rfl, hv1, hb1⟩; have hl1 := hv1.lenp H0.out)
    | (go_at_call 119; (with_reducible refine (SB.out _).mono ?_); rintro e2 w2 ⟨a2, n2, c2, rfl, hv2, hb2⟩; skip)
    | (go_at_call 120; (with_reducible refine (HXA.out _ _ _ _ (hv1.below hb2)).mono ?_); rintro e3 w3 ⟨a3, n3, c3, rfl, hv3, hb3⟩)
    | (go_at_call 120; (with_reducible refine (HXB.out _ _ _ _ (hv2.below hb3)).mono ?_); rintro e4 w4 ⟨a4, n4, c4, rfl, hv4, hb4⟩)
    | (go_at_call 123; (with_reducible refine (HP.out _ _ _ _ _ _ _ (hv3.below hb4) hv4).mono ?_); rintro e5 w5 ⟨rfl, hb5⟩)
    | (go_at_call 151; (with_reducible refine (HD.out _ _ _ _ _ _ _ (hv4.below hb5) ((hv3.below hb4).below hb5)).mono ?_); rintro e6 w6 ⟨a6, n6, c6, rfl, hv6, hb6⟩)
    | (go_at_call 134; (with_reducible refine (HM.out _ _ _ _ hv6).mono ?_); rintro e7 w7 ⟨rfl, hb7⟩))
  go_ret
  exact ⟨rfl, btn hb1 (btn hb2 (btn hb3 (btn hb4 (btn hb5 (btn hb6 hb7)))))⟩
set_option maxRecDepth 100000 in
set_option maxHeartbeats 2000000 in
theorem rAdd_fageeq (a b : Nat) (N1 : Hid (PB 64 a false)) (N2 : Hid (PB 64 b false)) (I1 : Hid (PB 99 a false)) (I2 : Hid (PB 99 b false)) (g1 g2 : Bool) (A B : Nat) (ea eb : Int) (SA : Hid (∀ w, Calls Tryz.prog 119 #[.int .u64 a] w (Sp w g1 A ea))) (SB : Hid (∀ w, Calls Tryz.prog 119 #[.int .u64 b] w (Sp w g2 B eb))) (X Y D : Nat) (R : Int) (be : -1074 ≤ ea ∧ ea ≤ 971 ∧ -1074 ≤ eb ∧ eb ≤ 971) (h0 : A ≠ 0) (hc : ¬ eb < ea) (HXA : Hid (∀ (w1 : World) (a1 : Option Addr) (n1 c1 : Nat), Nw w1 (.slice a1 n1 c1) A → Calls Tryz.prog 120 #[.slice a1 n1 c1, .int .i64 (0)] w1 (OneOk w1 X))) (HXB : Hid (∀ (w1 : World) (a1 : Option Addr) (n1 c1 : Nat), Nw w1 (.slice a1 n1 c1) B → Calls Tryz.prog 120 #[.slice a1 n1 c1, .int .i64 (eb - ea)] w1 (OneOk w1 Y))) (hg : (g1 == g2) = false) (t : Int) (HP : Hid (∀ (w1 : World) (a1 : Option Addr) (n1 c1 : Nat) (a2 : Option Addr) (n2 c2 : Nat), Nw w1 (.slice a1 n1 c1) X → Nw w1 (.slice a2 n2 c2) Y → Calls Tryz.prog 123 #[.slice a1 n1 c1, .slice a2 n2 c2] w1 fun e w' => e = .returned (.int .i64 t) ∧ Below w1.heap.size w1 w')) (ht : t = 0) (w : World) : Calls Tryz.prog 133 #[.int .u64 a, .int .u64 b] w fun e w' => e = .returned (.int .u64 (0)) ∧ Below w.heap.size w w' := by
  have H0 := Lib.hid h0
  clear h0
  go_enter Tryz.func133, Tryz.ntmps133
  go_wp2_with (first
    | (go_at_call 64; (with_reducible refine (N1.out _).mono ?_); rintro e1 w1 ⟨rfl, rfl⟩)
    | (go_at_call 64; (with_reducible refine (N2.out _).mono ?_); rintro e1 w1 ⟨rfl, rfl⟩)
    | (go_at_call 99; (with_reducible refine (I1.out _).mono ?_); rintro e1 w1 ⟨rfl, rfl⟩)
    | (go_at_call 99; (with_reducible refine (I2.out _).mono ?_); rintro e1 w1 ⟨rfl, rfl⟩)
    | (go_at_call 119; (with_reducible refine (SA.out _).mono ?_); rintro e1 w1 ⟨a1, n1, c1, rfl, hv1, hb1⟩; have hl1 := hv1.lenp H0.out)
    | (go_at_call 119; (with_reducible refine (SB.out _).mono ?_); rintro e2 w2 ⟨a2, n2, c2, rfl, hv2, hb2⟩; skip)
    | (go_at_call 120; (with_reducible refine (HXA.out _ _ _ _ (hv1.below hb2)).mono ?_); rintro e3 w3 ⟨a3, n3, c3, rfl, hv3, hb3⟩)
    | (go_at_call 120; (with_reducible refine (HXB.out _ _ _ _ (hv2.below hb3)).mono ?_); rintro e4 w4 ⟨a4, n4, c4, rfl, hv4, hb4⟩)
    | (go_at_call 123; (with_reducible refine (HP.out _ _ _ _ _ _ _ (hv3.below hb4) hv4).mono ?_); rintro e5 w5 ⟨rfl, hb5⟩))
  go_ret
  exact ⟨rfl, btn hb1 (btn hb2 (btn hb3 (btn hb4 hb5)))⟩
set_option maxRecDepth 100000 in
set_option maxHeartbeats 2000000 in
theorem rAdd_fbltsame (a b : Nat) (N1 : Hid (PB 64 a false)) (N2 : Hid (PB 64 b false)) (I1 : Hid (PB 99 a false)) (I2 : Hid (PB 99 b false)) (g1 g2 : Bool) (A B : Nat) (ea eb : Int) (SA : Hid (∀ w, Calls Tryz.prog 119 #[.int .u64 a] w (Sp w g1 A ea))) (SB : Hid (∀ w, Calls Tryz.prog 119 #[.int .u64 b] w (Sp w g2 B eb))) (X Y D : Nat) (R : Int) (be : -1074 ≤ ea ∧ ea ≤ 971 ∧ -1074 ≤ eb ∧ eb ≤ 971) (hA0 : A = 0) (h0 : B ≠ 0) (hc : eb < ea) (HXA : Hid (∀ (w1 : World) (a1 : Option Addr) (n1 c1 : Nat), Nw w1 (.slice a1 n1 c1) A → Calls Tryz.prog 120 #[.slice a1 n1 c1, .int .i64 (ea - eb)] w1 (OneOk w1 X))) (HXB : Hid (∀ (w1 : World) (a1 : Option Addr) (n1 c1 : Nat), Nw w1 (.slice a1 n1 c1) B → Calls Tryz.prog 120 #[.slice a1 n1 c1, .int .i64 (0)] w1 (OneOk w1 Y))) (HP : Hid (∀ (w1 : World) (a1 : Option Addr) (n1 c1 : Nat) (a2 : Option Addr) (n2 c2 : Nat), Nw w1 (.slice a1 n1 c1) X → Nw w1 (.slice a2 n2 c2) Y → Calls Tryz.prog 146 #[.slice a1 n1 c1, .slice a2 n2 c2] w1 (One w1 D))) (HM : Hid (∀ (w1 : World) (a1 : Option Addr) (n1 c1 : Nat), Nw w1 (.slice a1 n1 c1) D → Calls Tryz.prog 134 #[.bool g1, .slice a1 n1 c1, .int .i64 (eb)] w1 fun e w' => e = .returned (.int .u64 R) ∧ Below w1.heap.size w1 w')) (hg : g1 = g2) (w : World) : Calls Tryz.prog 133 #[.int .u64 a, .int .u64 b] w fun e w' => e = .returned (.int .u64 (R)) ∧ Below w.heap.size w w' := by
  subst hg
  subst hA0
  have H0 := Lib.hid h0
  clear h0
  go_enter Tryz.func133, Tryz.ntmps133
  go_wp2_with (first
    | (go_at_call 64; (with_reducible refine (N1.out _).mono ?_); rintro e1 w1 ⟨rfl, rfl⟩)
    | (go_at_call 64; (with_reducible refine (N2.out _).mono ?_); rintro e1 w1 ⟨rfl, rfl⟩)
    | (go_at_call 99; (with_reducible refine (I1.out _).mono ?_); rintro e1 w1 ⟨rfl, rfl⟩)
    | (go_at_call 99; (with_reducible refine (I2.out _).mono ?_); rintro e1 w1 ⟨rfl, rfl⟩)
    | (go_at_call 119; (with_reducible refine (SA.out _).mono ?_); rintro e1 w1 ⟨a1, n1, c1, rfl, hv1, hb1⟩; obtain rfl := hv1.len0)
    | (go_at_call 119; (with_reducible refine (SB.out _).mono ?_); rintro e2 w2 ⟨a2, n2, c2, rfl, hv2, hb2⟩; have hl2 := hv2.lenp H0.out)
    | (go_at_call 120; (with_reducible refine (HXA.out _ _ _ _ (hv1.below hb2)).mono ?_); rintro e3 w3 ⟨a3, n3, c3, rfl, hv3, hb3⟩)
    | (go_at_call 120; (with_reducible refine (HXB.out _ _ _ _ (hv2.below hb3)).mono ?_); rintro e4 w4 ⟨a4, n4, c4, rfl, hv4, hb4⟩)
    | (go_at_call 146; (with_reducible refine (HP.out _ _ _ _ _ _ _ (hv3.below hb4) hv4).mono ?_); rintro e5 w5 ⟨a5, n5, c5, rfl, hv5, hb5⟩)
    | (go_at_call 134; (with_reducible refine (HM.out _ _ _ _ hv5).mono ?_); rintro e6 w6 ⟨rfl, hb6⟩))
  go_ret
  exact ⟨rfl, btn hb1 (btn hb2 (btn hb3 (btn hb4 (btn hb5 hb6))))⟩
set_option maxRecDepth 100000 in
set_option maxHeartbeats 2000000 in
theorem rAdd_fbltgt (a b : Nat) (N1 : Hid (PB 64 a false)) (N2 : Hid (PB 64 b false)) (I1 : Hid (PB 99 a false)) (I2 : Hid (PB 99 b false)) (g1 g2 : Bool) (A B : Nat) (ea eb : Int) (SA : Hid (∀ w, Calls Tryz.prog 119 #[.int .u64 a] w (Sp w g1 A ea))) (SB : Hid (∀ w, Calls Tryz.prog 119 #[.int .u64 b] w (Sp w g2 B eb))) (X Y D : Nat) (R : Int) (be : -1074 ≤ ea ∧ ea ≤ 971 ∧ -1074 ≤ eb ∧ eb ≤ 971) (hA0 : A = 0) (h0 : B ≠ 0) (hc : eb < ea) (HXA : Hid (∀ (w1 : World) (a1 : Option Addr) (n1 c1 : Nat), Nw w1 (.slice a1 n1 c1) A → Calls Tryz.prog 120 #[.slice a1 n1 c1, .int .i64 (ea - eb)] w1 (OneOk w1 X))) (HXB : Hid (∀ (w1 : World) (a1 : Option Addr) (n1 c1 : Nat), Nw w1 (.slice a1 n1 c1) B → Calls Tryz.prog 120 #[.slice a1 n1 c1, .int .i64 (0)] w1 (OneOk w1 Y))) (hg : (g1 == g2) = false) (t : Int) (HP : Hid (∀ (w1 : World) (a1 : Option Addr) (n1 c1 : Nat) (a2 : Option Addr) (n2 c2 : Nat), Nw w1 (.slice a1 n1 c1) X → Nw w1 (.slice a2 n2 c2) Y → Calls Tryz.prog 123 #[.slice a1 n1 c1, .slice a2 n2 c2] w1 fun e w' => e = .returned (.int .i64 t) ∧ Below w1.heap.size w1 w')) (ht : 0 < t) (HD : Hid (∀ (w1 : World) (a1 : Option Addr) (n1 c1 : Nat) (a2 : Option Addr) (n2 c2 : Nat), Nw w1 (.slice a1 n1 c1) X → Nw w1 (.slice a2 n2 c2) Y → Calls Tryz.prog 151 #[.slice a1 n1 c1, .slice a2 n2 c2] w1 (OneOk w1 D))) (HM : Hid (∀ (w1 : World) (a1 : Option Addr) (n1 c1 : Nat), Nw w1 (.slice a1 n1 c1) D → Calls Tryz.prog 134 #[.bool g1, .slice a1 n1 c1, .int .i64 (eb)] w1 fun e w' => e = .returned (.int .u64 R) ∧ Below w1.heap.size w1 w')) (w : World) : Calls Tryz.prog 133 #[.int .u64 a, .int .u64 b] w fun e w' => e = .returned (.int .u64 (R)) ∧ Below w.heap.size w w' := by
  subst hA0
  have H0 := Lib.hid h0
  clear h0
  go_enter Tryz.func133, Tryz.ntmps133
  go_wp2_with (first
    | (go_at_call 64; (with_reducible refine (N1.out _).mono ?_); rintro e1 w1 ⟨rfl, rfl⟩)
    | (go_at_call 64; (with_reducible refine (N2.out _).mono ?_); rintro e1 w1 ⟨rfl, rfl⟩)
    | (go_at_call 99; (with_reducible refine (I1.out _).mono ?_); rintro e1 w1 ⟨rfl, rfl⟩)
    | (go_at_call 99; (with_reducible refine (I2.out _).mono ?_); rintro e1 w1 ⟨rfl, rfl⟩)
    | (go_at_call 119; (with_reducible refine (SA.out _).mono ?_); rintro e1 w1 ⟨a1, n1, c1, rfl, hv1, hb1⟩; obtain rfl := hv1.len0)
    | (go_at_call 119; (with_reducible refine (SB.out _).mono ?_); rintro e2 w2 ⟨a2, n2, c2, rfl, hv2, hb2⟩; have hl2 := hv2.lenp H0.out)
    | (go_at_call 120; (with_reducible refine (HXA.out _ _ _ _ (hv1.below hb2)).mono ?_); rintro e3 w3 ⟨a3, n3, c3, rfl, hv3, hb3⟩)
    | (go_at_call 120; (with_reducible refine (HXB.out _ _ _ _ (hv2.below hb3)).mono ?_); rintro e4 w4 ⟨a4, n4, c4, rfl, hv4, hb4⟩)
    | (go_at_call 123; (with_reducible refine (HP.out _ _ _ _ _ _ _ (hv3.below hb4) hv4).mono ?_); rintro e5 w5 ⟨rfl, hb5⟩)
    | (go_at_call 151; (with_reducible refine (HD.out _ _ _ _ _ _ _ ((hv3.below hb4).below hb5) (hv4.below hb5)).mono ?_); rintro e6 w6 ⟨a6, n6, c6, rfl, hv6, hb6⟩)
    | (go_at_call 134; (with_reducible refine (HM.out _ _ _ _ hv6).mono ?_); rintro e7 w7 ⟨rfl, hb7⟩))
  go_ret
  exact ⟨rfl, btn hb1 (btn hb2 (btn hb3 (btn hb4 (btn hb5 (btn hb6 hb7)))))⟩
set_option maxRecDepth 100000 in
set_option maxHeartbeats 2000000 in
theorem rAdd_fbltlt (a b : Nat) (N1 : Hid (PB 64 a false)) (N2 : Hid (PB 64 b false)) (I1 : Hid (PB 99 a false)) (I2 : Hid (PB 99 b false)) (g1 g2 : Bool) (A B : Nat) (ea eb : Int) (SA : Hid (∀ w, Calls Tryz.prog 119 #[.int .u64 a] w (Sp w g1 A ea))) (SB : Hid (∀ w, Calls Tryz.prog 119 #[.int .u64 b] w (Sp w g2 B eb))) (X Y D : Nat) (R : Int) (be : -1074 ≤ ea ∧ ea ≤ 971 ∧ -1074 ≤ eb ∧ eb ≤ 971) (hA0 : A = 0) (h0 : B ≠ 0) (hc : eb < ea) (HXA : Hid (∀ (w1 : World) (a1 : Option Addr) (n1 c1 : Nat), Nw w1 (.slice a1 n1 c1) A → Calls Tryz.prog 120 #[.slice a1 n1 c1, .int .i64 (ea - eb)] w1 (OneOk w1 X))) (HXB : Hid (∀ (w1 : World) (a1 : Option Addr) (n1 c1 : Nat), Nw w1 (.slice a1 n1 c1) B → Calls Tryz.prog 120 #[.slice a1 n1 c1, .int .i64 (0)] w1 (OneOk w1 Y))) (hg : (g1 == g2) = false) (t : Int) (HP : Hid (∀ (w1 : World) (a1 : Option Addr) (n1 c1 : Nat) (a2 : Option Addr) (n2 c2 : Nat), Nw w1 (.slice a1 n1 c1) X → Nw w1 (.slice a2 n2 c2) Y → Calls Tryz.prog 123 #[.slice a1 n1 c1, .slice a2 n2 c2] w1 fun e w' => e = .returned (.int .i64 t) ∧ Below w1.heap.size w1 w')) (ht : t < 0) (HD : Hid (∀ (w1 : World) (a1 : Option Addr) (n1 c1 : Nat) (a2 : Option Addr) (n2 c2 : Nat), Nw w1 (.slice a1 n1 c1) Y → Nw w1 (.slice a2 n2 c2) X → Calls Tryz.prog 151 #[.slice a1 n1 c1, .slice a2 n2 c2] w1 (OneOk w1 D))) (HM : Hid (∀ (w1 : World) (a1 : Option Addr) (n1 c1 : Nat), Nw w1 (.slice a1 n1 c1) D → Calls Tryz.prog 134 #[.bool g2, .slice a1 n1 c1, .int .i64 (eb)] w1 fun e w' => e = .returned (.int .u64 R) ∧ Below w1.heap.size w1 w')) (w : World) : Calls Tryz.prog 133 #[.int .u64 a, .int .u64 b] w fun e w' => e = .returned (.int .u64 (R)) ∧ Below w.heap.size w w' := by
  subst hA0
  have H0 := Lib.hid h0
  clear h0
  go_enter Tryz.func133, Tryz.ntmps133
  go_wp2_with (first
    | (go_at_call 64; (with_reducible refine (N1.out _).mono ?_); rintro e1 w1 ⟨rfl, rfl⟩)
    | (go_at_call 64; (with_reducible refine (N2.out _).mono ?_); rintro e1 w1 ⟨rfl, rfl⟩)
    | (go_at_call 99; (with_reducible refine (I1.out _).mono ?_); rintro e1 w1 ⟨rfl, rfl⟩)
    | (go_at_call 99; (with_reducible refine (I2.out _).mono ?_); rintro e1 w1 ⟨rfl, rfl⟩)
    | (go_at_call 119; (with_reducible refine (SA.out _).mono ?_); rintro e1 w1 ⟨a1, n1, c1, rfl, hv1, hb1⟩; obtain rfl := hv1.len0)
    | (go_at_call 119; (with_reducible refine (SB.out _).mono ?_); rintro e2 w2 ⟨a2, n2, c2, rfl, hv2, hb2⟩; have hl2 := hv2.lenp H0.out)
    | (go_at_call 120; (with_reducible refine (HXA.out _ _ _ _ (hv1.below hb2)).mono ?_); rintro e3 w3 ⟨a3, n3, c3, rfl, hv3, hb3⟩)
    | (go_at_call 120; (with_reducible refine (HXB.out _ _ _ _ (hv2.below hb3)).mono ?_); rintro e4 w4 ⟨a4, n4, c4, rfl, hv4, hb4⟩)
    | (go_at_call 123; (with_reducible refine (HP.out _ _ _ _ _ _ _ (hv3.below hb4) hv4).mono ?_); rintro e5 w5 ⟨rfl, hb5⟩)
    | (go_at_call 151; (with_reducible refine (HD.out _ _ _ _ _ _ _ (hv4.below hb5) ((hv3.below hb4).below hb5)).mono ?_); rintro e6 w6 ⟨a6, n6, c6, rfl, hv6, hb6⟩)
    | (go_at_call 134; (with_reducible refine (HM.out _ _ _ _ hv6).mono ?_); rintro e7 w7 ⟨rfl, hb7⟩))
  go_ret
  exact ⟨rfl, btn hb1 (btn hb2 (btn hb3 (btn hb4 (btn hb5 (btn hb6 hb7)))))⟩
set_option maxRecDepth 100000 in
set_option maxHeartbeats 2000000 in
theorem rAdd_fblteq (a b : Nat) (N1 : Hid (PB 64 a false)) (N2 : Hid (PB 64 b false)) (I1 : Hid (PB 99 a false)) (I2 : Hid (PB 99 b false)) (g1 g2 : Bool) (A B : Nat) (ea eb : Int) (SA : Hid (∀ w, Calls Tryz.prog 119 #[.int .u64 a] w (Sp w g1 A ea))) (SB : Hid (∀ w, Calls Tryz.prog 119 #[.int .u64 b] w (Sp w g2 B eb))) (X Y D : Nat) (R : Int) (be : -1074 ≤ ea ∧ ea ≤ 971 ∧ -1074 ≤ eb ∧ eb ≤ 971) (hA0 : A = 0) (h0 : B ≠ 0) (hc : eb < ea) (HXA : Hid (∀ (w1 : World) (a1 : Option Addr) (n1 c1 : Nat), Nw w1 (.slice a1 n1 c1) A → Calls Tryz.prog 120 #[.slice a1 n1 c1, .int .i64 (ea - eb)] w1 (OneOk w1 X))) (HXB : Hid (∀ (w1 : World) (a1 : Option Addr) (n1 c1 : Nat), Nw w1 (.slice a1 n1 c1) B → Calls Tryz.prog 120 #[.slice a1 n1 c1, .int .i64 (0)] w1 (OneOk w1 Y))) (hg : (g1 == g2) = false) (t : Int) (HP : Hid (∀ (w1 : World) (a1 : Option Addr) (n1 c1 : Nat) (a2 : Option Addr) (n2 c2 : Nat), Nw w1 (.slice a1 n1 c1) X → Nw w1 (.slice a2 n2 c2) Y → Calls Tryz.prog 123 #[.slice a1 n1 c1, .slice a2 n2 c2] w1 fun e w' => e = .returned (.int .i64 t) ∧ Below w1.heap.size w1 w')) (ht : t = 0) (w : World) : Calls Tryz.prog 133 #[.int .u64 a, .int .u64 b] w fun e w' => e = .returned (.int .u64 (0)) ∧ Below w.heap.size w w' := by
  subst hA0
  have H0 := Lib.hid h0
  clear h0
  go_enter Tryz.func133, Tryz.ntmps133
  go_wp2_with (first
    | (go_at_call 64; (with_reducible refine (N1.out _).mono ?_); rintro e1 w1 ⟨rfl, rfl⟩)
    | (go_at_call 64; (with_reducible refine (N2.out _).mono ?_); rintro e1 w1 ⟨rfl, rfl⟩)
    | (go_at_call 99; (with_reducible refine (I1.out _).mono ?_); rintro e1 w1 ⟨rfl, rfl⟩)
    | (go_at_call 99; (with_reducible refine (I2.out _).mono ?_); rintro e1 w1 ⟨rfl, rfl⟩)
    | (go_at_call 119; (with_reducible refine (SA.out _).mono ?_); rintro e1 w1 ⟨a1, n1, c1, rfl, hv1, hb1⟩; obtain rfl := hv1.len0)
    | (go_at_call 119; (with_reducible refine (SB.out _).mono ?_); rintro e2 w2 ⟨a2, n2, c2, rfl, hv2, hb2⟩; have hl2 := hv2.lenp H0.out)
    | (go_at_call 120; (with_reducible refine (HXA.out _ _ _ _ (hv1.below hb2)).mono ?_); rintro e3 w3 ⟨a3, n3, c3, rfl, hv3, hb3⟩)
    | (go_at_call 120; (with_reducible refine (HXB.out _ _ _ _ (hv2.below hb3)).mono ?_); rintro e4 w4 ⟨a4, n4, c4, rfl, hv4, hb4⟩)
    | (go_at_call 123; (with_reducible refine (HP.out _ _ _ _ _ _ _ (hv3.below hb4) hv4).mono ?_); rintro e5 w5 ⟨rfl, hb5⟩))
  go_ret
  exact ⟨rfl, btn hb1 (btn hb2 (btn hb3 (btn hb4 hb5)))⟩
set_option maxRecDepth 100000 in
set_option maxHeartbeats 2000000 in
theorem rAdd_fbgesame (a b : Nat) (N1 : Hid (PB 64 a false)) (N2 : Hid (PB 64 b false)) (I1 : Hid (PB 99 a false)) (I2 : Hid (PB 99 b false)) (g1 g2 : Bool) (A B : Nat) (ea eb : Int) (SA : Hid (∀ w, Calls Tryz.prog 119 #[.int .u64 a] w (Sp w g1 A ea))) (SB : Hid (∀ w, Calls Tryz.prog 119 #[.int .u64 b] w (Sp w g2 B eb))) (X Y D : Nat) (R : Int) (be : -1074 ≤ ea ∧ ea ≤ 971 ∧ -1074 ≤ eb ∧ eb ≤ 971) (hA0 : A = 0) (h0 : B ≠ 0) (hc : ¬ eb < ea) (HXA : Hid (∀ (w1 : World) (a1 : Option Addr) (n1 c1 : Nat), Nw w1 (.slice a1 n1 c1) A → Calls Tryz.prog 120 #[.slice a1 n1 c1, .int .i64 (0)] w1 (OneOk w1 X))) (HXB : Hid (∀ (w1 : World) (a1 : Option Addr) (n1 c1 : Nat), Nw w1 (.slice a1 n1 c1) B → Calls Tryz.prog 120 #[.slice a1 n1 c1, .int .i64 (eb - ea)] w1 (OneOk w1 Y))) (HP : Hid (∀ (w1 : World) (a1 : Option Addr) (n1 c1 : Nat) (a2 : Option Addr) (n2 c2 : Nat), Nw w1 (.slice a1 n1 c1) X → Nw w1 (.slice a2 n2 c2) Y → Calls Tryz.prog 146 #[.slice a1 n1 c1, .slice a2 n2 c2] w1 (One w1 D))) (HM : Hid (∀ (w1 : World) (a1 : Option Addr) (n1 c1 : Nat), Nw w1 (.slice a1 n1 c1) D → Calls Tryz.prog 134 #[.bool g1, .slice a1 n1 c1, .int .i64 (ea)] w1 fun e w' => e = .returned (.int .u64 R) ∧ Below w1.heap.size w1 w')) (hg : g1 = g2) (w : World) : Calls Tryz.prog 133 #[.int .u64 a, .int .u64 b] w fun e w' => e = .returned (.int .u64 (R)) ∧ Below w.heap.size w w' := by
  subst hg
  subst hA0
  have H0 := Lib.hid h0
  clear h0
  go_enter Tryz.func133, Tryz.ntmps133
  go_wp2_with (first
    | (go_at_call 64; (with_reducible refine (N1.out _).mono ?_); rintro e1 w1 ⟨rfl, rfl⟩)
    | (go_at_call 64; (with_reducible refine (N2.out _).mono ?_); rintro e1 w1 ⟨rfl, rfl⟩)
    | (go_at_call 99; (with_reducible refine (I1.out _).mono ?_); rintro e1 w1 ⟨rfl, rfl⟩)
    | (go_at_call 99; (with_reducible refine (I2.out _).mono ?_); rintro e1 w1 ⟨rfl, rfl⟩)
    | (go_at_call 119; (with_reducible refine (SA.out _).mono ?_); rintro e1 w1 ⟨a1, n1, c1, rfl, hv1, hb1⟩; obtain rfl := hv1.len0)
    | (go_at_call 119; (with_reducible refine (SB.out _).mono ?_); rintro e2 w2 ⟨a2, n2, c2, rfl, hv2, hb2⟩; have hl2 := hv2.lenp H0.out)
    | (go_at_call 120; (with_reducible refine (HXA.out _ _ _ _ (hv1.below hb2)).mono ?_); rintro e3 w3 ⟨a3, n3, c3, rfl, hv3, hb3⟩)
    | (go_at_call 120; (with_reducible refine (HXB.out _ _ _ _ (hv2.below hb3)).mono ?_); rintro e4 w4 ⟨a4, n4, c4, rfl, hv4, hb4⟩)
    | (go_at_call 146; (with_reducible refine (HP.out _ _ _ _ _ _ _ (hv3.below hb4) hv4).mono ?_); rintro e5 w5 ⟨a5, n5, c5, rfl, hv5, hb5⟩)
    | (go_at_call 134; (with_reducible refine (HM.out _ _ _ _ hv5).mono ?_); rintro e6 w6 ⟨rfl, hb6⟩))
  go_ret
  exact ⟨rfl, btn hb1 (btn hb2 (btn hb3 (btn hb4 (btn hb5 hb6))))⟩
set_option maxRecDepth 100000 in
set_option maxHeartbeats 2000000 in
theorem rAdd_fbgegt (a b : Nat) (N1 : Hid (PB 64 a false)) (N2 : Hid (PB 64 b false)) (I1 : Hid (PB 99 a false)) (I2 : Hid (PB 99 b false)) (g1 g2 : Bool) (A B : Nat) (ea eb : Int) (SA : Hid (∀ w, Calls Tryz.prog 119 #[.int .u64 a] w (Sp w g1 A ea))) (SB : Hid (∀ w, Calls Tryz.prog 119 #[.int .u64 b] w (Sp w g2 B eb))) (X Y D : Nat) (R : Int) (be : -1074 ≤ ea ∧ ea ≤ 971 ∧ -1074 ≤ eb ∧ eb ≤ 971) (hA0 : A = 0) (h0 : B ≠ 0) (hc : ¬ eb < ea) (HXA : Hid (∀ (w1 : World) (a1 : Option Addr) (n1 c1 : Nat), Nw w1 (.slice a1 n1 c1) A → Calls Tryz.prog 120 #[.slice a1 n1 c1, .int .i64 (0)] w1 (OneOk w1 X))) (HXB : Hid (∀ (w1 : World) (a1 : Option Addr) (n1 c1 : Nat), Nw w1 (.slice a1 n1 c1) B → Calls Tryz.prog 120 #[.slice a1 n1 c1, .int .i64 (eb - ea)] w1 (OneOk w1 Y))) (hg : (g1 == g2) = false) (t : Int) (HP : Hid (∀ (w1 : World) (a1 : Option Addr) (n1 c1 : Nat) (a2 : Option Addr) (n2 c2 : Nat), Nw w1 (.slice a1 n1 c1) X → Nw w1 (.slice a2 n2 c2) Y → Calls Tryz.prog 123 #[.slice a1 n1 c1, .slice a2 n2 c2] w1 fun e w' => e = .returned (.int .i64 t) ∧ Below w1.heap.size w1 w')) (ht : 0 < t) (HD : Hid (∀ (w1 : World) (a1 : Option Addr) (n1 c1 : Nat) (a2 : Option Addr) (n2 c2 : Nat), Nw w1 (.slice a1 n1 c1) X → Nw w1 (.slice a2 n2 c2) Y → Calls Tryz.prog 151 #[.slice a1 n1 c1, .slice a2 n2 c2] w1 (OneOk w1 D))) (HM : Hid (∀ (w1 : World) (a1 : Option Addr) (n1 c1 : Nat), Nw w1 (.slice a1 n1 c1) D → Calls Tryz.prog 134 #[.bool g1, .slice a1 n1 c1, .int .i64 (ea)] w1 fun e w' => e = .returned (.int .u64 R) ∧ Below w1.heap.size w1 w')) (w : World) : Calls Tryz.prog 133 #[.int .u64 a, .int .u64 b] w fun e w' => e = .returned (.int .u64 (R)) ∧ Below w.heap.size w w' := by
  subst hA0
  have H0 := Lib.hid h0
  clear h0
  go_enter Tryz.func133, Tryz.ntmps133
  go_wp2_with (first
    | (go_at_call 64; (with_reducible refine (N1.out _).mono ?_); rintro e1 w1 ⟨rfl, rfl⟩)
    | (go_at_call 64; (with_reducible refine (N2.out _).mono ?_); rintro e1 w1 ⟨rfl, rfl⟩)
    | (go_at_call 99; (with_reducible refine (I1.out _).mono ?_); rintro e1 w1 ⟨rfl, rfl⟩)
    | (go_at_call 99; (with_reducible refine (I2.out _).mono ?_); rintro e1 w1 ⟨rfl, rfl⟩)
    | (go_at_call 119; (with_reducible refine (SA.out _).mono ?_); rintro e1 w1 ⟨a1, n1, c1, rfl, hv1, hb1⟩; obtain rfl := hv1.len0)
    | (go_at_call 119; (with_reducible refine (SB.out _).mono ?_); rintro e2 w2 ⟨a2, n2, c2, rfl, hv2, hb2⟩; have hl2 := hv2.lenp H0.out)
    | (go_at_call 120; (with_reducible refine (HXA.out _ _ _ _ (hv1.below hb2)).mono ?_); rintro e3 w3 ⟨a3, n3, c3, rfl, hv3, hb3⟩)
    | (go_at_call 120; (with_reducible refine (HXB.out _ _ _ _ (hv2.below hb3)).mono ?_); rintro e4 w4 ⟨a4, n4, c4, rfl, hv4, hb4⟩)
    | (go_at_call 123; (with_reducible refine (HP.out _ _ _ _ _ _ _ (hv3.below hb4) hv4).mono ?_); rintro e5 w5 ⟨rfl, hb5⟩)
    | (go_at_call 151; (with_reducible refine (HD.out _ _ _ _ _ _ _ ((hv3.below hb4).below hb5) (hv4.below hb5)).mono ?_); rintro e6 w6 ⟨a6, n6, c6, rfl, hv6, hb6⟩)
    | (go_at_call 134; (with_reducible refine (HM.out _ _ _ _ hv6).mono ?_); rintro e7 w7 ⟨rfl, hb7⟩))
  go_ret
  exact ⟨rfl, btn hb1 (btn hb2 (btn hb3 (btn hb4 (btn hb5 (btn hb6 hb7)))))⟩
set_option maxRecDepth 100000 in
set_option maxHeartbeats 2000000 in
theorem rAdd_fbgelt (a b : Nat) (N1 : Hid (PB 64 a false)) (N2 : Hid (PB 64 b false)) (I1 : Hid (PB 99 a false)) (I2 : Hid (PB 99 b false)) (g1 g2 : Bool) (A B : Nat) (ea eb : Int) (SA : Hid (∀ w, Calls Tryz.prog 119 #[.int .u64 a] w (Sp w g1 A ea))) (SB : Hid (∀ w, Calls Tryz.prog 119 #[.int .u64 b] w (Sp w g2 B eb))) (X Y D : Nat) (R : Int) (be : -1074 ≤ ea ∧ ea ≤ 971 ∧ -1074 ≤ eb ∧ eb ≤ 971) (hA0 : A = 0) (h0 : B ≠ 0) (hc : ¬ eb < ea) (HXA : Hid (∀ (w1 : World) (a1 : Option Addr) (n1 c1 : Nat), Nw w1 (.slice a1 n1 c1) A → Calls Tryz.prog 120 #[.slice a1 n1 c1, .int .i64 (0)] w1 (OneOk w1 X))) (HXB : Hid (∀ (w1 : World) (a1 : Option Addr) (n1 c1 : Nat), Nw w1 (.slice a1 n1 c1) B → Calls Tryz.prog 120 #[.slice a1 n1 c1, .int .i64 (eb - ea)] w1 (OneOk w1 Y))) (hg : (g1 == g2) = false) (t : Int) (HP : Hid (∀ (w1 : World) (a1 : Option Addr) (n1 c1 : Nat) (a2 : Option Addr) (n2 c2 : Nat), Nw w1 (.slice a1 n1 c1) X → Nw w1 (.slice a2 n2 c2) Y → Calls Tryz.prog 123 #[.slice a1 n1 c1, .slice a2 n2 c2] w1 fun e w' => e = .returned (.int .i64 t) ∧ Below w1.heap.size w1 w')) (ht : t < 0) (HD : Hid (∀ (w1 : World) (a1 : Option Addr) (n1 c1 : Nat) (a2 : Option Addr) (n2 c2 : Nat), Nw w1 (.slice a1 n1 c1) Y → Nw w1 (.slice a2 n2 c2) X → Calls Tryz.prog 151 #[.slice a1 n1 c1, .slice a2 n2 c2] w1 (OneOk w1 D))) (HM : Hid (∀ (w1 : World) (a1 : Option Addr) (n1 c1 : Nat), Nw w1 (.slice a1 n1 c1) D → Calls Tryz.prog 134 #[.bool g2, .slice a1 n1 c1, .int .i64 (ea)] w1 fun e w' => e = .returned (.int .u64 R) ∧ Below w1.heap.size w1 w')) (w : World) : Calls Tryz.prog 133 #[.int .u64 a, .int .u64 b] w fun e w' => e = .returned (.int .u64 (R)) ∧ Below w.heap.size w w' := by
  subst hA0
  have H0 := Lib.hid h0
  clear h0
  go_enter Tryz.func133, Tryz.ntmps133
  go_wp2_with (first
    | (go_at_call 64; (with_reducible refine (N1.out _).mono ?_); rintro e1 w1 ⟨rfl, rfl⟩)
    | (go_at_call 64; (with_reducible refine (N2.out _).mono ?_); rintro e1 w1 ⟨rfl, rfl⟩)
    | (go_at_call 99; (with_reducible refine (I1.out _).mono ?_); rintro e1 w1 ⟨rfl, rfl⟩)
    | (go_at_call 99; (with_reducible refine (I2.out _).mono ?_); rintro e1 w1 ⟨rfl, rfl⟩)
    | (go_at_call 119; (with_reducible refine (SA.out _).mono ?_); rintro e1 w1 ⟨a1, n1, c1, rfl, hv1, hb1⟩; obtain rfl := hv1.len0)
    | (go_at_call 119; (with_reducible refine (SB.out _).mono ?_); rintro e2 w2 ⟨a2, n2, c2, rfl, hv2, hb2⟩; have hl2 := hv2.lenp H0.out)
    | (go_at_call 120; (with_reducible refine (HXA.out _ _ _ _ (hv1.below hb2)).mono ?_); rintro e3 w3 ⟨a3, n3, c3, rfl, hv3, hb3⟩)
    | (go_at_call 120; (with_reducible refine (HXB.out _ _ _ _ (hv2.below hb3)).mono ?_); rintro e4 w4 ⟨a4, n4, c4, rfl, hv4, hb4⟩)
    | (go_at_call 123; (with_reducible refine (HP.out _ _ _ _ _ _ _ (hv3.below hb4) hv4).mono ?_); rintro e5 w5 ⟨rfl, hb5⟩)
    | (go_at_call 151; (with_reducible refine (HD.out _ _ _ _ _ _ _ (hv4.below hb5) ((hv3.below hb4).below hb5)).mono ?_); rintro e6 w6 ⟨a6, n6, c6, rfl, hv6, hb6⟩)
    | (go_at_call 134; (with_reducible refine (HM.out _ _ _ _ hv6).mono ?_); rintro e7 w7 ⟨rfl, hb7⟩))
  go_ret
  exact ⟨rfl, btn hb1 (btn hb2 (btn hb3 (btn hb4 (btn hb5 (btn hb6 hb7)))))⟩
set_option maxRecDepth 100000 in
set_option maxHeartbeats 2000000 in
theorem rAdd_fbgeeq (a b : Nat) (N1 : Hid (PB 64 a false)) (N2 : Hid (PB 64 b false)) (I1 : Hid (PB 99 a false)) (I2 : Hid (PB 99 b false)) (g1 g2 : Bool) (A B : Nat) (ea eb : Int) (SA : Hid (∀ w, Calls Tryz.prog 119 #[.int .u64 a] w (Sp w g1 A ea))) (SB : Hid (∀ w, Calls Tryz.prog 119 #[.int .u64 b] w (Sp w g2 B eb))) (X Y D : Nat) (R : Int) (be : -1074 ≤ ea ∧ ea ≤ 971 ∧ -1074 ≤ eb ∧ eb ≤ 971) (hA0 : A = 0) (h0 : B ≠ 0) (hc : ¬ eb < ea) (HXA : Hid (∀ (w1 : World) (a1 : Option Addr) (n1 c1 : Nat), Nw w1 (.slice a1 n1 c1) A → Calls Tryz.prog 120 #[.slice a1 n1 c1, .int .i64 (0)] w1 (OneOk w1 X))) (HXB : Hid (∀ (w1 : World) (a1 : Option Addr) (n1 c1 : Nat), Nw w1 (.slice a1 n1 c1) B → Calls Tryz.prog 120 #[.slice a1 n1 c1, .int .i64 (eb - ea)] w1 (OneOk w1 Y))) (hg : (g1 == g2) = false) (t : Int) (HP : Hid (∀ (w1 : World) (a1 : Option Addr) (n1 c1 : Nat) (a2 : Option Addr) (n2 c2 : Nat), Nw w1 (.slice a1 n1 c1) X → Nw w1 (.slice a2 n2 c2) Y → Calls Tryz.prog 123 #[.slice a1 n1 c1, .slice a2 n2 c2] w1 fun e w' => e = .returned (.int .i64 t) ∧ Below w1.heap.size w1 w')) (ht : t = 0) (w : World) : Calls Tryz.prog 133 #[.int .u64 a, .int .u64 b] w fun e w' => e = .returned (.int .u64 (0)) ∧ Below w.heap.size w w' := by
  subst hA0
  have H0 := Lib.hid h0
  clear h0
  go_enter Tryz.func133, Tryz.ntmps133
  go_wp2_with (first
    | (go_at_call 64; (with_reducible refine (N1.out _).mono ?_); rintro e1 w1 ⟨rfl, rfl⟩)
    | (go_at_call 64; (with_reducible refine (N2.out _).mono ?_); rintro e1 w1 ⟨rfl, rfl⟩)
    | (go_at_call 99; (with_reducible refine (I1.out _).mono ?_); rintro e1 w1 ⟨rfl, rfl⟩)
    | (go_at_call 99; (with_reducible refine (I2.out _).mono ?_); rintro e1 w1 ⟨rfl, rfl⟩)
    | (go_at_call 119; (with_reducible refine (SA.out _).mono ?_); rintro e1 w1 ⟨a1, n1, c1, rfl, hv1, hb1⟩; obtain rfl := hv1.len0)
    | (go_at_call 119; (with_reducible refine (SB.out _).mono ?_); rintro e2 w2 ⟨a2, n2, c2, rfl, hv2, hb2⟩; have hl2 := hv2.lenp H0.out)
    | (go_at_call 120; (with_reducible refine (HXA.out _ _ _ _ (hv1.below hb2)).mono ?_); rintro e3 w3 ⟨a3, n3, c3, rfl, hv3, hb3⟩)
    | (go_at_call 120; (with_reducible refine (HXB.out _ _ _ _ (hv2.below hb3)).mono ?_); rintro e4 w4 ⟨a4, n4, c4, rfl, hv4, hb4⟩)
    | (go_at_call 123; (with_reducible refine (HP.out _ _ _ _ _ _ _ (hv3.below hb4) hv4).mono ?_); rintro e5 w5 ⟨rfl, hb5⟩))
  go_ret
  exact ⟨rfl, btn hb1 (btn hb2 (btn hb3 (btn hb4 hb5)))⟩

theorem rAdd_c (a b : Nat) (ha : W a) (hb : W b) (w : World) : Calls Tryz.prog 133 #[.int .u64 a, .int .u64 b] w fun e w' => e = .returned (.int .u64 ((addV a b : Nat) : Int)) ∧ Below w.heap.size w w' := by
  have N1 := Lib.hid (risnan_c a ha)
  have N2 := Lib.hid (risnan_c b hb)
  have I1 := Lib.hid (risinf_c a ha)
  have I2 := Lib.hid (risinf_c b hb)
  by_cases n1 : nan a = true
  · rw [show addV a b = NaN by simp [addV, n1]]; rw [n1] at N1; exact rAdd_n1 a b N1 w
  have n1 := Bool.eq_false_iff.2 n1; rw [n1] at N1
  by_cases n2 : nan b = true
  · rw [show addV a b = NaN by simp [addV, n2]]; rw [n2] at N2; exact rAdd_n2 a b N1 N2 w
  have n2 := Bool.eq_false_iff.2 n2; rw [n2] at N2
  by_cases i1 : inf a = true
  · rw [i1] at I1
    by_cases i2 : inf b = true
    · rw [i2] at I2
      by_cases e : a = b
      · rw [show addV a b = b by simp [addV, n1, n2, i1, i2, e]]; exact rAdd_ie a b N1 N2 I1 I2 (by omega) w
      · rw [show addV a b = NaN by simp [addV, n1, n2, i1, i2, e]]; exact rAdd_ii a b N1 N2 I1 I2 (by omega) w
    · have i2 := Bool.eq_false_iff.2 i2; rw [i2] at I2
      rw [show addV a b = a by simp [addV, n1, n2, i1, i2]]; exact rAdd_i1 a b N1 N2 I1 I2 w
  have i1 := Bool.eq_false_iff.2 i1; rw [i1] at I1
  by_cases i2 : inf b = true
  · rw [i2] at I2
    rw [show addV a b = b by simp [addV, n1, n2, i1, i2]]; exact rAdd_i2 a b N1 N2 I1 I2 w
  have i2 := Bool.eq_false_iff.2 i2; rw [i2] at I2
  have hv : addV a b = addF a b := by simp [addV, n1, n2, i1, i2]
  rw [hv]
  have SA := Lib.hid (fun w => rsplit_c a ha n1 i1 w)
  have SB := Lib.hid (fun w => rsplit_c b hb n2 i2 w)
  have la := se_ge a
  have lb := se_ge b
  have ua := se_le n1 i1
  have ub := se_le n2 i2
  have be : -1074 ≤ se a ∧ se a ≤ 971 ∧ -1074 ≤ se b ∧ se b ≤ 971 := ⟨la, ua, lb, ub⟩
  have za := @sm_zero a
  have zb := @sm_zero b
  by_cases hz : zer a = true ∧ zer b = true
  · rw [addF_zeros hz.1 hz.2]
    have z1 := za.2 hz.1
    have z2 := zb.2 hz.2
    rw [z1] at SA
    rw [z2] at SB
    have hsg : ∀ q : Bool, Hid (∀ w, Calls Tryz.prog 157 #[.bool q, .int .u64 0] w fun e w' => e = .returned (.int .u64 ((sg q 0 : Nat) : Int)) ∧ w = w') := fun q w => rsigned_c 0 q (by decide) w
    cases g1 : ng a <;> cases g2 : ng b <;> rw [g1] at SA <;> rw [g2] at SB
    · exact rAdd_zz00 a b N1 N2 I1 I2 _ _ SA SB _ (hsg false) w
    · exact rAdd_zz01 a b N1 N2 I1 I2 _ _ SA SB _ (hsg false) w
    · exact rAdd_zz10 a b N1 N2 I1 I2 _ _ SA SB _ (hsg false) w
    · exact rAdd_zz11 a b N1 N2 I1 I2 _ _ SA SB _ (hsg true) w
  have bA := bl_sm a
  have bB := bl_sm b
  have bX := ax_bl a b ua ub
  have bY := ax_bl b a ub ua
  have eX : ax a b = sm a * 2 ^ (se a - min (se a) (se b)).toNat := rfl
  have eY : ax b a = sm b * 2 ^ (se b - min (se a) (se b)).toNat := by unfold ax; rw [Int.min_comm]
  have HXA := fun (s : Nat) (hs : se a - min (se a) (se b) = (s : Int)) (w1 : World) (a1 : Option Addr) (n1 c1 : Nat) (h : Nw w1 (.slice a1 n1 c1) (sm a)) => show Calls Tryz.prog 120 #[.slice a1 n1 c1, .int .i64 (s : Int)] w1 (OneOk w1 (ax a b)) by
    rw [eX, hs, Int.toNat_natCast]; exact rshl_n s h (by omega)
  have HXB := fun (s : Nat) (hs : se b - min (se a) (se b) = (s : Int)) (w1 : World) (a1 : Option Addr) (n1 c1 : Nat) (h : Nw w1 (.slice a1 n1 c1) (sm b)) => show Calls Tryz.prog 120 #[.slice a1 n1 c1, .int .i64 (s : Int)] w1 (OneOk w1 (ax b a)) by
    rw [eY, hs, Int.toNat_natCast]; exact rshl_n s h (by omega)
  have HAdd := Lib.hid (fun (w1 : World) (a1 : Option Addr) (n1 c1 : Nat) (a2 : Option Addr) (n2 c2 : Nat) (h1 : Nw w1 (.slice a1 n1 c1) (ax a b)) (h2 : Nw w1 (.slice a2 n2 c2) (ax b a)) => radd_n h1 (by omega) h2 (by omega))
  have HCmp := fun (w1 : World) (a1 : Option Addr) (n1 c1 : Nat) (a2 : Option Addr) (n2 c2 : Nat) (h1 : Nw w1 (.slice a1 n1 c1) (ax a b)) (h2 : Nw w1 (.slice a2 n2 c2) (ax b a)) => rcmp_n h1 (by omega) h2 (by omega)
  have HSub1 := fun (hle : ax b a ≤ ax a b) (w1 : World) (a1 : Option Addr) (n1 c1 : Nat) (a2 : Option Addr) (n2 c2 : Nat) (h1 : Nw w1 (.slice a1 n1 c1) (ax a b)) (h2 : Nw w1 (.slice a2 n2 c2) (ax b a)) => rsub_o h1 (by omega) h2 hle
  have HSub2 := fun (hle : ax a b ≤ ax b a) (w1 : World) (a1 : Option Addr) (n1 c1 : Nat) (a2 : Option Addr) (n2 c2 : Nat) (h1 : Nw w1 (.slice a1 n1 c1) (ax b a)) (h2 : Nw w1 (.slice a2 n2 c2) (ax a b)) => rsub_o h1 (by omega) h2 hle
  have HMk := fun (D : Nat) (hD : bl D ≤ 32000) (g : Bool) (e : Int) (he : e = min (se a) (se b)) (w1 : World) (a1 : Option Addr) (n1 c1 : Nat) (h : Nw w1 (.slice a1 n1 c1) D) => show Calls Tryz.prog 134 #[.bool g, .slice a1 n1 c1, .int .i64 e] w1 fun x w' => x = .returned (.int .u64 ((sg g (pat D (min (se a) (se b)) false) : Nat) : Int)) ∧ Below w1.heap.size w1 w' by
    rw [he]; exact rmake_n g h hD (min (se a) (se b)) (by omega)
  have bD := bl_addb (m := 2098) bX bY
  by_cases hc : se b < se a
  · have em : min (se a) (se b) = se b := by omega
    have hs := HXA (se a - se b).toNat (by omega)
    rw [show (((se a - se b).toNat : Nat) : Int) = se a - se b by omega] at hs
    have hA := Lib.hid hs
    have hB := Lib.hid (HXB 0 (by omega))
    have e0 := em.symm
    by_cases hs : ng a = ng b
    · rw [addF_same hz hs]
      have hM := Lib.hid (HMk (ax a b + ax b a) (by omega) (ng a) (se b) e0)
      by_cases z0 : sm a = 0
      · have z1 : sm b ≠ 0 := fun h => hz ⟨za.1 z0, zb.1 h⟩
        exact rAdd_fbltsame a b N1 N2 I1 I2 _ _ _ _ _ _ SA SB _ _ _ _ be z0 z1 hc hA hB HAdd hM hs w
      · exact rAdd_faltsame a b N1 N2 I1 I2 _ _ _ _ _ _ SA SB _ _ _ _ be z0 hc hA hB HAdd hM hs w
    · have hg : (ng a == ng b) = false := by simpa using hs
      rcases Nat.lt_trichotomy (ax b a) (ax a b) with h | h | h
      · rw [addF_gt hs h]
        have hM := Lib.hid (HMk (ax a b - ax b a) (bl_mono' (Nat.sub_le _ _) (by omega)) (ng a) (se b) e0)
        have hD := Lib.hid (HSub1 (Nat.le_of_lt h))
        have hC := HCmp
        rw [cmpN_gt h] at hC
        have hC := Lib.hid hC
        by_cases z0 : sm a = 0
        · have z1 : sm b ≠ 0 := fun h => hz ⟨za.1 z0, zb.1 h⟩
          exact rAdd_fbltgt a b N1 N2 I1 I2 _ _ _ _ _ _ SA SB _ _ _ _ be z0 z1 hc hA hB hg 1 hC (by decide) hD hM w
        · exact rAdd_faltgt a b N1 N2 I1 I2 _ _ _ _ _ _ SA SB _ _ _ _ be z0 hc hA hB hg 1 hC (by decide) hD hM w
      · rw [addF_eq hz hs h.symm]
        have hC := HCmp
        rw [cmpN_eq h.symm] at hC
        have hC := Lib.hid hC
        by_cases z0 : sm a = 0
        · have z1 : sm b ≠ 0 := fun h => hz ⟨za.1 z0, zb.1 h⟩
          exact rAdd_fblteq a b N1 N2 I1 I2 _ _ _ _ _ _ SA SB _ _ 0 0 be z0 z1 hc hA hB hg 0 hC rfl w
        · exact rAdd_falteq a b N1 N2 I1 I2 _ _ _ _ _ _ SA SB _ _ 0 0 be z0 hc hA hB hg 0 hC rfl w
      · rw [addF_lt hs h]
        have hM := Lib.hid (HMk (ax b a - ax a b) (bl_mono' (Nat.sub_le _ _) (by omega)) (ng b) (se b) e0)
        have hD := Lib.hid (HSub2 (Nat.le_of_lt h))
        have hC := HCmp
        rw [cmpN_lt h] at hC
        have hC := Lib.hid hC
        by_cases z0 : sm a = 0
        · have z1 : sm b ≠ 0 := fun h => hz ⟨za.1 z0, zb.1 h⟩
          exact rAdd_fbltlt a b N1 N2 I1 I2 _ _ _ _ _ _ SA SB _ _ _ _ be z0 z1 hc hA hB hg (-1) hC (by decide) hD hM w
        · exact rAdd_faltlt a b N1 N2 I1 I2 _ _ _ _ _ _ SA SB _ _ _ _ be z0 hc hA hB hg (-1) hC (by decide) hD hM w
  · have em : min (se a) (se b) = se a := by omega
    have hs := HXB (se b - se a).toNat (by omega)
    rw [show (((se b - se a).toNat : Nat) : Int) = se b - se a by omega] at hs
    have hB := Lib.hid hs
    have hA := Lib.hid (HXA 0 (by omega))
    have e0 := em.symm
    by_cases hs : ng a = ng b
    · rw [addF_same hz hs]
      have hM := Lib.hid (HMk (ax a b + ax b a) (by omega) (ng a) (se a) e0)
      by_cases z0 : sm a = 0
      · have z1 : sm b ≠ 0 := fun h => hz ⟨za.1 z0, zb.1 h⟩
        exact rAdd_fbgesame a b N1 N2 I1 I2 _ _ _ _ _ _ SA SB _ _ _ _ be z0 z1 hc hA hB HAdd hM hs w
      · exact rAdd_fagesame a b N1 N2 I1 I2 _ _ _ _ _ _ SA SB _ _ _ _ be z0 hc hA hB HAdd hM hs w
    · have hg : (ng a == ng b) = false := by simpa using hs
      rcases Nat.lt_trichotomy (ax b a) (ax a b) with h | h | h
      · rw [addF_gt hs h]
        have hM := Lib.hid (HMk (ax a b - ax b a) (bl_mono' (Nat.sub_le _ _) (by omega)) (ng a) (se a) e0)
        have hD := Lib.hid (HSub1 (Nat.le_of_lt h))
        have hC := HCmp
        rw [cmpN_gt h] at hC
        have hC := Lib.hid hC
        by_cases z0 : sm a = 0
        · have z1 : sm b ≠ 0 := fun h => hz ⟨za.1 z0, zb.1 h⟩
          exact rAdd_fbgegt a b N1 N2 I1 I2 _ _ _ _ _ _ SA SB _ _ _ _ be z0 z1 hc hA hB hg 1 hC (by decide) hD hM w
        · exact rAdd_fagegt a b N1 N2 I1 I2 _ _ _ _ _ _ SA SB _ _ _ _ be z0 hc hA hB hg 1 hC (by decide) hD hM w
      · rw [addF_eq hz hs h.symm]
        have hC := HCmp
        rw [cmpN_eq h.symm] at hC
        have hC := Lib.hid hC
        by_cases z0 : sm a = 0
        · have z1 : sm b ≠ 0 := fun h => hz ⟨za.1 z0, zb.1 h⟩
          exact rAdd_fbgeeq a b N1 N2 I1 I2 _ _ _ _ _ _ SA SB _ _ 0 0 be z0 z1 hc hA hB hg 0 hC rfl w
        · exact rAdd_fageeq a b N1 N2 I1 I2 _ _ _ _ _ _ SA SB _ _ 0 0 be z0 hc hA hB hg 0 hC rfl w
      · rw [addF_lt hs h]
        have hM := Lib.hid (HMk (ax b a - ax a b) (bl_mono' (Nat.sub_le _ _) (by omega)) (ng b) (se a) e0)
        have hD := Lib.hid (HSub2 (Nat.le_of_lt h))
        have hC := HCmp
        rw [cmpN_lt h] at hC
        have hC := Lib.hid hC
        by_cases z0 : sm a = 0
        · have z1 : sm b ≠ 0 := fun h => hz ⟨za.1 z0, zb.1 h⟩
          exact rAdd_fbgelt a b N1 N2 I1 I2 _ _ _ _ _ _ SA SB _ _ _ _ be z0 z1 hc hA hB hg (-1) hC (by decide) hD hM w
        · exact rAdd_fagelt a b N1 N2 I1 I2 _ _ _ _ _ _ SA SB _ _ _ _ be z0 hc hA hB hg (-1) hC (by decide) hD hM w
theorem rSub_c (a b : Nat) (ha : W a) (hb : W b) (w : World) : Calls Tryz.prog 132 #[.int .u64 a, .int .u64 b] w fun e w' => e = .returned (.int .u64 ((subV a b : Nat) : Int)) ∧ Below w.heap.size w w' := by
  have HN := Lib.hid (fun w => rneg_c b hb w)
  have HA := Lib.hid (fun w => rAdd_c a (negV b) ha (W_negV hb) w)
  have hs : subV a b = addV a (negV b) := rfl
  rw [hs]
  go_enter Tryz.func132, Tryz.ntmps132
  go_wp2_with (first
    | (go_at_call 89; (with_reducible refine (HN.out _).mono ?_); rintro e1 w1 ⟨rfl, rfl⟩)
    | (go_at_call 133; (with_reducible refine (HA.out _).mono ?_); rintro e1 w1 ⟨rfl, hb1⟩))
  go_ret
  exact ⟨rfl, hb1⟩
end Go.Proofs.YtkifdppppihjcaaGreat
