/- Texts L, for this seat. -/
import Derived.Test.YtkifdppppihjcaaG
namespace Go.Proofs.Ytkifdppppihjcaa
set_option linter.unusedVariables false
set_option linter.unusedSimpArgs false
open Go.RowKit Go.Shelf SF
theorem order_c (a : Nat) (ha : W a) (w : World) : Calls Try.prog 61 #[.int .u64 a] w fun e w' => e = .returned (.int .i64 (ordV a)) ∧ w = w' := by
  have G := Lib.hid (isneg_c a ha)
  have X := bandnot_sign ha
  have ml := mag_lt a
  have e0 : ng a = false → (a : Int) = ((mag a : Nat) : Int) := fun h => by
    unfold W at ha; unfold ng at h; unfold mag
    rw [decide_eq_false_iff_not] at h; omega
  unfold ordV
  obtain ⟨n, hn⟩ : ∃ n, ng a = n := ⟨_, rfl⟩
  obtain ⟨m, hm⟩ : ∃ m : Int, ((mag a : Nat) : Int) = m := ⟨_, rfl⟩
  have m0 : 0 ≤ m ∧ m < 9223372036854775808 := by omega
  rw [hn] at G e0 ⊢
  rw [hm] at X e0 ⊢
  clear hn hm ml ha
  cases n
  · have e1 := e0 rfl
    clear e0
    rw [e1] at X G ⊢
    go_enter Try.func61, Try.ntmps61
    go_wp2_with (first
    | (go_at_call 34; (with_reducible refine (G.out _).mono ?_); rintro e1 w1 ⟨rfl, rfl⟩))
    go_ret
    exact ⟨rfl, rfl⟩
  · clear e0
    go_enter Try.func61, Try.ntmps61
    go_wp2_with (first
    | (go_at_call 34; (with_reducible refine (G.out _).mono ?_); rintro e1 w1 ⟨rfl, rfl⟩))
    go_ret
    exact ⟨rfl, rfl⟩
theorem cmp_n1 (a b : Nat) (N1 : Hid (PB 33 a true)) (w : World) : Calls Try.prog 48 #[.int .u64 a, .int .u64 b] w fun e w' => e = .returned (.tuple #[.int .i64 (0), .bool false]) ∧ w = w' := by
  go_enter Try.func48, Try.ntmps48
  go_wp2_with (first
    | (go_at_call 33; (with_reducible refine (N1.out _).mono ?_); rintro e1 w1 ⟨rfl, rfl⟩))
  go_ret2
  exact ⟨rfl, rfl⟩
theorem cmp_n2 (a b : Nat) (N1 : Hid (PB 33 a false)) (N2 : Hid (PB 33 b true)) (w : World) : Calls Try.prog 48 #[.int .u64 a, .int .u64 b] w fun e w' => e = .returned (.tuple #[.int .i64 (0), .bool false]) ∧ w = w' := by
  go_enter Try.func48, Try.ntmps48
  go_wp2_with (first
    | (go_at_call 33; (with_reducible refine (N1.out _).mono ?_); rintro e1 w1 ⟨rfl, rfl⟩)
    | (go_at_call 33; (with_reducible refine (N2.out _).mono ?_); rintro e1 w1 ⟨rfl, rfl⟩))
  go_ret2
  exact ⟨rfl, rfl⟩
theorem pcmp_lt (a b : Nat) (x y : Int) (HX : Hid (∀ w, Calls Try.prog 61 #[.int .u64 a] w fun e w' => e = .returned (.int .i64 x) ∧ w = w')) (HY : Hid (∀ w, Calls Try.prog 61 #[.int .u64 b] w fun e w' => e = .returned (.int .i64 y) ∧ w = w')) (ho : x < y) (N1 : Hid (PB 33 a false)) (N2 : Hid (PB 33 b false)) (w : World) : Calls Try.prog 48 #[.int .u64 a, .int .u64 b] w fun e w' => e = .returned (.tuple #[.int .i64 (-1), .bool true]) ∧ w = w' := by
  go_enter Try.func48, Try.ntmps48
  go_wp2_with (first
    | (go_at_call 33; (with_reducible refine (N1.out _).mono ?_); rintro e1 w1 ⟨rfl, rfl⟩)
    | (go_at_call 33; (with_reducible refine (N2.out _).mono ?_); rintro e1 w1 ⟨rfl, rfl⟩)
    | (go_at_call 61; (with_reducible refine (HX.out _).mono ?_); rintro e1 w1 ⟨rfl, rfl⟩)
    | (go_at_call 61; (with_reducible refine (HY.out _).mono ?_); rintro e1 w1 ⟨rfl, rfl⟩))
  go_ret2
  exact ⟨rfl, rfl⟩
theorem pcmp_gt (a b : Nat) (x y : Int) (HX : Hid (∀ w, Calls Try.prog 61 #[.int .u64 a] w fun e w' => e = .returned (.int .i64 x) ∧ w = w')) (HY : Hid (∀ w, Calls Try.prog 61 #[.int .u64 b] w fun e w' => e = .returned (.int .i64 y) ∧ w = w')) (ho : y < x) (N1 : Hid (PB 33 a false)) (N2 : Hid (PB 33 b false)) (w : World) : Calls Try.prog 48 #[.int .u64 a, .int .u64 b] w fun e w' => e = .returned (.tuple #[.int .i64 (1), .bool true]) ∧ w = w' := by
  go_enter Try.func48, Try.ntmps48
  go_wp2_with (first
    | (go_at_call 33; (with_reducible refine (N1.out _).mono ?_); rintro e1 w1 ⟨rfl, rfl⟩)
    | (go_at_call 33; (with_reducible refine (N2.out _).mono ?_); rintro e1 w1 ⟨rfl, rfl⟩)
    | (go_at_call 61; (with_reducible refine (HX.out _).mono ?_); rintro e1 w1 ⟨rfl, rfl⟩)
    | (go_at_call 61; (with_reducible refine (HY.out _).mono ?_); rintro e1 w1 ⟨rfl, rfl⟩))
  go_ret2
  exact ⟨rfl, rfl⟩
theorem pcmp_eq (a b : Nat) (x y : Int) (HX : Hid (∀ w, Calls Try.prog 61 #[.int .u64 a] w fun e w' => e = .returned (.int .i64 x) ∧ w = w')) (HY : Hid (∀ w, Calls Try.prog 61 #[.int .u64 b] w fun e w' => e = .returned (.int .i64 y) ∧ w = w')) (ho : ¬ x < y) (hp : ¬ y < x) (N1 : Hid (PB 33 a false)) (N2 : Hid (PB 33 b false)) (w : World) : Calls Try.prog 48 #[.int .u64 a, .int .u64 b] w fun e w' => e = .returned (.tuple #[.int .i64 (0), .bool true]) ∧ w = w' := by
  go_enter Try.func48, Try.ntmps48
  go_wp2_with (first
    | (go_at_call 33; (with_reducible refine (N1.out _).mono ?_); rintro e1 w1 ⟨rfl, rfl⟩)
    | (go_at_call 33; (with_reducible refine (N2.out _).mono ?_); rintro e1 w1 ⟨rfl, rfl⟩)
    | (go_at_call 61; (with_reducible refine (HX.out _).mono ?_); rintro e1 w1 ⟨rfl, rfl⟩)
    | (go_at_call 61; (with_reducible refine (HY.out _).mono ?_); rintro e1 w1 ⟨rfl, rfl⟩))
  go_ret2
  exact ⟨rfl, rfl⟩
theorem cmp_c (a b : Nat) (ha : W a) (hb : W b) (w : World) : Calls Try.prog 48 #[.int .u64 a, .int .u64 b] w fun e w' => e = .returned (.tuple #[.int .i64 (cmpV a b), .bool (okV a b)]) ∧ w = w' := by
  have N1 := Lib.hid (isnan_c a ha)
  have N2 := Lib.hid (isnan_c b hb)
  have HX := Lib.hid (order_c a ha)
  have HY := Lib.hid (order_c b hb)
  by_cases n1 : nan a = true
  · rw [show cmpV a b = 0 by simp [cmpV, n1], show okV a b = false by simp [okV, n1]]; rw [n1] at N1; exact cmp_n1 a b N1 w
  have n1 := Bool.eq_false_iff.2 n1; rw [n1] at N1
  by_cases n2 : nan b = true
  · rw [show cmpV a b = 0 by simp [cmpV, n2], show okV a b = false by simp [okV, n2]]; rw [n2] at N2; exact cmp_n2 a b N1 N2 w
  have n2 := Bool.eq_false_iff.2 n2; rw [n2] at N2
  rw [show okV a b = true by simp [okV, n1, n2], show cmpV a b = cmpI (ordV a) (ordV b) by simp [cmpV, n1, n2]]
  unfold cmpI
  by_cases o : ordV a < ordV b
  · rw [if_pos o]; exact pcmp_lt a b _ _ HX HY o N1 N2 w
  rw [if_neg o]
  by_cases o2 : ordV b < ordV a
  · rw [if_pos o2]; exact pcmp_gt a b _ _ HX HY o2 N1 N2 w
  rw [if_neg o2]; exact pcmp_eq a b _ _ HX HY o o2 N1 N2 w
set_option maxHeartbeats 1000000 in
theorem scale_n1 (a : Nat) (n : Int) (N1 : Hid (PB 33 a true)) (w : World) : Calls Try.prog 29 #[.int .u64 a, .int .i64 n] w fun e w' => e = .returned (.int .u64 (9221120237041090560)) ∧ Below w.heap.size w w' := by
  go_enter Try.func29, Try.ntmps29
  go_wp2_with (first
    | (go_at_call 33; (with_reducible refine (N1.out _).mono ?_); rintro e1 w1 ⟨rfl, rfl⟩))
  go_ret
  exact ⟨rfl, Below.refl _ _⟩
set_option maxHeartbeats 1000000 in
theorem scale_i1 (a : Nat) (n : Int) (N1 : Hid (PB 33 a false)) (I1 : Hid (PB 35 a true)) (w : World) : Calls Try.prog 29 #[.int .u64 a, .int .i64 n] w fun e w' => e = .returned (.int .u64 ((a : Int))) ∧ Below w.heap.size w w' := by
  go_enter Try.func29, Try.ntmps29
  go_wp2_with (first
    | (go_at_call 33; (with_reducible refine (N1.out _).mono ?_); rintro e1 w1 ⟨rfl, rfl⟩)
    | (go_at_call 35; (with_reducible refine (I1.out _).mono ?_); rintro e1 w1 ⟨rfl, rfl⟩))
  go_ret
  exact ⟨rfl, Below.refl _ _⟩
set_option maxHeartbeats 1000000 in
theorem scale_z1 (a : Nat) (n : Int) (N1 : Hid (PB 33 a false)) (I1 : Hid (PB 35 a false)) (Z1 : Hid (PB 36 a true)) (w : World) : Calls Try.prog 29 #[.int .u64 a, .int .i64 n] w fun e w' => e = .returned (.int .u64 ((a : Int))) ∧ Below w.heap.size w w' := by
  go_enter Try.func29, Try.ntmps29
  go_wp2_with (first
    | (go_at_call 33; (with_reducible refine (N1.out _).mono ?_); rintro e1 w1 ⟨rfl, rfl⟩)
    | (go_at_call 35; (with_reducible refine (I1.out _).mono ?_); rintro e1 w1 ⟨rfl, rfl⟩)
    | (go_at_call 36; (with_reducible refine (Z1.out _).mono ?_); rintro e1 w1 ⟨rfl, rfl⟩))
  go_ret
  exact ⟨rfl, Below.refl _ _⟩
theorem scale_fine {w w1 w4 : World} {o1 : Obj} (h1 : Below w.heap.size w w1) (h5 : Below (w1.alloc o1).heap.size (w1.alloc o1) w4) : Below w.heap.size w w4 := by
  have b := h1.alloc h1.size o1
  exact below_then b b.size h5
set_option maxHeartbeats 1000000 in
theorem scale_f (a : Nat) (n : Int) (p : Bool) (ma ea k R : Int) (HSA : Hid (PSplit a p ma ea)) (ba : -1074 ≤ ea ∧ ea ≤ 971) (hk : min (max n (-100000)) 100000 = k) (bk : -100000 ≤ k ∧ k ≤ 100000) (HPK : Hid (PPack p 0 ma (ea + k) false R)) (N1 : Hid (PB 33 a false)) (I1 : Hid (PB 35 a false)) (Z1 : Hid (PB 36 a false)) (w : World) : Calls Try.prog 29 #[.int .u64 a, .int .i64 n] w fun e w' => e = .returned (.int .u64 (R)) ∧ Below w.heap.size w w' := by
  go_enter Try.func29, Try.ntmps29
  go_wp2_with (first
    | (go_at_call 33; (with_reducible refine (N1.out _).mono ?_); rintro e1 w1 ⟨rfl, rfl⟩)
    | (go_at_call 35; (with_reducible refine (I1.out _).mono ?_); rintro e1 w1 ⟨rfl, rfl⟩)
    | (go_at_call 36; (with_reducible refine (Z1.out _).mono ?_); rintro e1 w1 ⟨rfl, rfl⟩)
    | (go_at_call 39; (with_reducible refine (HSA.out _).mono ?_); rintro e1 w1 ⟨rfl, hb1⟩)
    | (go_at_call 41; (with_reducible refine (HPK.out _).mono ?_); rintro e4 w4 ⟨rfl, hb4⟩))
  go_ret
  exact ⟨rfl, scale_fine hb1 hb4⟩
theorem scale_c (a : Nat) (n : Int) (ha : W a) (w : World) : Calls Try.prog 29 #[.int .u64 a, .int .i64 n] w fun e w' => e = .returned (.int .u64 ((scaleV a n : Nat) : Int)) ∧ Below w.heap.size w w' := by
  have N1 := Lib.hid (isnan_c a ha)
  have I1 := Lib.hid (isinf_c a ha)
  have Z1 := Lib.hid (iszero_c a ha)
  by_cases n1 : nan a = true
  · rw [show scaleV a n = NaN by simp [scaleV, n1]]; rw [n1] at N1; exact scale_n1 a n N1 w
  have n1 := Bool.eq_false_iff.2 n1; rw [n1] at N1
  by_cases i1 : inf a = true
  · rw [show scaleV a n = a by simp [scaleV, n1, i1]]; rw [i1] at I1; exact scale_i1 a n N1 I1 w
  have i1 := Bool.eq_false_iff.2 i1; rw [i1] at I1
  by_cases z1 : zer a = true
  · rw [show scaleV a n = a by simp [scaleV, n1, i1, z1]]; rw [z1] at Z1; exact scale_z1 a n N1 I1 Z1 w
  have z1 := Bool.eq_false_iff.2 z1; rw [z1] at Z1
  have ba : -1074 ≤ se a ∧ se a ≤ 971 := ⟨se_ge a, se_le n1 i1⟩
  rw [show scaleV a n = sg (ng a) (pat (sm a) (se a + min (max n (-100000)) 100000) false) by unfold scaleV; rw [if_neg (by rw [n1]; decide), if_neg (by rw [i1, z1]; decide)]]
  have HPK := Lib.hid (pack_c (ng a) 0 (sm a) (se a + min (max n (-100000)) 100000) false (W_of (by decide)) (W_of (by have := sm_lt a; omega)))
  rw [two_lo] at HPK
  exact scale_f a n _ _ _ _ _ (Lib.hid (split_c a ha)) ba rfl (by omega) HPK N1 I1 Z1 w
end Go.Proofs.Ytkifdppppihjcaa

namespace Go.Proofs.Ytkifdppppihjcaa
set_option linter.unusedVariables false
set_option linter.unusedSimpArgs false
open Go.RowKit Go.Shelf SF
theorem bt {w w1 w2 : World} (h1 : Below w.heap.size w w1) (h2 : Below w1.heap.size w1 w2) : Below w.heap.size w w2 := below_then h1 h1.size h2
theorem W_packI (n : Int) (e : Int) : W (packI n e) := by
  unfold packI; split; exact W_of (by decide); exact W_sg (by have := pat_le n.natAbs e false; omega)
theorem W_addV {a b : Nat} (ha : W a) (hb : W b) : W (addV a b) := by
  unfold addV addF
  split; exact W_of (by decide)
  split; split; exact W_of (by decide); exact ha
  split; exact hb
  split; exact W_sg (by decide)
  exact W_packI _ _
theorem W_mulV (a b : Nat) : W (mulV a b) := by
  unfold mulV mulF
  split; exact W_of (by decide)
  split; exact W_sg (by decide)
  exact W_sg (by have := pat_le (sm a * sm b) (se a + se b) false; omega)
end Go.Proofs.Ytkifdppppihjcaa

namespace Go.Proofs.Ytkifdppppihjcaa
set_option linter.unusedVariables false
set_option linter.unusedSimpArgs false
open Go.RowKit Go.Shelf SF
theorem one_cells {w2 w3 : World} {x0 x1 x2 : Value} {T : TypeId} (h : Below (w2.alloc (.cells #[x0, x1, x2] T)).heap.size (w2.alloc (.cells #[x0, x1, x2] T)) w3) :
    w3.cell? ⟨w2.heap.size, 0, none⟩ = some x0 ∧ w3.cell? ⟨w2.heap.size, 1, none⟩ = some x1 ∧ w3.cell? ⟨w2.heap.size, 2, none⟩ = some x2 := by
  refine ⟨?_, ?_, ?_⟩ <;> (refine cell_below h ?_; simp [go_sem])
theorem whole_fine {w w1 w2 w3 w4 : World} {o1 : Obj} (h1 : Below w.heap.size w w1) (h2 : Below (w1.alloc o1).heap.size (w1.alloc o1) w2) (h3 : Below w2.heap.size w2 w3) (h4 : Below w3.heap.size w3 w4) : Below w.heap.size w w4 :=
  bt (bt (bt (h1.alloc h1.size o1) h2) h3) h4
set_option maxRecDepth 100000 in
set_option maxHeartbeats 1000000 in
theorem whole_n1 (f : FuncId) (a : Nat) (N1 : Hid (PB 33 a true)) (w : World) : Calls Try.prog 49 #[.int .u64 a, .func (.func f) #[] #[]] w fun e w' => e = .returned (.int .u64 (9221120237041090560)) ∧ Below w.heap.size w w' := by
  go_enter Try.func49, Try.ntmps49
  go_wp2_with (first
    | (go_at_call 33; (with_reducible refine (N1.out _).mono ?_); rintro e1 w1 ⟨rfl, rfl⟩))
  go_ret
  exact ⟨rfl, Below.refl _ _⟩
set_option maxRecDepth 100000 in
set_option maxHeartbeats 1000000 in
theorem whole_i1 (f : FuncId) (a : Nat) (N1 : Hid (PB 33 a false)) (I1 : Hid (PB 35 a true)) (w : World) : Calls Try.prog 49 #[.int .u64 a, .func (.func f) #[] #[]] w fun e w' => e = .returned (.int .u64 ((a : Int))) ∧ Below w.heap.size w w' := by
  go_enter Try.func49, Try.ntmps49
  go_wp2_with (first
    | (go_at_call 33; (with_reducible refine (N1.out _).mono ?_); rintro e1 w1 ⟨rfl, rfl⟩)
    | (go_at_call 35; (with_reducible refine (I1.out _).mono ?_); rintro e1 w1 ⟨rfl, rfl⟩))
  go_ret
  exact ⟨rfl, Below.refl _ _⟩
set_option maxRecDepth 100000 in
set_option maxHeartbeats 1000000 in
theorem whole_z1 (f : FuncId) (a : Nat) (N1 : Hid (PB 33 a false)) (I1 : Hid (PB 35 a false)) (Z1 : Hid (PB 36 a true)) (w : World) : Calls Try.prog 49 #[.int .u64 a, .func (.func f) #[] #[]] w fun e w' => e = .returned (.int .u64 ((a : Int))) ∧ Below w.heap.size w w' := by
  go_enter Try.func49, Try.ntmps49
  go_wp2_with (first
    | (go_at_call 33; (with_reducible refine (N1.out _).mono ?_); rintro e1 w1 ⟨rfl, rfl⟩)
    | (go_at_call 35; (with_reducible refine (I1.out _).mono ?_); rintro e1 w1 ⟨rfl, rfl⟩)
    | (go_at_call 36; (with_reducible refine (Z1.out _).mono ?_); rintro e1 w1 ⟨rfl, rfl⟩))
  go_ret
  exact ⟨rfl, Below.refl _ _⟩
set_option maxRecDepth 100000 in
set_option maxHeartbeats 1000000 in
theorem whole_e (f : FuncId) (a : Nat) (N1 : Hid (PB 33 a false)) (I1 : Hid (PB 35 a false)) (Z1 : Hid (PB 36 a false)) (p : Bool) (m e : Int) (HSA : Hid (PSplit a p m e)) (he : 0 ≤ e) (w : World) : Calls Try.prog 49 #[.int .u64 a, .func (.func f) #[] #[]] w fun e w' => e = .returned (.int .u64 ((a : Int))) ∧ Below w.heap.size w w' := by
  go_enter Try.func49, Try.ntmps49
  go_wp2_with (first
    | (go_at_call 33; (with_reducible refine (N1.out _).mono ?_); rintro e1 w1 ⟨rfl, rfl⟩)
    | (go_at_call 35; (with_reducible refine (I1.out _).mono ?_); rintro e1 w1 ⟨rfl, rfl⟩)
    | (go_at_call 36; (with_reducible refine (Z1.out _).mono ?_); rintro e1 w1 ⟨rfl, rfl⟩)
    | (go_at_call 39; (with_reducible refine (HSA.out _).mono ?_); rintro e1 w1 ⟨rfl, hb1⟩))
  go_ret
  exact ⟨rfl, hb1.alloc hb1.size _⟩
set_option maxRecDepth 100000 in
set_option maxHeartbeats 1000000 in
theorem whole_0000 (f : FuncId) (a : Nat) (ef : ∀ args w, (callFunc f args).run Try.prog w = .ok (.enter f args) w) (N1 : Hid (PB 33 a false)) (I1 : Hid (PB 35 a false)) (Z1 : Hid (PB 36 a false)) (p : Bool) (m e : Int) (HSA : Hid (PSplit a p m e)) (he : -1074 ≤ e ∧ e < 0) (c1 c2 n h1 n2 h2 R : Int) (hc1 : -e = c1) (hc2 : c1 - 1 = c2) (odd mo : Bool) (HR1 : Hid (∀ w, Calls Try.prog 42 #[.int .u64 0, .int .u64 m, .int .i64 (c1)] w fun e w' => e = .returned (.tuple #[.int .u64 h1, .int .u64 n, .bool false]) ∧ Below w.heap.size w w')) (HR2 : Hid (∀ w, Calls Try.prog 42 #[.int .u64 0, .int .u64 m, .int .i64 (c2)] w fun e w' => e = .returned (.tuple #[.int .u64 h2, .int .u64 n2, .bool mo]) ∧ Below w.heap.size w w')) (TW : bits .and .u64 n2 1 = 0) (OD : (bits .and .u64 n 1 == 1) = odd) (bn : 0 ≤ n ∧ n < 9007199254740992) (HUP : Hid (∀ w, Calls Try.prog f #[.bool p, .bool odd, .int .i64 (0), .int .i64 (-1)] w fun e w' => e = .returned (.bool false) ∧ w = w')) (HPK : Hid (PPack p 0 (n) 0 false R)) (w : World) : Calls Try.prog 49 #[.int .u64 a, .func (.func f) #[] #[]] w fun e w' => e = .returned (.int .u64 (R)) ∧ Below w.heap.size w w' := by
  go_enter Try.func49, Try.ntmps49
  go_wp2_with (first
    | (go_at_call 33; (with_reducible refine (N1.out _).mono ?_); rintro e1 w1 ⟨rfl, rfl⟩)
    | (go_at_call 35; (with_reducible refine (I1.out _).mono ?_); rintro e1 w1 ⟨rfl, rfl⟩)
    | (go_at_call 36; (with_reducible refine (Z1.out _).mono ?_); rintro e1 w1 ⟨rfl, rfl⟩)
    | (go_at_call 39; (with_reducible refine (HSA.out _).mono ?_); rintro e1 w1 ⟨rfl, hb1⟩)
    | (go_at_call 42; (with_reducible refine (HR1.out _).mono ?_); rintro e2 w2 ⟨rfl, hb2⟩; obtain ⟨k0, k1, k2⟩ := one_cells hb2)
    | (go_at_call 42; (with_reducible refine (HR2.out _).mono ?_); rintro e3 w3 ⟨rfl, hb3⟩; have j0 := cell_below hb3 k0; have j1 := cell_below hb3 k1; have j2 := cell_below hb3 k2; clear k0 k1 k2)
    | (go_at_fn f; (with_reducible refine (HUP.out _).mono ?_); rintro e5 w5 ⟨rfl, rfl⟩)
    | (go_at_call 41; (with_reducible refine (HPK.out _).mono ?_); rintro e4 w4 ⟨rfl, hb4⟩))
  go_ret
  exact ⟨rfl, whole_fine hb1 hb2 hb3 hb4⟩
set_option maxRecDepth 100000 in
set_option maxHeartbeats 1000000 in
theorem whole_0001 (f : FuncId) (a : Nat) (ef : ∀ args w, (callFunc f args).run Try.prog w = .ok (.enter f args) w) (N1 : Hid (PB 33 a false)) (I1 : Hid (PB 35 a false)) (Z1 : Hid (PB 36 a false)) (p : Bool) (m e : Int) (HSA : Hid (PSplit a p m e)) (he : -1074 ≤ e ∧ e < 0) (c1 c2 n h1 n2 h2 R : Int) (hc1 : -e = c1) (hc2 : c1 - 1 = c2) (odd mo : Bool) (HR1 : Hid (∀ w, Calls Try.prog 42 #[.int .u64 0, .int .u64 m, .int .i64 (c1)] w fun e w' => e = .returned (.tuple #[.int .u64 h1, .int .u64 n, .bool false]) ∧ Below w.heap.size w w')) (HR2 : Hid (∀ w, Calls Try.prog 42 #[.int .u64 0, .int .u64 m, .int .i64 (c2)] w fun e w' => e = .returned (.tuple #[.int .u64 h2, .int .u64 n2, .bool mo]) ∧ Below w.heap.size w w')) (TW : bits .and .u64 n2 1 = 0) (OD : (bits .and .u64 n 1 == 1) = odd) (bn : 0 ≤ n ∧ n < 9007199254740992) (HUP : Hid (∀ w, Calls Try.prog f #[.bool p, .bool odd, .int .i64 (0), .int .i64 (-1)] w fun e w' => e = .returned (.bool true) ∧ w = w')) (HPK : Hid (PPack p 0 (n + 1) 0 false R)) (w : World) : Calls Try.prog 49 #[.int .u64 a, .func (.func f) #[] #[]] w fun e w' => e = .returned (.int .u64 (R)) ∧ Below w.heap.size w w' := by
  go_enter Try.func49, Try.ntmps49
  go_wp2_with (first
    | (go_at_call 33; (with_reducible refine (N1.out _).mono ?_); rintro e1 w1 ⟨rfl, rfl⟩)
    | (go_at_call 35; (with_reducible refine (I1.out _).mono ?_); rintro e1 w1 ⟨rfl, rfl⟩)
    | (go_at_call 36; (with_reducible refine (Z1.out _).mono ?_); rintro e1 w1 ⟨rfl, rfl⟩)
    | (go_at_call 39; (with_reducible refine (HSA.out _).mono ?_); rintro e1 w1 ⟨rfl, hb1⟩)
    | (go_at_call 42; (with_reducible refine (HR1.out _).mono ?_); rintro e2 w2 ⟨rfl, hb2⟩; obtain ⟨k0, k1, k2⟩ := one_cells hb2)
    | (go_at_call 42; (with_reducible refine (HR2.out _).mono ?_); rintro e3 w3 ⟨rfl, hb3⟩; have j0 := cell_below hb3 k0; have j1 := cell_below hb3 k1; have j2 := cell_below hb3 k2; clear k0 k1 k2)
    | (go_at_fn f; (with_reducible refine (HUP.out _).mono ?_); rintro e5 w5 ⟨rfl, rfl⟩)
    | (go_at_call 41; (with_reducible refine (HPK.out _).mono ?_); rintro e4 w4 ⟨rfl, hb4⟩))
  go_ret
  exact ⟨rfl, whole_fine hb1 hb2 hb3 hb4⟩
set_option maxRecDepth 100000 in
set_option maxHeartbeats 1000000 in
theorem whole_0100 (f : FuncId) (a : Nat) (ef : ∀ args w, (callFunc f args).run Try.prog w = .ok (.enter f args) w) (N1 : Hid (PB 33 a false)) (I1 : Hid (PB 35 a false)) (Z1 : Hid (PB 36 a false)) (p : Bool) (m e : Int) (HSA : Hid (PSplit a p m e)) (he : -1074 ≤ e ∧ e < 0) (c1 c2 n h1 n2 h2 R : Int) (hc1 : -e = c1) (hc2 : c1 - 1 = c2) (odd : Bool) (HR1 : Hid (∀ w, Calls Try.prog 42 #[.int .u64 0, .int .u64 m, .int .i64 (c1)] w fun e w' => e = .returned (.tuple #[.int .u64 h1, .int .u64 n, .bool false]) ∧ Below w.heap.size w w')) (HR2 : Hid (∀ w, Calls Try.prog 42 #[.int .u64 0, .int .u64 m, .int .i64 (c2)] w fun e w' => e = .returned (.tuple #[.int .u64 h2, .int .u64 n2, .bool false]) ∧ Below w.heap.size w w')) (TW : bits .and .u64 n2 1 = 1) (OD : (bits .and .u64 n 1 == 1) = odd) (bn : 0 ≤ n ∧ n < 9007199254740992) (HUP : Hid (∀ w, Calls Try.prog f #[.bool p, .bool odd, .int .i64 (0), .int .i64 (0)] w fun e w' => e = .returned (.bool false) ∧ w = w')) (HPK : Hid (PPack p 0 (n) 0 false R)) (w : World) : Calls Try.prog 49 #[.int .u64 a, .func (.func f) #[] #[]] w fun e w' => e = .returned (.int .u64 (R)) ∧ Below w.heap.size w w' := by
  go_enter Try.func49, Try.ntmps49
  go_wp2_with (first
    | (go_at_call 33; (with_reducible refine (N1.out _).mono ?_); rintro e1 w1 ⟨rfl, rfl⟩)
    | (go_at_call 35; (with_reducible refine (I1.out _).mono ?_); rintro e1 w1 ⟨rfl, rfl⟩)
    | (go_at_call 36; (with_reducible refine (Z1.out _).mono ?_); rintro e1 w1 ⟨rfl, rfl⟩)
    | (go_at_call 39; (with_reducible refine (HSA.out _).mono ?_); rintro e1 w1 ⟨rfl, hb1⟩)
    | (go_at_call 42; (with_reducible refine (HR1.out _).mono ?_); rintro e2 w2 ⟨rfl, hb2⟩; obtain ⟨k0, k1, k2⟩ := one_cells hb2)
    | (go_at_call 42; (with_reducible refine (HR2.out _).mono ?_); rintro e3 w3 ⟨rfl, hb3⟩; have j0 := cell_below hb3 k0; have j1 := cell_below hb3 k1; have j2 := cell_below hb3 k2; clear k0 k1 k2)
    | (go_at_fn f; (with_reducible refine (HUP.out _).mono ?_); rintro e5 w5 ⟨rfl, rfl⟩)
    | (go_at_call 41; (with_reducible refine (HPK.out _).mono ?_); rintro e4 w4 ⟨rfl, hb4⟩))
  go_ret
  exact ⟨rfl, whole_fine hb1 hb2 hb3 hb4⟩
set_option maxRecDepth 100000 in
set_option maxHeartbeats 1000000 in
theorem whole_0101 (f : FuncId) (a : Nat) (ef : ∀ args w, (callFunc f args).run Try.prog w = .ok (.enter f args) w) (N1 : Hid (PB 33 a false)) (I1 : Hid (PB 35 a false)) (Z1 : Hid (PB 36 a false)) (p : Bool) (m e : Int) (HSA : Hid (PSplit a p m e)) (he : -1074 ≤ e ∧ e < 0) (c1 c2 n h1 n2 h2 R : Int) (hc1 : -e = c1) (hc2 : c1 - 1 = c2) (odd : Bool) (HR1 : Hid (∀ w, Calls Try.prog 42 #[.int .u64 0, .int .u64 m, .int .i64 (c1)] w fun e w' => e = .returned (.tuple #[.int .u64 h1, .int .u64 n, .bool false]) ∧ Below w.heap.size w w')) (HR2 : Hid (∀ w, Calls Try.prog 42 #[.int .u64 0, .int .u64 m, .int .i64 (c2)] w fun e w' => e = .returned (.tuple #[.int .u64 h2, .int .u64 n2, .bool false]) ∧ Below w.heap.size w w')) (TW : bits .and .u64 n2 1 = 1) (OD : (bits .and .u64 n 1 == 1) = odd) (bn : 0 ≤ n ∧ n < 9007199254740992) (HUP : Hid (∀ w, Calls Try.prog f #[.bool p, .bool odd, .int .i64 (0), .int .i64 (0)] w fun e w' => e = .returned (.bool true) ∧ w = w')) (HPK : Hid (PPack p 0 (n + 1) 0 false R)) (w : World) : Calls Try.prog 49 #[.int .u64 a, .func (.func f) #[] #[]] w fun e w' => e = .returned (.int .u64 (R)) ∧ Below w.heap.size w w' := by
  go_enter Try.func49, Try.ntmps49
  go_wp2_with (first
    | (go_at_call 33; (with_reducible refine (N1.out _).mono ?_); rintro e1 w1 ⟨rfl, rfl⟩)
    | (go_at_call 35; (with_reducible refine (I1.out _).mono ?_); rintro e1 w1 ⟨rfl, rfl⟩)
    | (go_at_call 36; (with_reducible refine (Z1.out _).mono ?_); rintro e1 w1 ⟨rfl, rfl⟩)
    | (go_at_call 39; (with_reducible refine (HSA.out _).mono ?_); rintro e1 w1 ⟨rfl, hb1⟩)
    | (go_at_call 42; (with_reducible refine (HR1.out _).mono ?_); rintro e2 w2 ⟨rfl, hb2⟩; obtain ⟨k0, k1, k2⟩ := one_cells hb2)
    | (go_at_call 42; (with_reducible refine (HR2.out _).mono ?_); rintro e3 w3 ⟨rfl, hb3⟩; have j0 := cell_below hb3 k0; have j1 := cell_below hb3 k1; have j2 := cell_below hb3 k2; clear k0 k1 k2)
    | (go_at_fn f; (with_reducible refine (HUP.out _).mono ?_); rintro e5 w5 ⟨rfl, rfl⟩)
    | (go_at_call 41; (with_reducible refine (HPK.out _).mono ?_); rintro e4 w4 ⟨rfl, hb4⟩))
  go_ret
  exact ⟨rfl, whole_fine hb1 hb2 hb3 hb4⟩
set_option maxRecDepth 100000 in
set_option maxHeartbeats 1000000 in
theorem whole_0110 (f : FuncId) (a : Nat) (ef : ∀ args w, (callFunc f args).run Try.prog w = .ok (.enter f args) w) (N1 : Hid (PB 33 a false)) (I1 : Hid (PB 35 a false)) (Z1 : Hid (PB 36 a false)) (p : Bool) (m e : Int) (HSA : Hid (PSplit a p m e)) (he : -1074 ≤ e ∧ e < 0) (c1 c2 n h1 n2 h2 R : Int) (hc1 : -e = c1) (hc2 : c1 - 1 = c2) (odd : Bool) (HR1 : Hid (∀ w, Calls Try.prog 42 #[.int .u64 0, .int .u64 m, .int .i64 (c1)] w fun e w' => e = .returned (.tuple #[.int .u64 h1, .int .u64 n, .bool false]) ∧ Below w.heap.size w w')) (HR2 : Hid (∀ w, Calls Try.prog 42 #[.int .u64 0, .int .u64 m, .int .i64 (c2)] w fun e w' => e = .returned (.tuple #[.int .u64 h2, .int .u64 n2, .bool true]) ∧ Below w.heap.size w w')) (TW : bits .and .u64 n2 1 = 1) (OD : (bits .and .u64 n 1 == 1) = odd) (bn : 0 ≤ n ∧ n < 9007199254740992) (HUP : Hid (∀ w, Calls Try.prog f #[.bool p, .bool odd, .int .i64 (0), .int .i64 (1)] w fun e w' => e = .returned (.bool false) ∧ w = w')) (HPK : Hid (PPack p 0 (n) 0 false R)) (w : World) : Calls Try.prog 49 #[.int .u64 a, .func (.func f) #[] #[]] w fun e w' => e = .returned (.int .u64 (R)) ∧ Below w.heap.size w w' := by
  go_enter Try.func49, Try.ntmps49
  go_wp2_with (first
    | (go_at_call 33; (with_reducible refine (N1.out _).mono ?_); rintro e1 w1 ⟨rfl, rfl⟩)
    | (go_at_call 35; (with_reducible refine (I1.out _).mono ?_); rintro e1 w1 ⟨rfl, rfl⟩)
    | (go_at_call 36; (with_reducible refine (Z1.out _).mono ?_); rintro e1 w1 ⟨rfl, rfl⟩)
    | (go_at_call 39; (with_reducible refine (HSA.out _).mono ?_); rintro e1 w1 ⟨rfl, hb1⟩)
    | (go_at_call 42; (with_reducible refine (HR1.out _).mono ?_); rintro e2 w2 ⟨rfl, hb2⟩; obtain ⟨k0, k1, k2⟩ := one_cells hb2)
    | (go_at_call 42; (with_reducible refine (HR2.out _).mono ?_); rintro e3 w3 ⟨rfl, hb3⟩; have j0 := cell_below hb3 k0; have j1 := cell_below hb3 k1; have j2 := cell_below hb3 k2; clear k0 k1 k2)
    | (go_at_fn f; (with_reducible refine (HUP.out _).mono ?_); rintro e5 w5 ⟨rfl, rfl⟩)
    | (go_at_call 41; (with_reducible refine (HPK.out _).mono ?_); rintro e4 w4 ⟨rfl, hb4⟩))
  go_ret
  exact ⟨rfl, whole_fine hb1 hb2 hb3 hb4⟩
set_option maxRecDepth 100000 in
set_option maxHeartbeats 1000000 in
theorem whole_0111 (f : FuncId) (a : Nat) (ef : ∀ args w, (callFunc f args).run Try.prog w = .ok (.enter f args) w) (N1 : Hid (PB 33 a false)) (I1 : Hid (PB 35 a false)) (Z1 : Hid (PB 36 a false)) (p : Bool) (m e : Int) (HSA : Hid (PSplit a p m e)) (he : -1074 ≤ e ∧ e < 0) (c1 c2 n h1 n2 h2 R : Int) (hc1 : -e = c1) (hc2 : c1 - 1 = c2) (odd : Bool) (HR1 : Hid (∀ w, Calls Try.prog 42 #[.int .u64 0, .int .u64 m, .int .i64 (c1)] w fun e w' => e = .returned (.tuple #[.int .u64 h1, .int .u64 n, .bool false]) ∧ Below w.heap.size w w')) (HR2 : Hid (∀ w, Calls Try.prog 42 #[.int .u64 0, .int .u64 m, .int .i64 (c2)] w fun e w' => e = .returned (.tuple #[.int .u64 h2, .int .u64 n2, .bool true]) ∧ Below w.heap.size w w')) (TW : bits .and .u64 n2 1 = 1) (OD : (bits .and .u64 n 1 == 1) = odd) (bn : 0 ≤ n ∧ n < 9007199254740992) (HUP : Hid (∀ w, Calls Try.prog f #[.bool p, .bool odd, .int .i64 (0), .int .i64 (1)] w fun e w' => e = .returned (.bool true) ∧ w = w')) (HPK : Hid (PPack p 0 (n + 1) 0 false R)) (w : World) : Calls Try.prog 49 #[.int .u64 a, .func (.func f) #[] #[]] w fun e w' => e = .returned (.int .u64 (R)) ∧ Below w.heap.size w w' := by
  go_enter Try.func49, Try.ntmps49
  go_wp2_with (first
    | (go_at_call 33; (with_reducible refine (N1.out _).mono ?_); rintro e1 w1 ⟨rfl, rfl⟩)
    | (go_at_call 35; (with_reducible refine (I1.out _).mono ?_); rintro e1 w1 ⟨rfl, rfl⟩)
    | (go_at_call 36; (with_reducible refine (Z1.out _).mono ?_); rintro e1 w1 ⟨rfl, rfl⟩)
    | (go_at_call 39; (with_reducible refine (HSA.out _).mono ?_); rintro e1 w1 ⟨rfl, hb1⟩)
    | (go_at_call 42; (with_reducible refine (HR1.out _).mono ?_); rintro e2 w2 ⟨rfl, hb2⟩; obtain ⟨k0, k1, k2⟩ := one_cells hb2)
    | (go_at_call 42; (with_reducible refine (HR2.out _).mono ?_); rintro e3 w3 ⟨rfl, hb3⟩; have j0 := cell_below hb3 k0; have j1 := cell_below hb3 k1; have j2 := cell_below hb3 k2; clear k0 k1 k2)
    | (go_at_fn f; (with_reducible refine (HUP.out _).mono ?_); rintro e5 w5 ⟨rfl, rfl⟩)
    | (go_at_call 41; (with_reducible refine (HPK.out _).mono ?_); rintro e4 w4 ⟨rfl, hb4⟩))
  go_ret
  exact ⟨rfl, whole_fine hb1 hb2 hb3 hb4⟩
set_option maxRecDepth 100000 in
set_option maxHeartbeats 1000000 in
theorem whole_1000 (f : FuncId) (a : Nat) (ef : ∀ args w, (callFunc f args).run Try.prog w = .ok (.enter f args) w) (N1 : Hid (PB 33 a false)) (I1 : Hid (PB 35 a false)) (Z1 : Hid (PB 36 a false)) (p : Bool) (m e : Int) (HSA : Hid (PSplit a p m e)) (he : -1074 ≤ e ∧ e < 0) (c1 c2 n h1 n2 h2 R : Int) (hc1 : -e = c1) (hc2 : c1 - 1 = c2) (odd mo : Bool) (HR1 : Hid (∀ w, Calls Try.prog 42 #[.int .u64 0, .int .u64 m, .int .i64 (c1)] w fun e w' => e = .returned (.tuple #[.int .u64 h1, .int .u64 n, .bool true]) ∧ Below w.heap.size w w')) (HR2 : Hid (∀ w, Calls Try.prog 42 #[.int .u64 0, .int .u64 m, .int .i64 (c2)] w fun e w' => e = .returned (.tuple #[.int .u64 h2, .int .u64 n2, .bool mo]) ∧ Below w.heap.size w w')) (TW : bits .and .u64 n2 1 = 0) (OD : (bits .and .u64 n 1 == 1) = odd) (bn : 0 ≤ n ∧ n < 9007199254740992) (HUP : Hid (∀ w, Calls Try.prog f #[.bool p, .bool odd, .int .i64 (1), .int .i64 (-1)] w fun e w' => e = .returned (.bool false) ∧ w = w')) (HPK : Hid (PPack p 0 (n) 0 false R)) (w : World) : Calls Try.prog 49 #[.int .u64 a, .func (.func f) #[] #[]] w fun e w' => e = .returned (.int .u64 (R)) ∧ Below w.heap.size w w' := by
  go_enter Try.func49, Try.ntmps49
  go_wp2_with (first
    | (go_at_call 33; (with_reducible refine (N1.out _).mono ?_); rintro e1 w1 ⟨rfl, rfl⟩)
    | (go_at_call 35; (with_reducible refine (I1.out _).mono ?_); rintro e1 w1 ⟨rfl, rfl⟩)
    | (go_at_call 36; (with_reducible refine (Z1.out _).mono ?_); rintro e1 w1 ⟨rfl, rfl⟩)
    | (go_at_call 39; (with_reducible refine (HSA.out _).mono ?_); rintro e1 w1 ⟨rfl, hb1⟩)
    | (go_at_call 42; (with_reducible refine (HR1.out _).mono ?_); rintro e2 w2 ⟨rfl, hb2⟩; obtain ⟨k0, k1, k2⟩ := one_cells hb2)
    | (go_at_call 42; (with_reducible refine (HR2.out _).mono ?_); rintro e3 w3 ⟨rfl, hb3⟩; have j0 := cell_below hb3 k0; have j1 := cell_below hb3 k1; have j2 := cell_below hb3 k2; clear k0 k1 k2)
    | (go_at_fn f; (with_reducible refine (HUP.out _).mono ?_); rintro e5 w5 ⟨rfl, rfl⟩)
    | (go_at_call 41; (with_reducible refine (HPK.out _).mono ?_); rintro e4 w4 ⟨rfl, hb4⟩))
  go_ret
  exact ⟨rfl, whole_fine hb1 hb2 hb3 hb4⟩
set_option maxRecDepth 100000 in
set_option maxHeartbeats 1000000 in
theorem whole_1001 (f : FuncId) (a : Nat) (ef : ∀ args w, (callFunc f args).run Try.prog w = .ok (.enter f args) w) (N1 : Hid (PB 33 a false)) (I1 : Hid (PB 35 a false)) (Z1 : Hid (PB 36 a false)) (p : Bool) (m e : Int) (HSA : Hid (PSplit a p m e)) (he : -1074 ≤ e ∧ e < 0) (c1 c2 n h1 n2 h2 R : Int) (hc1 : -e = c1) (hc2 : c1 - 1 = c2) (odd mo : Bool) (HR1 : Hid (∀ w, Calls Try.prog 42 #[.int .u64 0, .int .u64 m, .int .i64 (c1)] w fun e w' => e = .returned (.tuple #[.int .u64 h1, .int .u64 n, .bool true]) ∧ Below w.heap.size w w')) (HR2 : Hid (∀ w, Calls Try.prog 42 #[.int .u64 0, .int .u64 m, .int .i64 (c2)] w fun e w' => e = .returned (.tuple #[.int .u64 h2, .int .u64 n2, .bool mo]) ∧ Below w.heap.size w w')) (TW : bits .and .u64 n2 1 = 0) (OD : (bits .and .u64 n 1 == 1) = odd) (bn : 0 ≤ n ∧ n < 9007199254740992) (HUP : Hid (∀ w, Calls Try.prog f #[.bool p, .bool odd, .int .i64 (1), .int .i64 (-1)] w fun e w' => e = .returned (.bool true) ∧ w = w')) (HPK : Hid (PPack p 0 (n + 1) 0 false R)) (w : World) : Calls Try.prog 49 #[.int .u64 a, .func (.func f) #[] #[]] w fun e w' => e = .returned (.int .u64 (R)) ∧ Below w.heap.size w w' := by
  go_enter Try.func49, Try.ntmps49
  go_wp2_with (first
    | (go_at_call 33; (with_reducible refine (N1.out _).mono ?_); rintro e1 w1 ⟨rfl, rfl⟩)
    | (go_at_call 35; (with_reducible refine (I1.out _).mono ?_); rintro e1 w1 ⟨rfl, rfl⟩)
    | (go_at_call 36; (with_reducible refine (Z1.out _).mono ?_); rintro e1 w1 ⟨rfl, rfl⟩)
    | (go_at_call 39; (with_reducible refine (HSA.out _).mono ?_); rintro e1 w1 ⟨rfl, hb1⟩)
    | (go_at_call 42; (with_reducible refine (HR1.out _).mono ?_); rintro e2 w2 ⟨rfl, hb2⟩; obtain ⟨k0, k1, k2⟩ := one_cells hb2)
    | (go_at_call 42; (with_reducible refine (HR2.out _).mono ?_); rintro e3 w3 ⟨rfl, hb3⟩; have j0 := cell_below hb3 k0; have j1 := cell_below hb3 k1; have j2 := cell_below hb3 k2; clear k0 k1 k2)
    | (go_at_fn f; (with_reducible refine (HUP.out _).mono ?_); rintro e5 w5 ⟨rfl, rfl⟩)
    | (go_at_call 41; (with_reducible refine (HPK.out _).mono ?_); rintro e4 w4 ⟨rfl, hb4⟩))
  go_ret
  exact ⟨rfl, whole_fine hb1 hb2 hb3 hb4⟩
set_option maxRecDepth 100000 in
set_option maxHeartbeats 1000000 in
theorem whole_1100 (f : FuncId) (a : Nat) (ef : ∀ args w, (callFunc f args).run Try.prog w = .ok (.enter f args) w) (N1 : Hid (PB 33 a false)) (I1 : Hid (PB 35 a false)) (Z1 : Hid (PB 36 a false)) (p : Bool) (m e : Int) (HSA : Hid (PSplit a p m e)) (he : -1074 ≤ e ∧ e < 0) (c1 c2 n h1 n2 h2 R : Int) (hc1 : -e = c1) (hc2 : c1 - 1 = c2) (odd : Bool) (HR1 : Hid (∀ w, Calls Try.prog 42 #[.int .u64 0, .int .u64 m, .int .i64 (c1)] w fun e w' => e = .returned (.tuple #[.int .u64 h1, .int .u64 n, .bool true]) ∧ Below w.heap.size w w')) (HR2 : Hid (∀ w, Calls Try.prog 42 #[.int .u64 0, .int .u64 m, .int .i64 (c2)] w fun e w' => e = .returned (.tuple #[.int .u64 h2, .int .u64 n2, .bool false]) ∧ Below w.heap.size w w')) (TW : bits .and .u64 n2 1 = 1) (OD : (bits .and .u64 n 1 == 1) = odd) (bn : 0 ≤ n ∧ n < 9007199254740992) (HUP : Hid (∀ w, Calls Try.prog f #[.bool p, .bool odd, .int .i64 (1), .int .i64 (0)] w fun e w' => e = .returned (.bool false) ∧ w = w')) (HPK : Hid (PPack p 0 (n) 0 false R)) (w : World) : Calls Try.prog 49 #[.int .u64 a, .func (.func f) #[] #[]] w fun e w' => e = .returned (.int .u64 (R)) ∧ Below w.heap.size w w' := by
  go_enter Try.func49, Try.ntmps49
  go_wp2_with (first
    | (go_at_call 33; (with_reducible refine (N1.out _).mono ?_); rintro e1 w1 ⟨rfl, rfl⟩)
    | (go_at_call 35; (with_reducible refine (I1.out _).mono ?_); rintro e1 w1 ⟨rfl, rfl⟩)
    | (go_at_call 36; (with_reducible refine (Z1.out _).mono ?_); rintro e1 w1 ⟨rfl, rfl⟩)
    | (go_at_call 39; (with_reducible refine (HSA.out _).mono ?_); rintro e1 w1 ⟨rfl, hb1⟩)
    | (go_at_call 42; (with_reducible refine (HR1.out _).mono ?_); rintro e2 w2 ⟨rfl, hb2⟩; obtain ⟨k0, k1, k2⟩ := one_cells hb2)
    | (go_at_call 42; (with_reducible refine (HR2.out _).mono ?_); rintro e3 w3 ⟨rfl, hb3⟩; have j0 := cell_below hb3 k0; have j1 := cell_below hb3 k1; have j2 := cell_below hb3 k2; clear k0 k1 k2)
    | (go_at_fn f; (with_reducible refine (HUP.out _).mono ?_); rintro e5 w5 ⟨rfl, rfl⟩)
    | (go_at_call 41; (with_reducible refine (HPK.out _).mono ?_); rintro e4 w4 ⟨rfl, hb4⟩))
  go_ret
  exact ⟨rfl, whole_fine hb1 hb2 hb3 hb4⟩
set_option maxRecDepth 100000 in
set_option maxHeartbeats 1000000 in
theorem whole_1101 (f : FuncId) (a : Nat) (ef : ∀ args w, (callFunc f args).run Try.prog w = .ok (.enter f args) w) (N1 : Hid (PB 33 a false)) (I1 : Hid (PB 35 a false)) (Z1 : Hid (PB 36 a false)) (p : Bool) (m e : Int) (HSA : Hid (PSplit a p m e)) (he : -1074 ≤ e ∧ e < 0) (c1 c2 n h1 n2 h2 R : Int) (hc1 : -e = c1) (hc2 : c1 - 1 = c2) (odd : Bool) (HR1 : Hid (∀ w, Calls Try.prog 42 #[.int .u64 0, .int .u64 m, .int .i64 (c1)] w fun e w' => e = .returned (.tuple #[.int .u64 h1, .int .u64 n, .bool true]) ∧ Below w.heap.size w w')) (HR2 : Hid (∀ w, Calls Try.prog 42 #[.int .u64 0, .int .u64 m, .int .i64 (c2)] w fun e w' => e = .returned (.tuple #[.int .u64 h2, .int .u64 n2, .bool false]) ∧ Below w.heap.size w w')) (TW : bits .and .u64 n2 1 = 1) (OD : (bits .and .u64 n 1 == 1) = odd) (bn : 0 ≤ n ∧ n < 9007199254740992) (HUP : Hid (∀ w, Calls Try.prog f #[.bool p, .bool odd, .int .i64 (1), .int .i64 (0)] w fun e w' => e = .returned (.bool true) ∧ w = w')) (HPK : Hid (PPack p 0 (n + 1) 0 false R)) (w : World) : Calls Try.prog 49 #[.int .u64 a, .func (.func f) #[] #[]] w fun e w' => e = .returned (.int .u64 (R)) ∧ Below w.heap.size w w' := by
  go_enter Try.func49, Try.ntmps49
  go_wp2_with (first
    | (go_at_call 33; (with_reducible refine (N1.out _).mono ?_); rintro e1 w1 ⟨rfl, rfl⟩)
    | (go_at_call 35; (with_reducible refine (I1.out _).mono ?_); rintro e1 w1 ⟨rfl, rfl⟩)
    | (go_at_call 36; (with_reducible refine (Z1.out _).mono ?_); rintro e1 w1 ⟨rfl, rfl⟩)
    | (go_at_call 39; (with_reducible refine (HSA.out _).mono ?_); rintro e1 w1 ⟨rfl, hb1⟩)
    | (go_at_call 42; (with_reducible refine (HR1.out _).mono ?_); rintro e2 w2 ⟨rfl, hb2⟩; obtain ⟨k0, k1, k2⟩ := one_cells hb2)
    | (go_at_call 42; (with_reducible refine (HR2.out _).mono ?_); rintro e3 w3 ⟨rfl, hb3⟩; have j0 := cell_below hb3 k0; have j1 := cell_below hb3 k1; have j2 := cell_below hb3 k2; clear k0 k1 k2)
    | (go_at_fn f; (with_reducible refine (HUP.out _).mono ?_); rintro e5 w5 ⟨rfl, rfl⟩)
    | (go_at_call 41; (with_reducible refine (HPK.out _).mono ?_); rintro e4 w4 ⟨rfl, hb4⟩))
  go_ret
  exact ⟨rfl, whole_fine hb1 hb2 hb3 hb4⟩
set_option maxRecDepth 100000 in
set_option maxHeartbeats 1000000 in
theorem whole_1110 (f : FuncId) (a : Nat) (ef : ∀ args w, (callFunc f args).run Try.prog w = .ok (.enter f args) w) (N1 : Hid (PB 33 a false)) (I1 : Hid (PB 35 a false)) (Z1 : Hid (PB 36 a false)) (p : Bool) (m e : Int) (HSA : Hid (PSplit a p m e)) (he : -1074 ≤ e ∧ e < 0) (c1 c2 n h1 n2 h2 R : Int) (hc1 : -e = c1) (hc2 : c1 - 1 = c2) (odd : Bool) (HR1 : Hid (∀ w, Calls Try.prog 42 #[.int .u64 0, .int .u64 m, .int .i64 (c1)] w fun e w' => e = .returned (.tuple #[.int .u64 h1, .int .u64 n, .bool true]) ∧ Below w.heap.size w w')) (HR2 : Hid (∀ w, Calls Try.prog 42 #[.int .u64 0, .int .u64 m, .int .i64 (c2)] w fun e w' => e = .returned (.tuple #[.int .u64 h2, .int .u64 n2, .bool true]) ∧ Below w.heap.size w w')) (TW : bits .and .u64 n2 1 = 1) (OD : (bits .and .u64 n 1 == 1) = odd) (bn : 0 ≤ n ∧ n < 9007199254740992) (HUP : Hid (∀ w, Calls Try.prog f #[.bool p, .bool odd, .int .i64 (1), .int .i64 (1)] w fun e w' => e = .returned (.bool false) ∧ w = w')) (HPK : Hid (PPack p 0 (n) 0 false R)) (w : World) : Calls Try.prog 49 #[.int .u64 a, .func (.func f) #[] #[]] w fun e w' => e = .returned (.int .u64 (R)) ∧ Below w.heap.size w w' := by
  go_enter Try.func49, Try.ntmps49
  go_wp2_with (first
    | (go_at_call 33; (with_reducible refine (N1.out _).mono ?_); rintro e1 w1 ⟨rfl, rfl⟩)
    | (go_at_call 35; (with_reducible refine (I1.out _).mono ?_); rintro e1 w1 ⟨rfl, rfl⟩)
    | (go_at_call 36; (with_reducible refine (Z1.out _).mono ?_); rintro e1 w1 ⟨rfl, rfl⟩)
    | (go_at_call 39; (with_reducible refine (HSA.out _).mono ?_); rintro e1 w1 ⟨rfl, hb1⟩)
    | (go_at_call 42; (with_reducible refine (HR1.out _).mono ?_); rintro e2 w2 ⟨rfl, hb2⟩; obtain ⟨k0, k1, k2⟩ := one_cells hb2)
    | (go_at_call 42; (with_reducible refine (HR2.out _).mono ?_); rintro e3 w3 ⟨rfl, hb3⟩; have j0 := cell_below hb3 k0; have j1 := cell_below hb3 k1; have j2 := cell_below hb3 k2; clear k0 k1 k2)
    | (go_at_fn f; (with_reducible refine (HUP.out _).mono ?_); rintro e5 w5 ⟨rfl, rfl⟩)
    | (go_at_call 41; (with_reducible refine (HPK.out _).mono ?_); rintro e4 w4 ⟨rfl, hb4⟩))
  go_ret
  exact ⟨rfl, whole_fine hb1 hb2 hb3 hb4⟩
set_option maxRecDepth 100000 in
set_option maxHeartbeats 1000000 in
theorem whole_1111 (f : FuncId) (a : Nat) (ef : ∀ args w, (callFunc f args).run Try.prog w = .ok (.enter f args) w) (N1 : Hid (PB 33 a false)) (I1 : Hid (PB 35 a false)) (Z1 : Hid (PB 36 a false)) (p : Bool) (m e : Int) (HSA : Hid (PSplit a p m e)) (he : -1074 ≤ e ∧ e < 0) (c1 c2 n h1 n2 h2 R : Int) (hc1 : -e = c1) (hc2 : c1 - 1 = c2) (odd : Bool) (HR1 : Hid (∀ w, Calls Try.prog 42 #[.int .u64 0, .int .u64 m, .int .i64 (c1)] w fun e w' => e = .returned (.tuple #[.int .u64 h1, .int .u64 n, .bool true]) ∧ Below w.heap.size w w')) (HR2 : Hid (∀ w, Calls Try.prog 42 #[.int .u64 0, .int .u64 m, .int .i64 (c2)] w fun e w' => e = .returned (.tuple #[.int .u64 h2, .int .u64 n2, .bool true]) ∧ Below w.heap.size w w')) (TW : bits .and .u64 n2 1 = 1) (OD : (bits .and .u64 n 1 == 1) = odd) (bn : 0 ≤ n ∧ n < 9007199254740992) (HUP : Hid (∀ w, Calls Try.prog f #[.bool p, .bool odd, .int .i64 (1), .int .i64 (1)] w fun e w' => e = .returned (.bool true) ∧ w = w')) (HPK : Hid (PPack p 0 (n + 1) 0 false R)) (w : World) : Calls Try.prog 49 #[.int .u64 a, .func (.func f) #[] #[]] w fun e w' => e = .returned (.int .u64 (R)) ∧ Below w.heap.size w w' := by
  go_enter Try.func49, Try.ntmps49
  go_wp2_with (first
    | (go_at_call 33; (with_reducible refine (N1.out _).mono ?_); rintro e1 w1 ⟨rfl, rfl⟩)
    | (go_at_call 35; (with_reducible refine (I1.out _).mono ?_); rintro e1 w1 ⟨rfl, rfl⟩)
    | (go_at_call 36; (with_reducible refine (Z1.out _).mono ?_); rintro e1 w1 ⟨rfl, rfl⟩)
    | (go_at_call 39; (with_reducible refine (HSA.out _).mono ?_); rintro e1 w1 ⟨rfl, hb1⟩)
    | (go_at_call 42; (with_reducible refine (HR1.out _).mono ?_); rintro e2 w2 ⟨rfl, hb2⟩; obtain ⟨k0, k1, k2⟩ := one_cells hb2)
    | (go_at_call 42; (with_reducible refine (HR2.out _).mono ?_); rintro e3 w3 ⟨rfl, hb3⟩; have j0 := cell_below hb3 k0; have j1 := cell_below hb3 k1; have j2 := cell_below hb3 k2; clear k0 k1 k2)
    | (go_at_fn f; (with_reducible refine (HUP.out _).mono ?_); rintro e5 w5 ⟨rfl, rfl⟩)
    | (go_at_call 41; (with_reducible refine (HPK.out _).mono ?_); rintro e4 w4 ⟨rfl, hb4⟩))
  go_ret
  exact ⟨rfl, whole_fine hb1 hb2 hb3 hb4⟩
def upR (p odd : Bool) (lost half : Int) : Bool := decide (0 < half) || (decide (half = 0) && odd)
def upT (p odd : Bool) (lost half : Int) : Bool := false
def lostZ (m c : Nat) : Int := if m % 2 ^ c ≠ 0 then 1 else 0
def halfZ (m d : Nat) : Int := if m / 2 ^ d % 2 = 1 then (if m % 2 ^ d ≠ 0 then 1 else 0) else -1
def UpIs (how : Nat) (U : Bool → Bool → Int → Int → Bool) : Prop := ∀ (p : Bool) (m d : Nat), wq how p m (d + 1) = m / 2 ^ (d + 1) + (if U p (decide (m / 2 ^ (d + 1) % 2 = 1)) (lostZ m (d + 1)) (halfZ m d) = true then 1 else 0)
theorem up_trunc : UpIs 0 upT := by
  intro p m d
  unfold wq upT
  rw [if_neg (by decide), if_neg (fun h => absurd h.1 (by decide)), if_neg Bool.false_ne_true]; rfl
theorem up_rnd : UpIs 2 upR := by
  intro p m d
  unfold wq upR halfZ
  rw [if_pos rfl, rne_half]
  by_cases h1 : m / 2 ^ d % 2 = 1
  · by_cases h2 : m % 2 ^ d = 0
    · by_cases h3 : m / 2 ^ (d + 1) % 2 = 1 <;> simp [h1, h2, h3]
    · simp [h1, h2]
  · simp [h1]
set_option maxHeartbeats 1000000 in
theorem whole_c (f : FuncId) (ef : ∀ args w, (callFunc f args).run Try.prog w = .ok (.enter f args) w) (how : Nat) (U : Bool → Bool → Int → Int → Bool) (hU : UpIs how U) (HU : ∀ (p odd : Bool) (lost half : Int) (w : World), Calls Try.prog f #[.bool p, .bool odd, .int .i64 lost, .int .i64 half] w fun e w' => e = .returned (.bool (U p odd lost half)) ∧ w = w') (a : Nat) (ha : W a) (w : World) :
    Calls Try.prog 49 #[.int .u64 a, .func (.func f) #[] #[]] w fun e w' => e = .returned (.int .u64 ((wholeV how a : Nat) : Int)) ∧ Below w.heap.size w w' := by
  have N1 := Lib.hid (isnan_c a ha)
  have I1 := Lib.hid (isinf_c a ha)
  have Z1 := Lib.hid (iszero_c a ha)
  by_cases n1 : nan a = true
  · rw [show wholeV how a = NaN by simp [wholeV, n1]]; rw [n1] at N1; exact whole_n1 f a N1 w
  have n1 := Bool.eq_false_iff.2 n1; rw [n1] at N1
  by_cases i1 : inf a = true
  · rw [show wholeV how a = a by simp [wholeV, n1, i1]]; rw [i1] at I1; exact whole_i1 f a N1 I1 w
  have i1 := Bool.eq_false_iff.2 i1; rw [i1] at I1
  by_cases z1 : zer a = true
  · rw [show wholeV how a = a by simp [wholeV, n1, i1, z1]]; rw [z1] at Z1; exact whole_z1 f a N1 I1 Z1 w
  have z1 := Bool.eq_false_iff.2 z1; rw [z1] at Z1
  have HSA := Lib.hid (split_c a ha)
  by_cases he : 0 ≤ se a
  · rw [show wholeV how a = a by simp [wholeV, n1, i1, z1, he]]; exact whole_e f a N1 I1 Z1 _ _ _ HSA he w
  have ba : -1074 ≤ se a ∧ se a < 0 := ⟨se_ge a, by omega⟩
  obtain ⟨d, hd⟩ : ∃ d : Nat, -se a = ((d + 1 : Nat) : Int) := ⟨(-se a - 1).toNat, by omega⟩
  have hd2 : (((d + 1 : Nat) : Int)) - 1 = (d : Int) := by omega
  have hv : wholeV how a = sg (ng a) (pat (wq how (ng a) (sm a) (d + 1)) 0 false) := by
    unfold wholeV
    rw [if_neg (by rw [n1]; decide), if_neg (by rw [i1, z1]; decide), if_neg he, hd, Int.toNat_natCast]
  rw [hv, hU]
  have lm := sm_lt a
  have WM : W (sm a) := W_of (by omega)
  have R1 := right_c 0 (sm a) (d + 1) (W_of (by decide)) WM
  have R2 := right_c 0 (sm a) d (W_of (by decide)) WM
  have q1 : sm a / 2 ^ (d + 1) ≤ sm a := Nat.div_le_self _ _
  have q2 : sm a / 2 ^ d ≤ sm a := Nat.div_le_self _ _
  have e1 : RightV 0 (sm a) (d + 1) = .tuple #[.int .u64 (rH 0 (sm a) (d + 1) : Int), .int .u64 ((sm a / 2 ^ (d + 1) : Nat) : Int), .bool (decide (sm a % 2 ^ (d + 1) ≠ 0))] := by
    unfold RightV rL rT
    rw [two_lo, Nat.mod_eq_of_lt (Nat.lt_of_le_of_lt q1 (by omega))]
  have e2 : RightV 0 (sm a) d = .tuple #[.int .u64 (rH 0 (sm a) d : Int), .int .u64 ((sm a / 2 ^ d : Nat) : Int), .bool (decide (sm a % 2 ^ d ≠ 0))] := by
    unfold RightV rL rT
    rw [two_lo, Nat.mod_eq_of_lt (Nat.lt_of_le_of_lt q2 (by omega))]
  rw [e1] at R1
  rw [e2] at R2
  have OD := half_bit (l := sm a / 2 ^ (d + 1)) (W_of (by omega))
  have TW := band_one (a := sm a / 2 ^ d) (W_of (by omega))
  have HUP := HU (ng a) (decide (sm a / 2 ^ (d + 1) % 2 = 1)) (lostZ (sm a) (d + 1)) (halfZ (sm a) d)
  obtain ⟨u, hu⟩ : ∃ u, U (ng a) (decide (sm a / 2 ^ (d + 1) % 2 = 1)) (lostZ (sm a) (d + 1)) (halfZ (sm a) d) = u := ⟨_, rfl⟩
  rw [hu] at HUP ⊢
  obtain ⟨t, ht⟩ : ∃ t, decide (sm a % 2 ^ (d + 1) ≠ 0) = t := ⟨_, rfl⟩
  obtain ⟨mo, hmo⟩ : ∃ mo, decide (sm a % 2 ^ d ≠ 0) = mo := ⟨_, rfl⟩
  obtain ⟨b, hb⟩ : ∃ b, sm a / 2 ^ d % 2 = b := ⟨_, rfl⟩
  have b01 : b = 0 ∨ b = 1 := by omega
  have hl : lostZ (sm a) (d + 1) = if t = true then 1 else 0 := by unfold lostZ; rw [← ht]; simp only [decide_eq_true_eq]
  have hh : halfZ (sm a) d = if b = 1 then (if mo = true then 1 else 0) else -1 := by unfold halfZ; rw [← hmo, hb]; simp only [decide_eq_true_eq]
  rw [hl, hh] at HUP
  rw [ht] at R1
  rw [hmo] at R2
  rw [hb] at TW
  have HK := fun x (hx : x ≤ sm a + 1) => pack_c (ng a) 0 x 0 false (W_of (by decide)) (W_of (by omega))
  have K0 := HK (sm a / 2 ^ (d + 1)) (by omega)
  have K1 := HK (sm a / 2 ^ (d + 1) + 1) (by omega)
  rw [two_lo] at K0 K1
  rw [show ((sm a / 2 ^ (d + 1) + 1 : Nat) : Int) = ((sm a / 2 ^ (d + 1) : Nat) : Int) + 1 from Int.natCast_add _ 1] at K1
  have K0 := Lib.hid K0
  have K1 := Lib.hid K1
  have HR1 := Lib.hid R1
  have HR2 := Lib.hid R2
  have HUP := Lib.hid HUP
  have bn : (0 : Int) ≤ ((sm a / 2 ^ (d + 1) : Nat) : Int) ∧ ((sm a / 2 ^ (d + 1) : Nat) : Int) < 9007199254740992 := ⟨Int.natCast_nonneg _, Int.ofNat_lt.2 (Nat.lt_of_le_of_lt q1 lm)⟩
  clear HK hl hh ht hmo hu hv e1 e2 R1 R2 q1 q2 hb
  cases u
  · cases t
    · rcases b01 with rfl | rfl
      · exact whole_0000 f a ef N1 I1 Z1 _ _ _ HSA ba _ _ _ _ _ _ _ hd hd2 _ mo HR1 HR2 TW OD bn HUP K0 w
      · cases mo
        · exact whole_0100 f a ef N1 I1 Z1 _ _ _ HSA ba _ _ _ _ _ _ _ hd hd2 _ HR1 HR2 TW OD bn HUP K0 w
        · exact whole_0110 f a ef N1 I1 Z1 _ _ _ HSA ba _ _ _ _ _ _ _ hd hd2 _ HR1 HR2 TW OD bn HUP K0 w
    · rcases b01 with rfl | rfl
      · exact whole_1000 f a ef N1 I1 Z1 _ _ _ HSA ba _ _ _ _ _ _ _ hd hd2 _ mo HR1 HR2 TW OD bn HUP K0 w
      · cases mo
        · exact whole_1100 f a ef N1 I1 Z1 _ _ _ HSA ba _ _ _ _ _ _ _ hd hd2 _ HR1 HR2 TW OD bn HUP K0 w
        · exact whole_1110 f a ef N1 I1 Z1 _ _ _ HSA ba _ _ _ _ _ _ _ hd hd2 _ HR1 HR2 TW OD bn HUP K0 w
  · cases t
    · rcases b01 with rfl | rfl
      · exact whole_0001 f a ef N1 I1 Z1 _ _ _ HSA ba _ _ _ _ _ _ _ hd hd2 _ mo HR1 HR2 TW OD bn HUP K1 w
      · cases mo
        · exact whole_0101 f a ef N1 I1 Z1 _ _ _ HSA ba _ _ _ _ _ _ _ hd hd2 _ HR1 HR2 TW OD bn HUP K1 w
        · exact whole_0111 f a ef N1 I1 Z1 _ _ _ HSA ba _ _ _ _ _ _ _ hd hd2 _ HR1 HR2 TW OD bn HUP K1 w
    · rcases b01 with rfl | rfl
      · exact whole_1001 f a ef N1 I1 Z1 _ _ _ HSA ba _ _ _ _ _ _ _ hd hd2 _ mo HR1 HR2 TW OD bn HUP K1 w
      · cases mo
        · exact whole_1101 f a ef N1 I1 Z1 _ _ _ HSA ba _ _ _ _ _ _ _ hd hd2 _ HR1 HR2 TW OD bn HUP K1 w
        · exact whole_1111 f a ef N1 I1 Z1 _ _ _ HSA ba _ _ _ _ _ _ _ hd hd2 _ HR1 HR2 TW OD bn HUP K1 w
theorem rnd_up (p odd : Bool) (lost half : Int) (w : World) : Calls Try.prog 50 #[.bool p, .bool odd, .int .i64 lost, .int .i64 half] w fun e w' => e = .returned (.bool (upR p odd lost half)) ∧ w = w' := by
  by_cases h : 0 < half
  · go_enter Try.func50, Try.ntmps50; go_wp2; go_ret; exact ⟨by simp [upR, *], rfl⟩
  · by_cases g : half = 0
    · cases odd <;> (go_enter Try.func50, Try.ntmps50; go_wp2; go_ret; exact ⟨by simp [upR, *], rfl⟩)
    · go_enter Try.func50, Try.ntmps50; go_wp2; go_ret; exact ⟨by simp [upR, *], rfl⟩
theorem rnd_c (a : Nat) (ha : W a) (w : World) : Calls Try.prog 27 #[.int .u64 a] w fun e w' => e = .returned (.int .u64 ((wholeV 2 a : Nat) : Int)) ∧ Below w.heap.size w w' := by
  have HW := Lib.hid (whole_c 50 (enters_of Try.func50 (by kernel_rfl) rfl) 2 upR up_rnd rnd_up a ha)
  go_enter Try.func27, Try.ntmps27
  go_wp2_with (first
    | (go_at_call 49; (with_reducible refine (HW.out _).mono ?_); rintro e1 w1 ⟨rfl, hb1⟩))
  go_ret
  exact ⟨rfl, hb1⟩
theorem trunc_up (p odd : Bool) (lost half : Int) (w : World) : Calls Try.prog 66 #[.bool p, .bool odd, .int .i64 lost, .int .i64 half] w fun e w' => e = .returned (.bool (upT p odd lost half)) ∧ w = w' := by
  go_enter Try.func66, Try.ntmps66; go_wp2; go_ret; exact ⟨by simp [upT, *], rfl⟩
theorem trunc_c (a : Nat) (ha : W a) (w : World) : Calls Try.prog 56 #[.int .u64 a] w fun e w' => e = .returned (.int .u64 ((wholeV 0 a : Nat) : Int)) ∧ Below w.heap.size w w' := by
  have HW := Lib.hid (whole_c 66 (enters_of Try.func66 (by kernel_rfl) rfl) 0 upT up_trunc trunc_up a ha)
  go_enter Try.func56, Try.ntmps56
  go_wp2_with (first
    | (go_at_call 49; (with_reducible refine (HW.out _).mono ?_); rintro e1 w1 ⟨rfl, hb1⟩))
  go_ret
  exact ⟨rfl, hb1⟩
end Go.Proofs.Ytkifdppppihjcaa

namespace Go.Proofs.Ytkifdppppihjcaa
set_option linter.unusedVariables false
set_option linter.unusedSimpArgs false
open Go.RowKit Go.Shelf SF
theorem packI_nat (n : Nat) (e : Int) : packI (n : Int) e = sg false (pat n e false) := by
  by_cases h : n = 0
  · subst h; unfold packI pat; rw [if_pos (by rfl), patG_zero, sg_false]
  · exact packI_pos e h
theorem neg_sum {x y : Nat} (h : x + y = 340282366920938463463374607431768211456) (hy : y < 340282366920938463463374607431768211456) : x ≠ 0 := by omega
set_option maxHeartbeats 1000000 in
theorem from_pos (lo hi l h R : Int) (hn : ¬ hi < 0) (HL : IntKind.u64.wrap lo = l) (HH : IntKind.u64.wrap hi = h) (HPK : Hid (PPack false h l 0 false R)) (w : World) : Calls Try.prog 47 #[.int .i64 lo, .int .i64 hi] w fun e w' => e = .returned (.int .u64 R) ∧ Below w.heap.size w w' := by
  go_enter Try.func47, Try.ntmps47
  go_wp2_with (first
    | (go_at_call 41; (with_reducible refine (HPK.out _).mono ?_); rintro e4 w4 ⟨rfl, hb4⟩))
  go_ret
  exact ⟨rfl, hb4⟩
set_option maxHeartbeats 1000000 in
theorem from_neg (lo hi l h l2 b h2 b2 R : Int) (hn : hi < 0) (HL : IntKind.u64.wrap lo = l) (HH : IntKind.u64.wrap hi = h)
    (C1 : ∀ w, (callFunc 44 #[.int .u64 0, .int .u64 l, .int .u64 0]).run Try.prog w = .ok (.value (.tuple #[.int .u64 l2, .int .u64 b])) w)
    (C2 : ∀ w, (callFunc 44 #[.int .u64 0, .int .u64 h, .int .u64 b]).run Try.prog w = .ok (.value (.tuple #[.int .u64 h2, .int .u64 b2])) w)
    (HPK : Hid (PPack true h2 l2 0 false R)) (w : World) : Calls Try.prog 47 #[.int .i64 lo, .int .i64 hi] w fun e w' => e = .returned (.int .u64 R) ∧ Below w.heap.size w w' := by
  go_enter Try.func47, Try.ntmps47
  go_wp2_with (first
    | (go_at_call 41; (with_reducible refine (HPK.out _).mono ?_); rintro e4 w4 ⟨rfl, hb4⟩))
  go_ret
  exact ⟨rfl, hb4⟩
/-- Two words with the sign turned. -/
theorem neg_two (H L : Nat) (hL : W L) (hH : W H) (h0 : two H L ≠ 0) : ∃ l2 b h2 : Nat, (18446744073709551616 - L) % 18446744073709551616 = l2 ∧ (if 0 < L then 1 else 0) = b ∧ (18446744073709551616 - H - b) % 18446744073709551616 = h2 ∧ W l2 ∧ W h2 ∧ b ≤ 1 ∧ two h2 l2 + two H L = 340282366920938463463374607431768211456 := by
  unfold two W at *
  by_cases c : 0 < L
  · refine ⟨18446744073709551616 - L, 1, 18446744073709551616 - H - 1, ?_, if_pos c, ?_, ?_⟩ <;> omega
  · have : L = 0 := by omega
    subst this
    refine ⟨0, 0, 18446744073709551616 - H, ?_, if_neg c, ?_, ?_⟩ <;> omega
theorem neg_walk (H L : Nat) (hL : W L) (hH : W H) (h0 : two H L ≠ 0) : ∃ l2 b h2 b2 : Nat, W l2 ∧ W h2 ∧ two h2 l2 + two H L = 340282366920938463463374607431768211456 ∧
    (∀ w, (callFunc 44 #[.int .u64 0, .int .u64 (L : Int), .int .u64 0]).run Try.prog w = .ok (.value (.tuple #[.int .u64 (l2 : Int), .int .u64 (b : Int)])) w) ∧
    (∀ w, (callFunc 44 #[.int .u64 0, .int .u64 (H : Int), .int .u64 (b : Int)]).run Try.prog w = .ok (.value (.tuple #[.int .u64 (h2 : Int), .int .u64 (b2 : Int)])) w) := by
  obtain ⟨l2, b, h2, e1, e2, e3, w1, w2, b1, s⟩ := neg_two H L hL hH h0
  refine ⟨l2, b, h2, (if 0 < H + b then 1 else 0), w1, w2, s, ?_, ?_⟩
  · intro w
    have := sub64 0 L 0 (by decide) w
    rw [Nat.zero_add, Nat.add_zero, Nat.sub_zero, e1, e2] at this
    exact this
  · intro w
    have := sub64 0 H b b1 w
    rw [Nat.zero_add, e3] at this
    exact this
theorem from_c (lo hi : Int) (h1 : -9223372036854775808 ≤ hi) (h2 : hi ≤ 9223372036854775807) (w : World) : Calls Try.prog 47 #[.int .i64 lo, .int .i64 hi] w fun e w' => e = .returned (.int .u64 ((fromV lo hi : Nat) : Int)) ∧ Below w.heap.size w w' := by
  obtain ⟨L, hL⟩ : ∃ L : Nat, lo % 18446744073709551616 = (L : Int) := ⟨(lo % 18446744073709551616).toNat, by omega⟩
  obtain ⟨H, hH⟩ : ∃ H : Nat, hi % 18446744073709551616 = (H : Int) := ⟨(hi % 18446744073709551616).toNat, by omega⟩
  have WL : W L := by unfold W; omega
  have WH : W H := by unfold W; omega
  have eL : IntKind.u64.wrap lo = (L : Int) := by rw [IntKind.wrap_u64]; exact hL
  have eH : IntKind.u64.wrap hi = (H : Int) := by rw [IntKind.wrap_u64]; exact hH
  unfold fromV dI
  by_cases hn : hi < 0
  · have n0 : two H L ≠ 0 := by unfold two; omega
    obtain ⟨l2, b, h2, b2, w1, w2, s, C1, C2⟩ := neg_walk H L WL WH n0
    have e : lo % 18446744073709551616 + hi * 18446744073709551616 = -((two h2 l2 : Nat) : Int) := by unfold two at *; omega
    have m0 : two h2 l2 ≠ 0 := neg_sum s (two_lt WH WL)
    rw [e, packI_neg 0 m0]
    exact from_neg lo hi L H l2 b h2 b2 _ hn eL eH C1 C2 (Lib.hid (pack_c true h2 l2 0 false w2 w1)) w
  · have e : lo % 18446744073709551616 + hi * 18446744073709551616 = ((two H L : Nat) : Int) := by unfold two at *; omega
    rw [e, packI_nat]
    exact from_pos lo hi L H _ hn eL eH (Lib.hid (pack_c false H L 0 false WH WL)) w
end Go.Proofs.Ytkifdppppihjcaa
