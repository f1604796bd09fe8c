/- The laws' walks. -/
import Derived.Test.YtkifdppppihjcaaGreatKH
import Derived.Test.YtkifdppppihjcaaGreatKY
namespace Go.Proofs.YtkifdppppihjcaaGreat
set_option linter.unusedVariables false
set_option linter.unusedSimpArgs false
open Go.RowKit Go.Shelf Go.ChangeShapes Go.WideShapes SF

/-- A word, as the row hands it in. -/
theorem word5_of {x : Int} (h : (Lit.int .u64 x).wf = true) : ∃ a : Nat, x = (a : Int) ∧ W a := by
  have : 0 ≤ x ∧ x < 18446744073709551616 := by
    have e1 : IntKind.u64.min = 0 := by decide
    have e2 : IntKind.u64.max = 18446744073709551615 := by decide
    simp [Lit.wf, e1, e2] at h; omega
  exact ⟨x.toNat, by omega, by unfold W; omega⟩
set_option maxRecDepth 100000 in
set_option maxHeartbeats 1000000 in
theorem lawake_s (H0 : Hid (All 11 #[.int .u64 0] (.int .u64 4607182418800017408))) (H1 : Hid (All 13 #[.int .u64 4607182418800017408] (.int .u64 0))) (H2 : Hid (All 8 #[.int .u64 4611686018427387904, .int .u64 4621819117588971520] (.int .u64 4652218415073722368))) : All 10 #[] (.bool true) := by
  intro w
  have hk := kp_start w
  go_enter Tryz.func10, Tryz.ntmps10
  go_wp2_with (first
    | (go_at_call 11; (with_reducible refine (in_of H0.out (by assumption)).mono ?_); rintro e1 w5 ⟨rfl, hk⟩)
    | (go_at_call 13; (with_reducible refine (in_of H1.out (by assumption)).mono ?_); rintro e1 w5 ⟨rfl, hk⟩)
    | (go_at_call 8; (with_reducible refine (in_of H2.out (by assumption)).mono ?_); rintro e1 w5 ⟨rfl, hk⟩))
  go_ret
  exact ⟨rfl, Kp.b (by assumption)⟩
theorem lawake_c : All 10 #[] (.bool true) := by
  have h1 := exp_c 0 (W_of (by decide)); rw [exp_0] at h1
  have h2 := ln_c 4607182418800017408 (W_of (by decide)); rw [ln_1] at h2
  have h3 := pow_c 4611686018427387904 4621819117588971520 (W_of (by decide)) (W_of (by decide)); rw [pow_2] at h3
  exact lawake_s (Lib.hid h1) (Lib.hid h2) (Lib.hid h3)
set_option maxRecDepth 100000 in
set_option maxHeartbeats 1000000 in
theorem lraises_s {x y r0 : Int} (H0 : Hid (All 8 #[.int .u64 x, .int .u64 y] (.int .u64 r0))) (H1 : Hid (All 9 #[.int .u64 x, .int .u64 y] (.int .u64 r0))) (H2 : Hid (All 10 #[] (.bool true))) : All 3 #[.int .u64 x, .int .u64 y] (.bool true) := by
  intro w
  have hk := kp_start w
  go_enter Tryz.func3, Tryz.ntmps3
  go_wp2_with (first
    | (go_at_call 8; (with_reducible refine (in_of H0.out (by assumption)).mono ?_); rintro e1 w5 ⟨rfl, hk⟩)
    | (go_at_call 9; (with_reducible refine (in_of H1.out (by assumption)).mono ?_); rintro e1 w5 ⟨rfl, hk⟩)
    | (go_at_call 10; (with_reducible refine (in_of H2.out (by assumption)).mono ?_); rintro e1 w5 ⟨rfl, hk⟩))
  go_ret
  exact ⟨rfl, Kp.b (by assumption)⟩
theorem lraises_walk (x y : Nat) (hx : W x) (hy : W y) (w : World) : Calls Tryz.prog 3 #[.int .u64 (x : Int), .int .u64 (y : Int)] w fun e w' => e = .returned (.bool true) ∧ Below w.heap.size w w' :=
  lraises_s (Lib.hid (pow_c x y hx hy)) (Lib.hid (rpow_c x y hx hy)) (Lib.hid lawake_c) w
