/- The laws' walks. -/
import Derived.Test.YtkifdppppihjcaaGreatKH
import Derived.Test.YtkifdppppihjcaaGreatKY
namespace Go.Proofs.YtkifdppppihjcaaGreat
set_option linter.unusedVariables false
set_option linter.unusedSimpArgs false
open Go.RowKit Go.Shelf Go.ChangeShapes Go.WideShapes SF

/-- A word, as the row hands it in. -/
theorem word5_of {x : Int} (h : (Lit.int .u64 x).wf = true) : ∃ a : Nat, x = (a : Int) ∧ W a := by
  have : 0 ≤ x ∧ x < 18446744073709551616 := by
    have e1 : IntKind.u64.min = 0 := by decide
    have e2 : IntKind.u64.max = 18446744073709551615 := by decide
    simp [Lit.wf, e1, e2] at h; omega
  exact ⟨x.toNat, by omega, by unfold W; omega⟩
set_option maxRecDepth 100000 in
set_option maxHeartbeats 1000000 in
theorem lawake_s (H0 : Hid (All 11 #[.int .u64 0] (.int .u64 4607182418800017408))) (H1 : Hid (All 13 #[.int .u64 4607182418800017408] (.int .u64 0))) (H2 : Hid (All 8 #[.int .u64 4611686018427387904, .int .u64 4621819117588971520] (.int .u64 4652218415073722368))) : All 10 #[] (.bool true) := by
  intro w
  have hk := kp_start w
  go_enter Tryz.func10, Tryz.ntmps10
  go_wp2_with (first
    | (go_at_call 11; (with_reducible refine (in_of H0.out (by assumption)).mono ?_); rintro e1 w5 ⟨rfl, hk⟩)
    | (go_at_call 13; (with_reducible refine (in_of H1.out (by assumption)).mono ?_); rintro e1 w5 ⟨rfl, hk⟩)
    | (go_at_call 8; (with_reducible refine (in_of H2.out (by assumption)).mono ?_); rintro e1 w5 ⟨rfl, hk⟩))
  go_ret
  exact ⟨rfl, Kp.b (by assumption)⟩
theorem lawake_c : All 10 #[] (.bool true) := by
  have h1 := exp_c 0 (W_of (by decide)); rw [exp_0] at h1
  have h2 := ln_c 4607182418800017408 (W_of (by decide)); rw [ln_1] at h2
  have h3 := pow_c 4611686018427387904 4621819117588971520 (W_of (by decide)) (W_of (by decide)); rw [pow_2] at h3
  exact lawake_s (Lib.hid h1) (Lib.hid h2) (Lib.hid h3)
set_option maxRecDepth 100000 in
set_option maxHeartbeats 1000000 in
theorem lhyperbolas_s {x r0 r1 r2 r3 r4 r5 : Int} (H0 : Hid (All 29 #[.int .u64 x] (.int .u64 r0))) (H1 : Hid (All 30 #[.int .u64 x] (.int .u64 r0))) (H2 : Hid (All 31 #[.int .u64 x] (.int .u64 r1))) (H3 : Hid (All 32 #[.int .u64 x] (.int .u64 r1))) (H4 : Hid (All 33 #[.int .u64 x] (.int .u64 r2))) (H5 : Hid (All 34 #[.int .u64 x] (.int .u64 r2))) (H6 : Hid (All 35 #[.int .u64 x] (.int .u64 r3))) (H7 : Hid (All 36 #[.int .u64 x] (.int .u64 r3))) (H8 : Hid (All 37 #[.int .u64 x] (.int .u64 r4))) (H9 : Hid (All 38 #[.int .u64 x] (.int .u64 r4))) (H10 : Hid (All 39 #[.int .u64 x] (.int .u64 r5))) (H11 : Hid (All 40 #[.int .u64 x] (.int .u64 r5))) (H12 : Hid (All 10 #[] (.bool true))) : All 6 #[.int .u64 x] (.bool true) := by
  intro w
  have hk := kp_start w
  go_enter Tryz.func6, Tryz.ntmps6
  go_wp2_with (first
    | (go_at_call 29; (with_reducible refine (in_of H0.out (by assumption)).mono ?_); rintro e1 w5 ⟨rfl, hk⟩)
    | (go_at_call 30; (with_reducible refine (in_of H1.out (by assumption)).mono ?_); rintro e1 w5 ⟨rfl, hk⟩)
    | (go_at_call 31; (with_reducible refine (in_of H2.out (by assumption)).mono ?_); rintro e1 w5 ⟨rfl, hk⟩)
    | (go_at_call 32; (with_reducible refine (in_of H3.out (by assumption)).mono ?_); rintro e1 w5 ⟨rfl, hk⟩)
    | (go_at_call 33; (with_reducible refine (in_of H4.out (by assumption)).mono ?_); rintro e1 w5 ⟨rfl, hk⟩)
    | (go_at_call 34; (with_reducible refine (in_of H5.out (by assumption)).mono ?_); rintro e1 w5 ⟨rfl, hk⟩)
    | (go_at_call 35; (with_reducible refine (in_of H6.out (by assumption)).mono ?_); rintro e1 w5 ⟨rfl, hk⟩)
    | (go_at_call 36; (with_reducible refine (in_of H7.out (by assumption)).mono ?_); rintro e1 w5 ⟨rfl, hk⟩)
    | (go_at_call 37; (with_reducible refine (in_of H8.out (by assumption)).mono ?_); rintro e1 w5 ⟨rfl, hk⟩)
    | (go_at_call 38; (with_reducible refine (in_of H9.out (by assumption)).mono ?_); rintro e1 w5 ⟨rfl, hk⟩)
    | (go_at_call 39; (with_reducible refine (in_of H10.out (by assumption)).mono ?_); rintro e1 w5 ⟨rfl, hk⟩)
    | (go_at_call 40; (with_reducible refine (in_of H11.out (by assumption)).mono ?_); rintro e1 w5 ⟨rfl, hk⟩)
    | (go_at_call 10; (with_reducible refine (in_of H12.out (by assumption)).mono ?_); rintro e1 w5 ⟨rfl, hk⟩))
  go_ret
  exact ⟨rfl, Kp.b (by assumption)⟩
theorem lhyperbolas_walk (x : Nat) (hx : W x) (w : World) : Calls Tryz.prog 6 #[.int .u64 (x : Int)] w fun e w' => e = .returned (.bool true) ∧ Below w.heap.size w w' :=
  lhyperbolas_s (Lib.hid (sinh_c x hx)) (Lib.hid (rsinh_c x hx)) (Lib.hid (cosh_c x hx)) (Lib.hid (rcosh_c x hx)) (Lib.hid (tanh_c x hx)) (Lib.hid (rtanh_c x hx)) (Lib.hid (asinh_c x hx)) (Lib.hid (rasinh_c x hx)) (Lib.hid (acosh_c x hx)) (Lib.hid (racosh_c x hx)) (Lib.hid (atanh_c x hx)) (Lib.hid (ratanh_c x hx)) (Lib.hid lawake_c) w
