/- KernelSigns: the law's walk. -/
import Derived.Test.YtkifdppppihjcaaKS
namespace Go.Proofs.Ytkifdppppihjcaa
set_option linter.unusedVariables false
set_option linter.unusedSimpArgs false
open Go.RowKit Go.Shelf Go.ChangeShapes Go.WideShapes SF

/-- A word, as the row hands it in. -/
theorem word5_of {x : Int} (h : (Lit.int .u64 x).wf = true) : ∃ a : Nat, x = (a : Int) ∧ W a := by
  have : 0 ≤ x ∧ x < 18446744073709551616 := by
    have e1 : IntKind.u64.min = 0 := by decide
    have e2 : IntKind.u64.max = 18446744073709551615 := by decide
    simp [Lit.wf, e1, e2] at h; omega
  exact ⟨x.toNat, by omega, by unfold W; omega⟩
set_option maxRecDepth 100000 in
set_option maxHeartbeats 1000000 in
theorem lawake_s (H0 : Hid (All 5 #[.int .u64 0] (.int .u64 4607182418800017408))) (H1 : Hid (All 31 #[.int .u64 4607182418800017408] (.int .u64 0))) (H2 : Hid (All 32 #[.int .u64 4611686018427387904, .int .u64 4621819117588971520] (.int .u64 4652218415073722368))) : All 7 #[] (.bool true) := by
  intro w
  have hk := kp_start w
  go_enter Try.func7, Try.ntmps7
  go_wp2_with (first
    | (go_at_call 5; (with_reducible refine (in_of H0.out (by assumption)).mono ?_); rintro e1 w5 ⟨rfl, hk⟩)
    | (go_at_call 31; (with_reducible refine (in_of H1.out (by assumption)).mono ?_); rintro e1 w5 ⟨rfl, hk⟩)
    | (go_at_call 32; (with_reducible refine (in_of H2.out (by assumption)).mono ?_); rintro e1 w5 ⟨rfl, hk⟩))
  go_ret
  exact ⟨rfl, Kp.b (by assumption)⟩
theorem lawake_c : All 7 #[] (.bool true) := by
  have h1 := exp_c 0 (W_of (by decide)); rw [exp_0] at h1
  have h2 := ln_c 4607182418800017408 (W_of (by decide)); rw [ln_1] at h2
  have h3 := pow_c 4611686018427387904 4621819117588971520 (W_of (by decide)) (W_of (by decide)); rw [pow_2] at h3
  exact lawake_s (Lib.hid h1) (Lib.hid h2) (Lib.hid h3)
set_option maxRecDepth 100000 in
set_option maxHeartbeats 1000000 in
theorem lsigns_n {x : Int} (hx : 9218868437227405312 < bits .andNot .u64 x 9223372036854775808) (H0 : Hid (All 4 #[.int .u64 x] (.int .u64 9221120237041090560))) (H1 : Hid (All 5 #[.int .u64 x] (.int .u64 9221120237041090560))) (H2 : Hid (All 6 #[.int .u64 x] (.int .u64 9221120237041090560))) (H3 : Hid (All 7 #[] (.bool true))) : All 3 #[.int .u64 x] (.bool true) := by
  intro w
  have hk := kp_start w
  go_enter Try.func3, Try.ntmps3
  go_wp2_with (first
    | (go_at_call 4; (with_reducible refine (in_of H0.out (by assumption)).mono ?_); rintro e1 w5 ⟨rfl, hk⟩)
    | (go_at_call 5; (with_reducible refine (in_of H1.out (by assumption)).mono ?_); rintro e1 w5 ⟨rfl, hk⟩)
    | (go_at_call 6; (with_reducible refine (in_of H2.out (by assumption)).mono ?_); rintro e1 w5 ⟨rfl, hk⟩)
    | (go_at_call 7; (with_reducible refine (in_of H3.out (by assumption)).mono ?_); rintro e1 w5 ⟨rfl, hk⟩))
  go_ret
  exact ⟨rfl, Kp.b (by assumption)⟩
set_option maxRecDepth 100000 in
set_option maxHeartbeats 1000000 in
theorem lsigns_f {x n b0 a0 b1 a1 b2 a2 c : Int} (hx : bits .andNot .u64 x 9223372036854775808 ≤ 9218868437227405312) (H0 : Hid (All 8 #[.int .u64 x] (.int .u64 n))) (H1 : Hid (All 4 #[.int .u64 n] (.int .u64 b0))) (H2 : Hid (All 4 #[.int .u64 x] (.int .u64 a0))) (H3 : Hid (All 8 #[.int .u64 a0] (.int .u64 b0))) (H4 : Hid (All 9 #[.int .u64 n] (.int .u64 b1))) (H5 : Hid (All 9 #[.int .u64 x] (.int .u64 a1))) (H6 : Hid (All 8 #[.int .u64 a1] (.int .u64 b1))) (H7 : Hid (All 10 #[.int .u64 n] (.int .u64 b2))) (H8 : Hid (All 10 #[.int .u64 x] (.int .u64 a2))) (H9 : Hid (All 8 #[.int .u64 a2] (.int .u64 b2))) (H10 : Hid (All 6 #[.int .u64 n] (.int .u64 c))) (H11 : Hid (All 6 #[.int .u64 x] (.int .u64 c))) (H12 : Hid (All 7 #[] (.bool true))) : All 3 #[.int .u64 x] (.bool true) := by
  intro w
  have hk := kp_start w
  go_enter Try.func3, Try.ntmps3
  go_wp2_with (first
    | (go_at_call 8; (with_reducible refine (in_of H0.out (by assumption)).mono ?_); rintro e1 w5 ⟨rfl, hk⟩)
    | (go_at_call 4; (with_reducible refine (in_of H1.out (by assumption)).mono ?_); rintro e1 w5 ⟨rfl, hk⟩)
    | (go_at_call 4; (with_reducible refine (in_of H2.out (by assumption)).mono ?_); rintro e1 w5 ⟨rfl, hk⟩)
    | (go_at_call 8; (with_reducible refine (in_of H3.out (by assumption)).mono ?_); rintro e1 w5 ⟨rfl, hk⟩)
    | (go_at_call 9; (with_reducible refine (in_of H4.out (by assumption)).mono ?_); rintro e1 w5 ⟨rfl, hk⟩)
    | (go_at_call 9; (with_reducible refine (in_of H5.out (by assumption)).mono ?_); rintro e1 w5 ⟨rfl, hk⟩)
    | (go_at_call 8; (with_reducible refine (in_of H6.out (by assumption)).mono ?_); rintro e1 w5 ⟨rfl, hk⟩)
    | (go_at_call 10; (with_reducible refine (in_of H7.out (by assumption)).mono ?_); rintro e1 w5 ⟨rfl, hk⟩)
    | (go_at_call 10; (with_reducible refine (in_of H8.out (by assumption)).mono ?_); rintro e1 w5 ⟨rfl, hk⟩)
    | (go_at_call 8; (with_reducible refine (in_of H9.out (by assumption)).mono ?_); rintro e1 w5 ⟨rfl, hk⟩)
    | (go_at_call 6; (with_reducible refine (in_of H10.out (by assumption)).mono ?_); rintro e1 w5 ⟨rfl, hk⟩)
    | (go_at_call 6; (with_reducible refine (in_of H11.out (by assumption)).mono ?_); rintro e1 w5 ⟨rfl, hk⟩)
    | (go_at_call 7; (with_reducible refine (in_of H12.out (by assumption)).mono ?_); rintro e1 w5 ⟨rfl, hk⟩))
  go_ret
  exact ⟨rfl, Kp.b (by assumption)⟩
theorem W_asinhV {x : Nat} (hx : W x) : W (asinhV x) := by
  unfold asinhV asinhF
  split
  · exact W_negV (W_negV hx)
  · split
    · exact W_negV (W_negV hx)
    · exact W_signedV (W_lnV (W_addV (W_absV hx) (W_sqrtV (W_addV (W_mulV _ _) W_One))))
theorem lsigns_walk (x : Nat) (hx : W x) (w : World) : Calls Try.prog 3 #[.int .u64 (x : Int)] w fun e w' => e = .returned (.bool true) ∧ Below w.heap.size w w' := by
  by_cases h : nan x = true
  · have b : 9218868437227405312 < bits .andNot .u64 (x : Int) 9223372036854775808 := by
      rw [bandnot_sign hx]; unfold nan at h; have := of_decide_eq_true h; omega
    have h1 := atan_c x hx; rw [atan_nan h] at h1
    have h2 := exp_c x hx; rw [exp_nan h] at h2
    have h3 := cosh_c x hx; rw [cosh_nan h] at h3
    exact lsigns_n b (Lib.hid h1) (Lib.hid h2) (Lib.hid h3) (Lib.hid lawake_c) w
  · have h := Bool.eq_false_iff.2 h
    have b : bits .andNot .u64 (x : Int) 9223372036854775808 ≤ 9218868437227405312 := by
      rw [bandnot_sign hx]; unfold nan at h; have := of_decide_eq_false h; omega
    have wn : W (negV x) := W_negV hx
    have n0 := all_of (neg_c x hx)
    have a1 := atan_c (negV x) wn; rw [atan_neg hx h (W_subV W_HalfPi W_atT) W_atT] at a1
    have a2 := atan_c x hx
    have a3 := all_of (neg_c (atanV x) (W_atanV hx))
    have b1 := asin_c (negV x) wn; rw [asin_neg hx h (fun _ => W_subV W_HalfPi W_atT) (fun _ => W_atT) (fun _ _ => W_divV)] at b1
    have b2 := asin_c x hx
    have b3 := all_of (neg_c (asinV x) W_asinV)
    have c1 := asinh_c (negV x) wn; rw [asinh_neg hx h (fun _ => W_lnV) (W_addV (W_absV hx) (W_sqrtV (W_addV (W_mulV _ _) W_One)))] at c1
    have c2 := asinh_c x hx
    have c3 := all_of (neg_c (asinhV x) (W_asinhV hx))
    have d1 := cosh_c (negV x) wn; rw [cosh_neg hx h] at d1
    have d2 := cosh_c x hx
    exact lsigns_f b (Lib.hid n0) (Lib.hid a1) (Lib.hid a2) (Lib.hid a3) (Lib.hid b1) (Lib.hid b2) (Lib.hid b3) (Lib.hid c1) (Lib.hid c2) (Lib.hid c3) (Lib.hid d1) (Lib.hid d2) (Lib.hid lawake_c) w
