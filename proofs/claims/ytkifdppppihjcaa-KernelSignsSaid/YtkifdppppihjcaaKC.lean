/- Texts KC, for this seat. -/
import Derived.Test.YtkifdppppihjcaaKB
namespace Go.Proofs.Ytkifdppppihjcaa
set_option linter.unusedVariables false
set_option linter.unusedSimpArgs false
open Go.RowKit Go.Shelf Go.ChangeShapes Go.WideShapes SF

set_option maxRecDepth 100000 in
set_option maxHeartbeats 1000000 in
theorem exp1_s {i p o r d m q : Int} (ad : Addr) (H0 : Hid (All 25 #[.int .i64 i] (.int .u64 o))) (H1 : Hid (All 17 #[.int .u64 r, .int .u64 o] (.int .u64 d))) (H2 : Hid (All 20 #[.int .u64 d, .int .u64 p] (.int .u64 m))) (H3 : Hid (All 18 #[.int .u64 4607182418800017408, .int .u64 m] (.int .u64 q))) : AllC [(ad, .int .u64 r)] 28 #[.int .i64 i, .int .u64 p, .pointer (some ad)] (.int .u64 q) := by
  intro w hw
  have hc0 : w.cell? ad = some (.int .u64 r) := hw (ad, .int .u64 r) (by simp)
  clear hw
  go_enter Try.func28, Try.ntmps28
  go_wp2
  go_region_held3 (fun w' => w'.cell? ad = some (.int .u64 r) ∧ Below w.heap.size w w')
    (first
      | exact ⟨hc0, (Below.refl _ _).drew⟩
      | (go_split_ands; exact ⟨by assumption, by assumption⟩)
      | (go_split_ands; exact ⟨cell_below hb5 (by assumption), kbt (by assumption) hb5⟩))
    (first
      | (go_at_call 25; (with_reducible refine (H0.out _).mono ?_); rintro e1 w5 ⟨rfl, hb5⟩)
      | (go_at_call 17; (with_reducible refine (H1.out _).mono ?_); rintro e1 w5 ⟨rfl, hb5⟩)
      | (go_at_call 20; (with_reducible refine (H2.out _).mono ?_); rintro e1 w5 ⟨rfl, hb5⟩)
      | (go_at_call 18; (with_reducible refine (H3.out _).mono ?_); rintro e1 w5 ⟨rfl, hb5⟩))
  go_wp2
  go_split_ands
  go_ret
  exact ⟨rfl, by assumption⟩
set_option maxRecDepth 100000 in
set_option maxHeartbeats 1000000 in
theorem exp_n {x : Int} (H0 : Hid (All 11 #[.int .u64 x] (.bool true))) : All 5 #[.int .u64 x] (.int .u64 9221120237041090560) := by
  intro w
  have hk := kp_start w
  go_enter Try.func5, Try.ntmps5
  go_wp2_with (first
    | (go_at_call 11; (with_reducible refine (in_of H0.out (by assumption)).mono ?_); rintro e1 w5 ⟨rfl, hk⟩))
  go_ret
  exact ⟨rfl, Kp.b (by assumption)⟩
set_option maxRecDepth 100000 in
set_option maxHeartbeats 1000000 in
theorem exp_hi {x c7 : Int} (H0 : Hid (All 11 #[.int .u64 x] (.bool false))) (H1 : Hid (All 25 #[.int .i64 710] (.int .u64 c7))) (H2 : Hid (All 16 #[.int .u64 x, .int .u64 c7] (.bool true))) : All 5 #[.int .u64 x] (.int .u64 9218868437227405312) := by
  intro w
  have hk := kp_start w
  go_enter Try.func5, Try.ntmps5
  go_wp2_with (first
    | (go_at_call 11; (with_reducible refine (in_of H0.out (by assumption)).mono ?_); rintro e1 w5 ⟨rfl, hk⟩)
    | (go_at_call 25; (with_reducible refine (in_of H1.out (by assumption)).mono ?_); rintro e1 w5 ⟨rfl, hk⟩)
    | (go_at_call 16; (with_reducible refine (in_of H2.out (by assumption)).mono ?_); rintro e1 w5 ⟨rfl, hk⟩))
  go_ret
  exact ⟨rfl, Kp.b (by assumption)⟩
set_option maxRecDepth 100000 in
set_option maxHeartbeats 1000000 in
theorem exp_lo {x c7 c8 : Int} (H0 : Hid (All 11 #[.int .u64 x] (.bool false))) (H1 : Hid (All 25 #[.int .i64 710] (.int .u64 c7))) (H2 : Hid (All 16 #[.int .u64 x, .int .u64 c7] (.bool false))) (H3 : Hid (All 25 #[.int .i64 (-746)] (.int .u64 c8))) (H4 : Hid (All 26 #[.int .u64 x, .int .u64 c8] (.bool true))) : All 5 #[.int .u64 x] (.int .u64 0) := by
  intro w
  have hk := kp_start w
  go_enter Try.func5, Try.ntmps5
  go_wp2_with (first
    | (go_at_call 11; (with_reducible refine (in_of H0.out (by assumption)).mono ?_); rintro e1 w5 ⟨rfl, hk⟩)
    | (go_at_call 25; (with_reducible refine (in_of H1.out (by assumption)).mono ?_); rintro e1 w5 ⟨rfl, hk⟩)
    | (go_at_call 16; (with_reducible refine (in_of H2.out (by assumption)).mono ?_); rintro e1 w5 ⟨rfl, hk⟩)
    | (go_at_call 25; (with_reducible refine (in_of H3.out (by assumption)).mono ?_); rintro e1 w5 ⟨rfl, hk⟩)
    | (go_at_call 26; (with_reducible refine (in_of H4.out (by assumption)).mono ?_); rintro e1 w5 ⟨rfl, hk⟩))
  go_ret
  exact ⟨rfl, Kp.b (by assumption)⟩
set_option maxRecDepth 100000 in
set_option maxHeartbeats 1000000 in
theorem exp_f {x c7 c8 k0 k a1 a2 a3 r p n z : Int} (H0 : Hid (All 11 #[.int .u64 x] (.bool false))) (H1 : Hid (All 25 #[.int .i64 710] (.int .u64 c7))) (H2 : Hid (All 16 #[.int .u64 x, .int .u64 c7] (.bool false))) (H3 : Hid (All 25 #[.int .i64 (-746)] (.int .u64 c8))) (H4 : Hid (All 26 #[.int .u64 x, .int .u64 c8] (.bool false))) (H5 : Hid (All 20 #[.int .u64 x, .int .u64 4609176140021203710] (.int .u64 k0))) (H6 : Hid (All 27 #[.int .u64 k0] (.int .u64 k))) (H7 : Hid (All 20 #[.int .u64 k, .int .u64 4604418534311723008] (.int .u64 a1))) (H8 : Hid (All 24 #[.int .u64 x, .int .u64 a1] (.int .u64 a2))) (H9 : Hid (All 20 #[.int .u64 k, .int .u64 4461442080421002358] (.int .u64 a3))) (H10 : Hid (All 24 #[.int .u64 a2, .int .u64 a3] (.int .u64 r))) (H11 : Hid (∀ ad : Addr, AllC [(ad, .int .u64 r)] 21 #[.int .u64 4607182418800017408, .int .i64 13, .int .i64 1, .func (.func 28) #[] #[.pointer (some ad)]] (.int .u64 p))) (H12 : Hid (All 30 #[.int .u64 k] (.int .i64 n))) (H13 : Hid (All 29 #[.int .u64 p, .int .i64 n] (.int .u64 z))) : All 5 #[.int .u64 x] (.int .u64 z) := by
  intro w
  have hk := kp_start w
  go_enter Try.func5, Try.ntmps5
  go_wp2_with (first
    | (go_at_call 11; (with_reducible refine (in_of H0.out (by assumption)).mono ?_); rintro e1 w5 ⟨rfl, hk⟩)
    | (go_at_call 25; (with_reducible refine (in_of H1.out (by assumption)).mono ?_); rintro e1 w5 ⟨rfl, hk⟩)
    | (go_at_call 16; (with_reducible refine (in_of H2.out (by assumption)).mono ?_); rintro e1 w5 ⟨rfl, hk⟩)
    | (go_at_call 25; (with_reducible refine (in_of H3.out (by assumption)).mono ?_); rintro e1 w5 ⟨rfl, hk⟩)
    | (go_at_call 26; (with_reducible refine (in_of H4.out (by assumption)).mono ?_); rintro e1 w5 ⟨rfl, hk⟩)
    | (go_at_call 20; (with_reducible refine (in_of H5.out (by assumption)).mono ?_); rintro e1 w5 ⟨rfl, hk⟩)
    | (go_at_call 27; (with_reducible refine (in_of H6.out (by assumption)).mono ?_); rintro e1 w5 ⟨rfl, hk⟩)
    | (go_at_call 20; (with_reducible refine (in_of H7.out (by assumption)).mono ?_); rintro e1 w5 ⟨rfl, hk⟩)
    | (go_at_call 24; (with_reducible refine (in_of H8.out (by assumption)).mono ?_); rintro e1 w5 ⟨rfl, hk⟩)
    | (go_at_call 20; (with_reducible refine (in_of H9.out (by assumption)).mono ?_); rintro e1 w5 ⟨rfl, hk⟩)
    | (go_at_call 24; (with_reducible refine (in_of H10.out (by assumption)).mono ?_); rintro e1 w5 ⟨rfl, hk⟩)
    | (go_at_call 21; (with_reducible refine (in_ofk (H11.out _) (kp_var _ _ (by assumption))).mono ?_); rintro e1 w5 ⟨rfl, hk⟩)
    | (go_at_call 30; (with_reducible refine (in_of H12.out (by assumption)).mono ?_); rintro e1 w5 ⟨rfl, hk⟩)
    | (go_at_call 29; (with_reducible refine (in_of H13.out (by assumption)).mono ?_); rintro e1 w5 ⟨rfl, hk⟩))
  go_ret
  exact ⟨rfl, Kp.b (by assumption)⟩
set_option maxRecDepth 100000 in
set_option maxHeartbeats 1000000 in
theorem cosh_s {x a y b d c2 q : Int} (H0 : Hid (All 5 #[.int .u64 x] (.int .u64 a))) (H1 : Hid (All 8 #[.int .u64 x] (.int .u64 y))) (H2 : Hid (All 5 #[.int .u64 y] (.int .u64 b))) (H3 : Hid (All 18 #[.int .u64 a, .int .u64 b] (.int .u64 d))) (H4 : Hid (All 25 #[.int .i64 2] (.int .u64 c2))) (H5 : Hid (All 17 #[.int .u64 d, .int .u64 c2] (.int .u64 q))) : All 6 #[.int .u64 x] (.int .u64 q) := by
  intro w
  have hk := kp_start w
  go_enter Try.func6, Try.ntmps6
  go_wp2_with (first
    | (go_at_call 5; (with_reducible refine (in_of H0.out (by assumption)).mono ?_); rintro e1 w5 ⟨rfl, hk⟩)
    | (go_at_call 8; (with_reducible refine (in_of H1.out (by assumption)).mono ?_); rintro e1 w5 ⟨rfl, hk⟩)
    | (go_at_call 5; (with_reducible refine (in_of H2.out (by assumption)).mono ?_); rintro e1 w5 ⟨rfl, hk⟩)
    | (go_at_call 18; (with_reducible refine (in_of H3.out (by assumption)).mono ?_); rintro e1 w5 ⟨rfl, hk⟩)
    | (go_at_call 25; (with_reducible refine (in_of H4.out (by assumption)).mono ?_); rintro e1 w5 ⟨rfl, hk⟩)
    | (go_at_call 17; (with_reducible refine (in_of H5.out (by assumption)).mono ?_); rintro e1 w5 ⟨rfl, hk⟩))
  go_ret
  exact ⟨rfl, Kp.b (by assumption)⟩
set_option maxRecDepth 100000 in
set_option maxHeartbeats 1000000 in
theorem asinh_z {x a b : Int} (H0 : Hid (All 12 #[.int .u64 x] (.bool true))) (H1 : Hid (All 8 #[.int .u64 x] (.int .u64 a))) (H2 : Hid (All 8 #[.int .u64 a] (.int .u64 b))) : All 10 #[.int .u64 x] (.int .u64 b) := by
  intro w
  have hk := kp_start w
  go_enter Try.func10, Try.ntmps10
  go_wp2_with (first
    | (go_at_call 12; (with_reducible refine (in_of H0.out (by assumption)).mono ?_); rintro e1 w5 ⟨rfl, hk⟩)
    | (go_at_call 8; (with_reducible refine (in_of H1.out (by assumption)).mono ?_); rintro e1 w5 ⟨rfl, hk⟩)
    | (go_at_call 8; (with_reducible refine (in_of H2.out (by assumption)).mono ?_); rintro e1 w5 ⟨rfl, hk⟩))
  go_ret
  exact ⟨rfl, Kp.b (by assumption)⟩
set_option maxRecDepth 100000 in
set_option maxHeartbeats 1000000 in
theorem asinh_n {x a b : Int} (H0 : Hid (All 12 #[.int .u64 x] (.bool false))) (H1 : Hid (All 11 #[.int .u64 x] (.bool true))) (H2 : Hid (All 8 #[.int .u64 x] (.int .u64 a))) (H3 : Hid (All 8 #[.int .u64 a] (.int .u64 b))) : All 10 #[.int .u64 x] (.int .u64 b) := by
  intro w
  have hk := kp_start w
  go_enter Try.func10, Try.ntmps10
  go_wp2_with (first
    | (go_at_call 12; (with_reducible refine (in_of H0.out (by assumption)).mono ?_); rintro e1 w5 ⟨rfl, hk⟩)
    | (go_at_call 11; (with_reducible refine (in_of H1.out (by assumption)).mono ?_); rintro e1 w5 ⟨rfl, hk⟩)
    | (go_at_call 8; (with_reducible refine (in_of H2.out (by assumption)).mono ?_); rintro e1 w5 ⟨rfl, hk⟩)
    | (go_at_call 8; (with_reducible refine (in_of H3.out (by assumption)).mono ?_); rintro e1 w5 ⟨rfl, hk⟩))
  go_ret
  exact ⟨rfl, Kp.b (by assumption)⟩
set_option maxRecDepth 100000 in
set_option maxHeartbeats 1000000 in
theorem asinh_f {x a b c d g h q : Int} (H0 : Hid (All 12 #[.int .u64 x] (.bool false))) (H1 : Hid (All 11 #[.int .u64 x] (.bool false))) (H2 : Hid (All 15 #[.int .u64 x] (.int .u64 a))) (H3 : Hid (All 20 #[.int .u64 a, .int .u64 a] (.int .u64 b))) (H4 : Hid (All 18 #[.int .u64 b, .int .u64 4607182418800017408] (.int .u64 c))) (H5 : Hid (All 19 #[.int .u64 c] (.int .u64 d))) (H6 : Hid (All 18 #[.int .u64 a, .int .u64 d] (.int .u64 g))) (H7 : Hid (All 31 #[.int .u64 g] (.int .u64 h))) (H8 : Hid (All 14 #[.int .u64 h, .int .u64 x] (.int .u64 q))) : All 10 #[.int .u64 x] (.int .u64 q) := by
  intro w
  have hk := kp_start w
  go_enter Try.func10, Try.ntmps10
  go_wp2_with (first
    | (go_at_call 12; (with_reducible refine (in_of H0.out (by assumption)).mono ?_); rintro e1 w5 ⟨rfl, hk⟩)
    | (go_at_call 11; (with_reducible refine (in_of H1.out (by assumption)).mono ?_); rintro e1 w5 ⟨rfl, hk⟩)
    | (go_at_call 15; (with_reducible refine (in_of H2.out (by assumption)).mono ?_); rintro e1 w5 ⟨rfl, hk⟩)
    | (go_at_call 20; (with_reducible refine (in_of H3.out (by assumption)).mono ?_); rintro e1 w5 ⟨rfl, hk⟩)
    | (go_at_call 18; (with_reducible refine (in_of H4.out (by assumption)).mono ?_); rintro e1 w5 ⟨rfl, hk⟩)
    | (go_at_call 19; (with_reducible refine (in_of H5.out (by assumption)).mono ?_); rintro e1 w5 ⟨rfl, hk⟩)
    | (go_at_call 18; (with_reducible refine (in_of H6.out (by assumption)).mono ?_); rintro e1 w5 ⟨rfl, hk⟩)
    | (go_at_call 31; (with_reducible refine (in_of H7.out (by assumption)).mono ?_); rintro e1 w5 ⟨rfl, hk⟩)
    | (go_at_call 14; (with_reducible refine (in_of H8.out (by assumption)).mono ?_); rintro e1 w5 ⟨rfl, hk⟩))
  go_ret
  exact ⟨rfl, Kp.b (by assumption)⟩
