/- The reference's Pow, a walk for each way through it. -/
import Derived.Test.YtkifdppppihjcaaGreatKB
namespace Go.Proofs.YtkifdppppihjcaaGreat
set_option linter.unusedVariables false
set_option linter.unusedSimpArgs false
open Go.RowKit Go.Shelf Go.ChangeShapes Go.WideShapes SF

set_option maxRecDepth 100000 in
set_option maxHeartbeats 1000000 in
theorem rpow_z {x y c1 : Int} (H0 : Hid (All 61 #[.int .u64 y] (.bool true))) (H1 : Hid (All 62 #[.int .i64 1] (.int .u64 c1))) : All 9 #[.int .u64 x, .int .u64 y] (.int .u64 c1) := by
  intro w
  have hk := kp_start w
  go_enter Tryz.func9, Tryz.ntmps9
  go_wp2_with (first
    | (go_at_call 61; (with_reducible refine (in_of H0.out (by assumption)).mono ?_); rintro e1 w5 ⟨rfl, hk⟩)
    | (go_at_call 62; (with_reducible refine (in_of H1.out (by assumption)).mono ?_); rintro e1 w5 ⟨rfl, hk⟩))
  go_ret
  exact ⟨rfl, Kp.b (by assumption)⟩
set_option maxRecDepth 100000 in
set_option maxHeartbeats 1000000 in
theorem rpow_ne {x y a l m q : Int} (H0 : Hid (All 61 #[.int .u64 y] (.bool false))) (H1 : Hid (All 63 #[.int .u64 y] (.int .u64 a))) (H2 : Hid (All 64 #[.int .u64 y] (.bool true))) (H3 : Hid (All 66 #[.int .u64 x, .int .u64 0] (.bool true))) (H4 : Hid (All 14 #[.int .u64 x] (.int .u64 l))) (H5 : Hid (All 68 #[.int .u64 y, .int .u64 l] (.int .u64 m))) (H6 : Hid (All 12 #[.int .u64 m] (.int .u64 q))) : All 9 #[.int .u64 x, .int .u64 y] (.int .u64 q) := by
  intro w
  have hk := kp_start w
  go_enter Tryz.func9, Tryz.ntmps9
  go_wp2_with (first
    | (go_at_call 61; (with_reducible refine (in_of H0.out (by assumption)).mono ?_); rintro e1 w5 ⟨rfl, hk⟩)
    | (go_at_call 63; (with_reducible refine (in_of H1.out (by assumption)).mono ?_); rintro e1 w5 ⟨rfl, hk⟩)
    | (go_at_call 64; (with_reducible refine (in_of H2.out (by assumption)).mono ?_); rintro e1 w5 ⟨rfl, hk⟩)
    | (go_at_call 66; (with_reducible refine (in_of H3.out (by assumption)).mono ?_); rintro e1 w5 ⟨rfl, hk⟩)
    | (go_at_call 14; (with_reducible refine (in_of H4.out (by assumption)).mono ?_); rintro e1 w5 ⟨rfl, hk⟩)
    | (go_at_call 68; (with_reducible refine (in_of H5.out (by assumption)).mono ?_); rintro e1 w5 ⟨rfl, hk⟩)
    | (go_at_call 12; (with_reducible refine (in_of H6.out (by assumption)).mono ?_); rintro e1 w5 ⟨rfl, hk⟩))
  go_ret
  exact ⟨rfl, Kp.b (by assumption)⟩
set_option maxRecDepth 100000 in
set_option maxHeartbeats 1000000 in
theorem rpow_nm {x y a : Int} (H0 : Hid (All 61 #[.int .u64 y] (.bool false))) (H1 : Hid (All 63 #[.int .u64 y] (.int .u64 a))) (H2 : Hid (All 64 #[.int .u64 y] (.bool true))) (H3 : Hid (All 66 #[.int .u64 x, .int .u64 0] (.bool false))) (H4 : Hid (All 61 #[.int .u64 x] (.bool false))) : All 9 #[.int .u64 x, .int .u64 y] (.int .u64 9221120237041090560) := by
  intro w
  have hk := kp_start w
  go_enter Tryz.func9, Tryz.ntmps9
  go_wp2_with (first
    | (go_at_call 61; (with_reducible refine (in_of H0.out (by assumption)).mono ?_); rintro e1 w5 ⟨rfl, hk⟩)
    | (go_at_call 63; (with_reducible refine (in_of H1.out (by assumption)).mono ?_); rintro e1 w5 ⟨rfl, hk⟩)
    | (go_at_call 64; (with_reducible refine (in_of H2.out (by assumption)).mono ?_); rintro e1 w5 ⟨rfl, hk⟩)
    | (go_at_call 66; (with_reducible refine (in_of H3.out (by assumption)).mono ?_); rintro e1 w5 ⟨rfl, hk⟩)
    | (go_at_call 61; (with_reducible refine (in_of H4.out (by assumption)).mono ?_); rintro e1 w5 ⟨rfl, hk⟩))
  go_ret
  exact ⟨rfl, Kp.b (by assumption)⟩
set_option maxRecDepth 100000 in
set_option maxHeartbeats 1000000 in
theorem rpow_nz {x y a : Int} (H0 : Hid (All 61 #[.int .u64 y] (.bool false))) (H1 : Hid (All 63 #[.int .u64 y] (.int .u64 a))) (H2 : Hid (All 64 #[.int .u64 y] (.bool true))) (H3 : Hid (All 66 #[.int .u64 x, .int .u64 0] (.bool false))) (H4 : Hid (All 61 #[.int .u64 x] (.bool true))) : All 9 #[.int .u64 x, .int .u64 y] (.int .u64 9221120237041090560) := by
  intro w
  have hk := kp_start w
  go_enter Tryz.func9, Tryz.ntmps9
  go_wp2_with (first
    | (go_at_call 61; (with_reducible refine (in_of H0.out (by assumption)).mono ?_); rintro e1 w5 ⟨rfl, hk⟩)
    | (go_at_call 63; (with_reducible refine (in_of H1.out (by assumption)).mono ?_); rintro e1 w5 ⟨rfl, hk⟩)
    | (go_at_call 64; (with_reducible refine (in_of H2.out (by assumption)).mono ?_); rintro e1 w5 ⟨rfl, hk⟩)
    | (go_at_call 66; (with_reducible refine (in_of H3.out (by assumption)).mono ?_); rintro e1 w5 ⟨rfl, hk⟩)
    | (go_at_call 61; (with_reducible refine (in_of H4.out (by assumption)).mono ?_); rintro e1 w5 ⟨rfl, hk⟩))
  go_ret
  exact ⟨rfl, Kp.b (by assumption)⟩
set_option maxRecDepth 100000 in
set_option maxHeartbeats 1000000 in
theorem rpow_te {x y a t l m q : Int} (he : (t == y) = false) (H0 : Hid (All 61 #[.int .u64 y] (.bool false))) (H1 : Hid (All 63 #[.int .u64 y] (.int .u64 a))) (H2 : Hid (All 64 #[.int .u64 y] (.bool false))) (H3 : Hid (All 65 #[.int .u64 y] (.int .u64 t))) (H4 : Hid (All 66 #[.int .u64 x, .int .u64 0] (.bool true))) (H5 : Hid (All 14 #[.int .u64 x] (.int .u64 l))) (H6 : Hid (All 68 #[.int .u64 y, .int .u64 l] (.int .u64 m))) (H7 : Hid (All 12 #[.int .u64 m] (.int .u64 q))) : All 9 #[.int .u64 x, .int .u64 y] (.int .u64 q) := by
  intro w
  have hk := kp_start w
  go_enter Tryz.func9, Tryz.ntmps9
  go_wp2_with (first
    | (go_at_call 61; (with_reducible refine (in_of H0.out (by assumption)).mono ?_); rintro e1 w5 ⟨rfl, hk⟩)
    | (go_at_call 63; (with_reducible refine (in_of H1.out (by assumption)).mono ?_); rintro e1 w5 ⟨rfl, hk⟩)
    | (go_at_call 64; (with_reducible refine (in_of H2.out (by assumption)).mono ?_); rintro e1 w5 ⟨rfl, hk⟩)
    | (go_at_call 65; (with_reducible refine (in_of H3.out (by assumption)).mono ?_); rintro e1 w5 ⟨rfl, hk⟩)
    | (go_at_call 66; (with_reducible refine (in_of H4.out (by assumption)).mono ?_); rintro e1 w5 ⟨rfl, hk⟩)
    | (go_at_call 14; (with_reducible refine (in_of H5.out (by assumption)).mono ?_); rintro e1 w5 ⟨rfl, hk⟩)
    | (go_at_call 68; (with_reducible refine (in_of H6.out (by assumption)).mono ?_); rintro e1 w5 ⟨rfl, hk⟩)
    | (go_at_call 12; (with_reducible refine (in_of H7.out (by assumption)).mono ?_); rintro e1 w5 ⟨rfl, hk⟩))
  go_ret
  exact ⟨rfl, Kp.b (by assumption)⟩
set_option maxRecDepth 100000 in
set_option maxHeartbeats 1000000 in
theorem rpow_tm {x y a t : Int} (he : (t == y) = false) (H0 : Hid (All 61 #[.int .u64 y] (.bool false))) (H1 : Hid (All 63 #[.int .u64 y] (.int .u64 a))) (H2 : Hid (All 64 #[.int .u64 y] (.bool false))) (H3 : Hid (All 65 #[.int .u64 y] (.int .u64 t))) (H4 : Hid (All 66 #[.int .u64 x, .int .u64 0] (.bool false))) (H5 : Hid (All 61 #[.int .u64 x] (.bool false))) : All 9 #[.int .u64 x, .int .u64 y] (.int .u64 9221120237041090560) := by
  intro w
  have hk := kp_start w
  go_enter Tryz.func9, Tryz.ntmps9
  go_wp2_with (first
    | (go_at_call 61; (with_reducible refine (in_of H0.out (by assumption)).mono ?_); rintro e1 w5 ⟨rfl, hk⟩)
    | (go_at_call 63; (with_reducible refine (in_of H1.out (by assumption)).mono ?_); rintro e1 w5 ⟨rfl, hk⟩)
    | (go_at_call 64; (with_reducible refine (in_of H2.out (by assumption)).mono ?_); rintro e1 w5 ⟨rfl, hk⟩)
    | (go_at_call 65; (with_reducible refine (in_of H3.out (by assumption)).mono ?_); rintro e1 w5 ⟨rfl, hk⟩)
    | (go_at_call 66; (with_reducible refine (in_of H4.out (by assumption)).mono ?_); rintro e1 w5 ⟨rfl, hk⟩)
    | (go_at_call 61; (with_reducible refine (in_of H5.out (by assumption)).mono ?_); rintro e1 w5 ⟨rfl, hk⟩))
  go_ret
  exact ⟨rfl, Kp.b (by assumption)⟩
set_option maxRecDepth 100000 in
set_option maxHeartbeats 1000000 in
theorem rpow_tp {x y a t : Int} (he : (t == y) = false) (H0 : Hid (All 61 #[.int .u64 y] (.bool false))) (H1 : Hid (All 63 #[.int .u64 y] (.int .u64 a))) (H2 : Hid (All 64 #[.int .u64 y] (.bool false))) (H3 : Hid (All 65 #[.int .u64 y] (.int .u64 t))) (H4 : Hid (All 66 #[.int .u64 x, .int .u64 0] (.bool false))) (H5 : Hid (All 61 #[.int .u64 x] (.bool true))) (H6 : Hid (All 66 #[.int .u64 y, .int .u64 0] (.bool true))) : All 9 #[.int .u64 x, .int .u64 y] (.int .u64 0) := by
  intro w
  have hk := kp_start w
  go_enter Tryz.func9, Tryz.ntmps9
  go_wp2_with (first
    | (go_at_call 61; (with_reducible refine (in_of H0.out (by assumption)).mono ?_); rintro e1 w5 ⟨rfl, hk⟩)
    | (go_at_call 63; (with_reducible refine (in_of H1.out (by assumption)).mono ?_); rintro e1 w5 ⟨rfl, hk⟩)
    | (go_at_call 64; (with_reducible refine (in_of H2.out (by assumption)).mono ?_); rintro e1 w5 ⟨rfl, hk⟩)
    | (go_at_call 65; (with_reducible refine (in_of H3.out (by assumption)).mono ?_); rintro e1 w5 ⟨rfl, hk⟩)
    | (go_at_call 66; (with_reducible refine (in_of H4.out (by assumption)).mono ?_); rintro e1 w5 ⟨rfl, hk⟩)
    | (go_at_call 61; (with_reducible refine (in_of H5.out (by assumption)).mono ?_); rintro e1 w5 ⟨rfl, hk⟩)
    | (go_at_call 66; (with_reducible refine (in_of H6.out (by assumption)).mono ?_); rintro e1 w5 ⟨rfl, hk⟩))
  go_ret
  exact ⟨rfl, Kp.b (by assumption)⟩
set_option maxRecDepth 100000 in
set_option maxHeartbeats 1000000 in
theorem rpow_ti {x y a t : Int} (he : (t == y) = false) (H0 : Hid (All 61 #[.int .u64 y] (.bool false))) (H1 : Hid (All 63 #[.int .u64 y] (.int .u64 a))) (H2 : Hid (All 64 #[.int .u64 y] (.bool false))) (H3 : Hid (All 65 #[.int .u64 y] (.int .u64 t))) (H4 : Hid (All 66 #[.int .u64 x, .int .u64 0] (.bool false))) (H5 : Hid (All 61 #[.int .u64 x] (.bool true))) (H6 : Hid (All 66 #[.int .u64 y, .int .u64 0] (.bool false))) : All 9 #[.int .u64 x, .int .u64 y] (.int .u64 9218868437227405312) := by
  intro w
  have hk := kp_start w
  go_enter Tryz.func9, Tryz.ntmps9
  go_wp2_with (first
    | (go_at_call 61; (with_reducible refine (in_of H0.out (by assumption)).mono ?_); rintro e1 w5 ⟨rfl, hk⟩)
    | (go_at_call 63; (with_reducible refine (in_of H1.out (by assumption)).mono ?_); rintro e1 w5 ⟨rfl, hk⟩)
    | (go_at_call 64; (with_reducible refine (in_of H2.out (by assumption)).mono ?_); rintro e1 w5 ⟨rfl, hk⟩)
    | (go_at_call 65; (with_reducible refine (in_of H3.out (by assumption)).mono ?_); rintro e1 w5 ⟨rfl, hk⟩)
    | (go_at_call 66; (with_reducible refine (in_of H4.out (by assumption)).mono ?_); rintro e1 w5 ⟨rfl, hk⟩)
    | (go_at_call 61; (with_reducible refine (in_of H5.out (by assumption)).mono ?_); rintro e1 w5 ⟨rfl, hk⟩)
    | (go_at_call 66; (with_reducible refine (in_of H6.out (by assumption)).mono ?_); rintro e1 w5 ⟨rfl, hk⟩))
  go_ret
  exact ⟨rfl, Kp.b (by assumption)⟩
set_option maxRecDepth 100000 in
set_option maxHeartbeats 1000000 in
theorem rpow_ae {x y a t c10 l m q : Int} (he : (t == y) = true) (H0 : Hid (All 61 #[.int .u64 y] (.bool false))) (H1 : Hid (All 63 #[.int .u64 y] (.int .u64 a))) (H2 : Hid (All 64 #[.int .u64 y] (.bool false))) (H3 : Hid (All 65 #[.int .u64 y] (.int .u64 t))) (H4 : Hid (All 62 #[.int .i64 1024] (.int .u64 c10))) (H5 : Hid (All 66 #[.int .u64 a, .int .u64 c10] (.bool true))) (H6 : Hid (All 66 #[.int .u64 x, .int .u64 0] (.bool true))) (H7 : Hid (All 14 #[.int .u64 x] (.int .u64 l))) (H8 : Hid (All 68 #[.int .u64 y, .int .u64 l] (.int .u64 m))) (H9 : Hid (All 12 #[.int .u64 m] (.int .u64 q))) : All 9 #[.int .u64 x, .int .u64 y] (.int .u64 q) := by
  intro w
  have hk := kp_start w
  go_enter Tryz.func9, Tryz.ntmps9
  go_wp2_with (first
    | (go_at_call 61; (with_reducible refine (in_of H0.out (by assumption)).mono ?_); rintro e1 w5 ⟨rfl, hk⟩)
    | (go_at_call 63; (with_reducible refine (in_of H1.out (by assumption)).mono ?_); rintro e1 w5 ⟨rfl, hk⟩)
    | (go_at_call 64; (with_reducible refine (in_of H2.out (by assumption)).mono ?_); rintro e1 w5 ⟨rfl, hk⟩)
    | (go_at_call 65; (with_reducible refine (in_of H3.out (by assumption)).mono ?_); rintro e1 w5 ⟨rfl, hk⟩)
    | (go_at_call 62; (with_reducible refine (in_of H4.out (by assumption)).mono ?_); rintro e1 w5 ⟨rfl, hk⟩)
    | (go_at_call 66; (with_reducible refine (in_of H5.out (by assumption)).mono ?_); rintro e1 w5 ⟨rfl, hk⟩)
    | (go_at_call 66; (with_reducible refine (in_of H6.out (by assumption)).mono ?_); rintro e1 w5 ⟨rfl, hk⟩)
    | (go_at_call 14; (with_reducible refine (in_of H7.out (by assumption)).mono ?_); rintro e1 w5 ⟨rfl, hk⟩)
    | (go_at_call 68; (with_reducible refine (in_of H8.out (by assumption)).mono ?_); rintro e1 w5 ⟨rfl, hk⟩)
    | (go_at_call 12; (with_reducible refine (in_of H9.out (by assumption)).mono ?_); rintro e1 w5 ⟨rfl, hk⟩))
  go_ret
  exact ⟨rfl, Kp.b (by assumption)⟩
set_option maxRecDepth 100000 in
set_option maxHeartbeats 1000000 in
theorem rpow_am {x y a t c10 : Int} (he : (t == y) = true) (H0 : Hid (All 61 #[.int .u64 y] (.bool false))) (H1 : Hid (All 63 #[.int .u64 y] (.int .u64 a))) (H2 : Hid (All 64 #[.int .u64 y] (.bool false))) (H3 : Hid (All 65 #[.int .u64 y] (.int .u64 t))) (H4 : Hid (All 62 #[.int .i64 1024] (.int .u64 c10))) (H5 : Hid (All 66 #[.int .u64 a, .int .u64 c10] (.bool true))) (H6 : Hid (All 66 #[.int .u64 x, .int .u64 0] (.bool false))) (H7 : Hid (All 61 #[.int .u64 x] (.bool false))) : All 9 #[.int .u64 x, .int .u64 y] (.int .u64 9221120237041090560) := by
  intro w
  have hk := kp_start w
  go_enter Tryz.func9, Tryz.ntmps9
  go_wp2_with (first
    | (go_at_call 61; (with_reducible refine (in_of H0.out (by assumption)).mono ?_); rintro e1 w5 ⟨rfl, hk⟩)
    | (go_at_call 63; (with_reducible refine (in_of H1.out (by assumption)).mono ?_); rintro e1 w5 ⟨rfl, hk⟩)
    | (go_at_call 64; (with_reducible refine (in_of H2.out (by assumption)).mono ?_); rintro e1 w5 ⟨rfl, hk⟩)
    | (go_at_call 65; (with_reducible refine (in_of H3.out (by assumption)).mono ?_); rintro e1 w5 ⟨rfl, hk⟩)
    | (go_at_call 62; (with_reducible refine (in_of H4.out (by assumption)).mono ?_); rintro e1 w5 ⟨rfl, hk⟩)
    | (go_at_call 66; (with_reducible refine (in_of H5.out (by assumption)).mono ?_); rintro e1 w5 ⟨rfl, hk⟩)
    | (go_at_call 66; (with_reducible refine (in_of H6.out (by assumption)).mono ?_); rintro e1 w5 ⟨rfl, hk⟩)
    | (go_at_call 61; (with_reducible refine (in_of H7.out (by assumption)).mono ?_); rintro e1 w5 ⟨rfl, hk⟩))
  go_ret
  exact ⟨rfl, Kp.b (by assumption)⟩
set_option maxRecDepth 100000 in
set_option maxHeartbeats 1000000 in
theorem rpow_ap {x y a t c10 : Int} (he : (t == y) = true) (H0 : Hid (All 61 #[.int .u64 y] (.bool false))) (H1 : Hid (All 63 #[.int .u64 y] (.int .u64 a))) (H2 : Hid (All 64 #[.int .u64 y] (.bool false))) (H3 : Hid (All 65 #[.int .u64 y] (.int .u64 t))) (H4 : Hid (All 62 #[.int .i64 1024] (.int .u64 c10))) (H5 : Hid (All 66 #[.int .u64 a, .int .u64 c10] (.bool true))) (H6 : Hid (All 66 #[.int .u64 x, .int .u64 0] (.bool false))) (H7 : Hid (All 61 #[.int .u64 x] (.bool true))) (H8 : Hid (All 66 #[.int .u64 y, .int .u64 0] (.bool true))) : All 9 #[.int .u64 x, .int .u64 y] (.int .u64 0) := by
  intro w
  have hk := kp_start w
  go_enter Tryz.func9, Tryz.ntmps9
  go_wp2_with (first
    | (go_at_call 61; (with_reducible refine (in_of H0.out (by assumption)).mono ?_); rintro e1 w5 ⟨rfl, hk⟩)
    | (go_at_call 63; (with_reducible refine (in_of H1.out (by assumption)).mono ?_); rintro e1 w5 ⟨rfl, hk⟩)
    | (go_at_call 64; (with_reducible refine (in_of H2.out (by assumption)).mono ?_); rintro e1 w5 ⟨rfl, hk⟩)
    | (go_at_call 65; (with_reducible refine (in_of H3.out (by assumption)).mono ?_); rintro e1 w5 ⟨rfl, hk⟩)
    | (go_at_call 62; (with_reducible refine (in_of H4.out (by assumption)).mono ?_); rintro e1 w5 ⟨rfl, hk⟩)
    | (go_at_call 66; (with_reducible refine (in_of H5.out (by assumption)).mono ?_); rintro e1 w5 ⟨rfl, hk⟩)
    | (go_at_call 66; (with_reducible refine (in_of H6.out (by assumption)).mono ?_); rintro e1 w5 ⟨rfl, hk⟩)
    | (go_at_call 61; (with_reducible refine (in_of H7.out (by assumption)).mono ?_); rintro e1 w5 ⟨rfl, hk⟩)
    | (go_at_call 66; (with_reducible refine (in_of H8.out (by assumption)).mono ?_); rintro e1 w5 ⟨rfl, hk⟩))
  go_ret
  exact ⟨rfl, Kp.b (by assumption)⟩
set_option maxRecDepth 100000 in
set_option maxHeartbeats 1000000 in
theorem rpow_ai {x y a t c10 : Int} (he : (t == y) = true) (H0 : Hid (All 61 #[.int .u64 y] (.bool false))) (H1 : Hid (All 63 #[.int .u64 y] (.int .u64 a))) (H2 : Hid (All 64 #[.int .u64 y] (.bool false))) (H3 : Hid (All 65 #[.int .u64 y] (.int .u64 t))) (H4 : Hid (All 62 #[.int .i64 1024] (.int .u64 c10))) (H5 : Hid (All 66 #[.int .u64 a, .int .u64 c10] (.bool true))) (H6 : Hid (All 66 #[.int .u64 x, .int .u64 0] (.bool false))) (H7 : Hid (All 61 #[.int .u64 x] (.bool true))) (H8 : Hid (All 66 #[.int .u64 y, .int .u64 0] (.bool false))) : All 9 #[.int .u64 x, .int .u64 y] (.int .u64 9218868437227405312) := by
  intro w
  have hk := kp_start w
  go_enter Tryz.func9, Tryz.ntmps9
  go_wp2_with (first
    | (go_at_call 61; (with_reducible refine (in_of H0.out (by assumption)).mono ?_); rintro e1 w5 ⟨rfl, hk⟩)
    | (go_at_call 63; (with_reducible refine (in_of H1.out (by assumption)).mono ?_); rintro e1 w5 ⟨rfl, hk⟩)
    | (go_at_call 64; (with_reducible refine (in_of H2.out (by assumption)).mono ?_); rintro e1 w5 ⟨rfl, hk⟩)
    | (go_at_call 65; (with_reducible refine (in_of H3.out (by assumption)).mono ?_); rintro e1 w5 ⟨rfl, hk⟩)
    | (go_at_call 62; (with_reducible refine (in_of H4.out (by assumption)).mono ?_); rintro e1 w5 ⟨rfl, hk⟩)
    | (go_at_call 66; (with_reducible refine (in_of H5.out (by assumption)).mono ?_); rintro e1 w5 ⟨rfl, hk⟩)
    | (go_at_call 66; (with_reducible refine (in_of H6.out (by assumption)).mono ?_); rintro e1 w5 ⟨rfl, hk⟩)
    | (go_at_call 61; (with_reducible refine (in_of H7.out (by assumption)).mono ?_); rintro e1 w5 ⟨rfl, hk⟩)
    | (go_at_call 66; (with_reducible refine (in_of H8.out (by assumption)).mono ?_); rintro e1 w5 ⟨rfl, hk⟩))
  go_ret
  exact ⟨rfl, Kp.b (by assumption)⟩
set_option maxRecDepth 100000 in
set_option maxHeartbeats 1000000 in
theorem rpow_wp {x y a t c10 n0 n1 n2 c1 R : Int} (he : (t == y) = true) (g1 : 0 ≤ n0) (g2 : n0 ≤ 100000) (Inv : Int → Int → Int → Prop) (IS : Hid (∀ n r b, Inv n r b → 0 < n → ∃ r1 b1 : Int, (n % 2 = 1 → Hid (All 68 #[.int .u64 r, .int .u64 b] (.int .u64 r1))) ∧ (n % 2 = 0 → r1 = r) ∧ (0 < n / 2 → Hid (All 68 #[.int .u64 b, .int .u64 b] (.int .u64 b1))) ∧ (¬ 0 < n / 2 → b1 = b) ∧ Inv (n / 2) r1 b1)) (IE : Hid (∀ n r b, Inv n r b → ¬ 0 < n → r = R)) (I0 : Inv n0 c1 x) (H0 : Hid (All 61 #[.int .u64 y] (.bool false))) (H1 : Hid (All 63 #[.int .u64 y] (.int .u64 a))) (H2 : Hid (All 64 #[.int .u64 y] (.bool false))) (H3 : Hid (All 65 #[.int .u64 y] (.int .u64 t))) (H4 : Hid (All 62 #[.int .i64 1024] (.int .u64 c10))) (H5 : Hid (All 66 #[.int .u64 a, .int .u64 c10] (.bool false))) (H6 : Hid (All 67 #[.int .u64 a] (.tuple #[.int .i64 n0, .int .i64 n1, .int .i64 n2]))) (H7 : Hid (All 62 #[.int .i64 1] (.int .u64 c1))) (H8 : Hid (All 69 #[.int .u64 y] (.bool false))) : All 9 #[.int .u64 x, .int .u64 y] (.int .u64 R) := by
  intro w
  have hk := kp_start w
  go_enter Tryz.func9, Tryz.ntmps9
  go_wp2_with (first
    | (go_at_call 61; (with_reducible refine (in_of H0.out (by assumption)).mono ?_); rintro e1 w5 ⟨rfl, hk⟩)
    | (go_at_call 63; (with_reducible refine (in_of H1.out (by assumption)).mono ?_); rintro e1 w5 ⟨rfl, hk⟩)
    | (go_at_call 64; (with_reducible refine (in_of H2.out (by assumption)).mono ?_); rintro e1 w5 ⟨rfl, hk⟩)
    | (go_at_call 65; (with_reducible refine (in_of H3.out (by assumption)).mono ?_); rintro e1 w5 ⟨rfl, hk⟩)
    | (go_at_call 62; (with_reducible refine (in_of H4.out (by assumption)).mono ?_); rintro e1 w5 ⟨rfl, hk⟩)
    | (go_at_call 66; (with_reducible refine (in_of H5.out (by assumption)).mono ?_); rintro e1 w5 ⟨rfl, hk⟩)
    | (go_at_call 67; (with_reducible refine (in_of H6.out (by assumption)).mono ?_); rintro e1 w5 ⟨rfl, hk⟩)
    | (go_at_call 62; (with_reducible refine (in_of H7.out (by assumption)).mono ?_); rintro e1 w5 ⟨rfl, hk⟩)
    | (go_at_call 69; (with_reducible refine (in_of H8.out (by assumption)).mono ?_); rintro e1 w5 ⟨rfl, hk⟩))
  go_loopw [6, 9, 10] (fun v6 v9 v10 wr => ∃ n r b : Int, Inv n r b ∧ 0 ≤ n ∧ n ≤ 100000 ∧ v6 = .int .i64 n ∧ v9 = .int .u64 r ∧ v10 = .int .u64 b ∧ Kp w [] wr) (fun v6 _ _ _ => (intOf v6).toNat)
  case atStart => exact ⟨n0, c1, x, I0, g1, g2, rfl, rfl, rfl, by assumption⟩
  case round =>
    obtain ⟨n, r, b, I, m1, m2, rfl, rfl, rfl, hk⟩ := hrel
    have tm : n.tmod 2 = n % 2 := Int.tmod_eq_emod_of_nonneg m1
    have td : n.tdiv 2 = n / 2 := Int.tdiv_eq_ediv_of_nonneg m1
    by_cases hb : 0 < n
    · obtain ⟨r1, b1, h1, h2, h3, h4, I1⟩ := IS.out n r b I hb
      by_cases ho : n % 2 = 1
      · have H1' := h1 ho
        clear h1 h2
        rw [ho] at tm
        by_cases hn : 0 < n / 2
        · have H3' := h3 hn
          clear h3 h4
          go_wp2_with (first
            | (go_at_call 61; (with_reducible refine (in_of H0.out (by assumption)).mono ?_); rintro e1 w5 ⟨rfl, hk⟩)
            | (go_at_call 63; (with_reducible refine (in_of H1.out (by assumption)).mono ?_); rintro e1 w5 ⟨rfl, hk⟩)
            | (go_at_call 64; (with_reducible refine (in_of H2.out (by assumption)).mono ?_); rintro e1 w5 ⟨rfl, hk⟩)
            | (go_at_call 65; (with_reducible refine (in_of H3.out (by assumption)).mono ?_); rintro e1 w5 ⟨rfl, hk⟩)
            | (go_at_call 62; (with_reducible refine (in_of H4.out (by assumption)).mono ?_); rintro e1 w5 ⟨rfl, hk⟩)
            | (go_at_call 66; (with_reducible refine (in_of H5.out (by assumption)).mono ?_); rintro e1 w5 ⟨rfl, hk⟩)
            | (go_at_call 67; (with_reducible refine (in_of H6.out (by assumption)).mono ?_); rintro e1 w5 ⟨rfl, hk⟩)
            | (go_at_call 62; (with_reducible refine (in_of H7.out (by assumption)).mono ?_); rintro e1 w5 ⟨rfl, hk⟩)
            | (go_at_call 69; (with_reducible refine (in_of H8.out (by assumption)).mono ?_); rintro e1 w5 ⟨rfl, hk⟩)
            | (go_at_call 68; (with_reducible refine (in_of H1'.out (by assumption)).mono ?_); rintro e1 w5 ⟨rfl, hk⟩)
            | (go_at_call 68; (with_reducible refine (in_of H3'.out (by assumption)).mono ?_); rintro e1 w5 ⟨rfl, hk⟩))
          go_roundw
          case rel => exact ⟨_, _, _, I1, by omega, by omega, by go_num, rfl, rfl, by assumption⟩
          case measure => simp [intOf]; omega
        · obtain rfl := h4 (by omega)
          clear h3
          go_wp2_with (first
            | (go_at_call 61; (with_reducible refine (in_of H0.out (by assumption)).mono ?_); rintro e1 w5 ⟨rfl, hk⟩)
            | (go_at_call 63; (with_reducible refine (in_of H1.out (by assumption)).mono ?_); rintro e1 w5 ⟨rfl, hk⟩)
            | (go_at_call 64; (with_reducible refine (in_of H2.out (by assumption)).mono ?_); rintro e1 w5 ⟨rfl, hk⟩)
            | (go_at_call 65; (with_reducible refine (in_of H3.out (by assumption)).mono ?_); rintro e1 w5 ⟨rfl, hk⟩)
            | (go_at_call 62; (with_reducible refine (in_of H4.out (by assumption)).mono ?_); rintro e1 w5 ⟨rfl, hk⟩)
            | (go_at_call 66; (with_reducible refine (in_of H5.out (by assumption)).mono ?_); rintro e1 w5 ⟨rfl, hk⟩)
            | (go_at_call 67; (with_reducible refine (in_of H6.out (by assumption)).mono ?_); rintro e1 w5 ⟨rfl, hk⟩)
            | (go_at_call 62; (with_reducible refine (in_of H7.out (by assumption)).mono ?_); rintro e1 w5 ⟨rfl, hk⟩)
            | (go_at_call 69; (with_reducible refine (in_of H8.out (by assumption)).mono ?_); rintro e1 w5 ⟨rfl, hk⟩)
            | (go_at_call 68; (with_reducible refine (in_of H1'.out (by assumption)).mono ?_); rintro e1 w5 ⟨rfl, hk⟩))
          go_roundw
          case rel => exact ⟨_, _, _, I1, by omega, by omega, by go_num, rfl, rfl, by assumption⟩
          case measure => simp [intOf]; omega
      · have ho : n % 2 = 0 := by omega
        obtain rfl := h2 ho
        rw [ho] at tm
        clear h1
        have hn : 0 < n / 2 := by omega
        have H3' := h3 hn
        clear h3 h4
        go_wp2_with (first
          | (go_at_call 61; (with_reducible refine (in_of H0.out (by assumption)).mono ?_); rintro e1 w5 ⟨rfl, hk⟩)
          | (go_at_call 63; (with_reducible refine (in_of H1.out (by assumption)).mono ?_); rintro e1 w5 ⟨rfl, hk⟩)
          | (go_at_call 64; (with_reducible refine (in_of H2.out (by assumption)).mono ?_); rintro e1 w5 ⟨rfl, hk⟩)
          | (go_at_call 65; (with_reducible refine (in_of H3.out (by assumption)).mono ?_); rintro e1 w5 ⟨rfl, hk⟩)
          | (go_at_call 62; (with_reducible refine (in_of H4.out (by assumption)).mono ?_); rintro e1 w5 ⟨rfl, hk⟩)
          | (go_at_call 66; (with_reducible refine (in_of H5.out (by assumption)).mono ?_); rintro e1 w5 ⟨rfl, hk⟩)
          | (go_at_call 67; (with_reducible refine (in_of H6.out (by assumption)).mono ?_); rintro e1 w5 ⟨rfl, hk⟩)
          | (go_at_call 62; (with_reducible refine (in_of H7.out (by assumption)).mono ?_); rintro e1 w5 ⟨rfl, hk⟩)
          | (go_at_call 69; (with_reducible refine (in_of H8.out (by assumption)).mono ?_); rintro e1 w5 ⟨rfl, hk⟩)
          | (go_at_call 68; (with_reducible refine (in_of H3'.out (by assumption)).mono ?_); rintro e1 w5 ⟨rfl, hk⟩))
        go_roundw
        case rel => exact ⟨_, _, _, I1, by omega, by omega, by go_num, rfl, rfl, by assumption⟩
        case measure => simp [intOf]; omega
    · obtain rfl := IE.out n r b I (by omega)
      go_wp2_with (first
        | (go_at_call 61; (with_reducible refine (in_of H0.out (by assumption)).mono ?_); rintro e1 w5 ⟨rfl, hk⟩)
        | (go_at_call 63; (with_reducible refine (in_of H1.out (by assumption)).mono ?_); rintro e1 w5 ⟨rfl, hk⟩)
        | (go_at_call 64; (with_reducible refine (in_of H2.out (by assumption)).mono ?_); rintro e1 w5 ⟨rfl, hk⟩)
        | (go_at_call 65; (with_reducible refine (in_of H3.out (by assumption)).mono ?_); rintro e1 w5 ⟨rfl, hk⟩)
        | (go_at_call 62; (with_reducible refine (in_of H4.out (by assumption)).mono ?_); rintro e1 w5 ⟨rfl, hk⟩)
        | (go_at_call 66; (with_reducible refine (in_of H5.out (by assumption)).mono ?_); rintro e1 w5 ⟨rfl, hk⟩)
        | (go_at_call 67; (with_reducible refine (in_of H6.out (by assumption)).mono ?_); rintro e1 w5 ⟨rfl, hk⟩)
        | (go_at_call 62; (with_reducible refine (in_of H7.out (by assumption)).mono ?_); rintro e1 w5 ⟨rfl, hk⟩)
        | (go_at_call 69; (with_reducible refine (in_of H8.out (by assumption)).mono ?_); rintro e1 w5 ⟨rfl, hk⟩))
      go_ret
      exact ⟨rfl, Kp.b (by assumption)⟩
set_option maxRecDepth 100000 in
set_option maxHeartbeats 1000000 in
theorem rpow_wm {x y a t c10 n0 n1 n2 c1 R q : Int} (he : (t == y) = true) (g1 : 0 ≤ n0) (g2 : n0 ≤ 100000) (Inv : Int → Int → Int → Prop) (IS : Hid (∀ n r b, Inv n r b → 0 < n → ∃ r1 b1 : Int, (n % 2 = 1 → Hid (All 68 #[.int .u64 r, .int .u64 b] (.int .u64 r1))) ∧ (n % 2 = 0 → r1 = r) ∧ (0 < n / 2 → Hid (All 68 #[.int .u64 b, .int .u64 b] (.int .u64 b1))) ∧ (¬ 0 < n / 2 → b1 = b) ∧ Inv (n / 2) r1 b1)) (IE : Hid (∀ n r b, Inv n r b → ¬ 0 < n → r = R)) (I0 : Inv n0 c1 x) (H0 : Hid (All 61 #[.int .u64 y] (.bool false))) (H1 : Hid (All 63 #[.int .u64 y] (.int .u64 a))) (H2 : Hid (All 64 #[.int .u64 y] (.bool false))) (H3 : Hid (All 65 #[.int .u64 y] (.int .u64 t))) (H4 : Hid (All 62 #[.int .i64 1024] (.int .u64 c10))) (H5 : Hid (All 66 #[.int .u64 a, .int .u64 c10] (.bool false))) (H6 : Hid (All 67 #[.int .u64 a] (.tuple #[.int .i64 n0, .int .i64 n1, .int .i64 n2]))) (H7 : Hid (All 62 #[.int .i64 1] (.int .u64 c1))) (H8 : Hid (All 69 #[.int .u64 y] (.bool true))) (H9 : Hid (All 70 #[.int .u64 c1, .int .u64 R] (.int .u64 q))) : All 9 #[.int .u64 x, .int .u64 y] (.int .u64 q) := by
  intro w
  have hk := kp_start w
  go_enter Tryz.func9, Tryz.ntmps9
  go_wp2_with (first
    | (go_at_call 61; (with_reducible refine (in_of H0.out (by assumption)).mono ?_); rintro e1 w5 ⟨rfl, hk⟩)
    | (go_at_call 63; (with_reducible refine (in_of H1.out (by assumption)).mono ?_); rintro e1 w5 ⟨rfl, hk⟩)
    | (go_at_call 64; (with_reducible refine (in_of H2.out (by assumption)).mono ?_); rintro e1 w5 ⟨rfl, hk⟩)
    | (go_at_call 65; (with_reducible refine (in_of H3.out (by assumption)).mono ?_); rintro e1 w5 ⟨rfl, hk⟩)
    | (go_at_call 62; (with_reducible refine (in_of H4.out (by assumption)).mono ?_); rintro e1 w5 ⟨rfl, hk⟩)
    | (go_at_call 66; (with_reducible refine (in_of H5.out (by assumption)).mono ?_); rintro e1 w5 ⟨rfl, hk⟩)
    | (go_at_call 67; (with_reducible refine (in_of H6.out (by assumption)).mono ?_); rintro e1 w5 ⟨rfl, hk⟩)
    | (go_at_call 62; (with_reducible refine (in_of H7.out (by assumption)).mono ?_); rintro e1 w5 ⟨rfl, hk⟩)
    | (go_at_call 69; (with_reducible refine (in_of H8.out (by assumption)).mono ?_); rintro e1 w5 ⟨rfl, hk⟩)
    | (go_at_call 70; (with_reducible refine (in_of H9.out (by assumption)).mono ?_); rintro e1 w5 ⟨rfl, hk⟩))
  go_loopw [6, 9, 10] (fun v6 v9 v10 wr => ∃ n r b : Int, Inv n r b ∧ 0 ≤ n ∧ n ≤ 100000 ∧ v6 = .int .i64 n ∧ v9 = .int .u64 r ∧ v10 = .int .u64 b ∧ Kp w [] wr) (fun v6 _ _ _ => (intOf v6).toNat)
  case atStart => exact ⟨n0, c1, x, I0, g1, g2, rfl, rfl, rfl, by assumption⟩
  case round =>
    obtain ⟨n, r, b, I, m1, m2, rfl, rfl, rfl, hk⟩ := hrel
    have tm : n.tmod 2 = n % 2 := Int.tmod_eq_emod_of_nonneg m1
    have td : n.tdiv 2 = n / 2 := Int.tdiv_eq_ediv_of_nonneg m1
    by_cases hb : 0 < n
    · obtain ⟨r1, b1, h1, h2, h3, h4, I1⟩ := IS.out n r b I hb
      by_cases ho : n % 2 = 1
      · have H1' := h1 ho
        clear h1 h2
        rw [ho] at tm
        by_cases hn : 0 < n / 2
        · have H3' := h3 hn
          clear h3 h4
          go_wp2_with (first
            | (go_at_call 61; (with_reducible refine (in_of H0.out (by assumption)).mono ?_); rintro e1 w5 ⟨rfl, hk⟩)
            | (go_at_call 63; (with_reducible refine (in_of H1.out (by assumption)).mono ?_); rintro e1 w5 ⟨rfl, hk⟩)
            | (go_at_call 64; (with_reducible refine (in_of H2.out (by assumption)).mono ?_); rintro e1 w5 ⟨rfl, hk⟩)
            | (go_at_call 65; (with_reducible refine (in_of H3.out (by assumption)).mono ?_); rintro e1 w5 ⟨rfl, hk⟩)
            | (go_at_call 62; (with_reducible refine (in_of H4.out (by assumption)).mono ?_); rintro e1 w5 ⟨rfl, hk⟩)
            | (go_at_call 66; (with_reducible refine (in_of H5.out (by assumption)).mono ?_); rintro e1 w5 ⟨rfl, hk⟩)
            | (go_at_call 67; (with_reducible refine (in_of H6.out (by assumption)).mono ?_); rintro e1 w5 ⟨rfl, hk⟩)
            | (go_at_call 62; (with_reducible refine (in_of H7.out (by assumption)).mono ?_); rintro e1 w5 ⟨rfl, hk⟩)
            | (go_at_call 69; (with_reducible refine (in_of H8.out (by assumption)).mono ?_); rintro e1 w5 ⟨rfl, hk⟩)
            | (go_at_call 70; (with_reducible refine (in_of H9.out (by assumption)).mono ?_); rintro e1 w5 ⟨rfl, hk⟩)
            | (go_at_call 68; (with_reducible refine (in_of H1'.out (by assumption)).mono ?_); rintro e1 w5 ⟨rfl, hk⟩)
            | (go_at_call 68; (with_reducible refine (in_of H3'.out (by assumption)).mono ?_); rintro e1 w5 ⟨rfl, hk⟩))
          go_roundw
          case rel => exact ⟨_, _, _, I1, by omega, by omega, by go_num, rfl, rfl, by assumption⟩
          case measure => simp [intOf]; omega
        · obtain rfl := h4 (by omega)
          clear h3
          go_wp2_with (first
            | (go_at_call 61; (with_reducible refine (in_of H0.out (by assumption)).mono ?_); rintro e1 w5 ⟨rfl, hk⟩)
            | (go_at_call 63; (with_reducible refine (in_of H1.out (by assumption)).mono ?_); rintro e1 w5 ⟨rfl, hk⟩)
            | (go_at_call 64; (with_reducible refine (in_of H2.out (by assumption)).mono ?_); rintro e1 w5 ⟨rfl, hk⟩)
            | (go_at_call 65; (with_reducible refine (in_of H3.out (by assumption)).mono ?_); rintro e1 w5 ⟨rfl, hk⟩)
            | (go_at_call 62; (with_reducible refine (in_of H4.out (by assumption)).mono ?_); rintro e1 w5 ⟨rfl, hk⟩)
            | (go_at_call 66; (with_reducible refine (in_of H5.out (by assumption)).mono ?_); rintro e1 w5 ⟨rfl, hk⟩)
            | (go_at_call 67; (with_reducible refine (in_of H6.out (by assumption)).mono ?_); rintro e1 w5 ⟨rfl, hk⟩)
            | (go_at_call 62; (with_reducible refine (in_of H7.out (by assumption)).mono ?_); rintro e1 w5 ⟨rfl, hk⟩)
            | (go_at_call 69; (with_reducible refine (in_of H8.out (by assumption)).mono ?_); rintro e1 w5 ⟨rfl, hk⟩)
            | (go_at_call 70; (with_reducible refine (in_of H9.out (by assumption)).mono ?_); rintro e1 w5 ⟨rfl, hk⟩)
            | (go_at_call 68; (with_reducible refine (in_of H1'.out (by assumption)).mono ?_); rintro e1 w5 ⟨rfl, hk⟩))
          go_roundw
          case rel => exact ⟨_, _, _, I1, by omega, by omega, by go_num, rfl, rfl, by assumption⟩
          case measure => simp [intOf]; omega
      · have ho : n % 2 = 0 := by omega
        obtain rfl := h2 ho
        rw [ho] at tm
        clear h1
        have hn : 0 < n / 2 := by omega
        have H3' := h3 hn
        clear h3 h4
        go_wp2_with (first
          | (go_at_call 61; (with_reducible refine (in_of H0.out (by assumption)).mono ?_); rintro e1 w5 ⟨rfl, hk⟩)
          | (go_at_call 63; (with_reducible refine (in_of H1.out (by assumption)).mono ?_); rintro e1 w5 ⟨rfl, hk⟩)
          | (go_at_call 64; (with_reducible refine (in_of H2.out (by assumption)).mono ?_); rintro e1 w5 ⟨rfl, hk⟩)
          | (go_at_call 65; (with_reducible refine (in_of H3.out (by assumption)).mono ?_); rintro e1 w5 ⟨rfl, hk⟩)
          | (go_at_call 62; (with_reducible refine (in_of H4.out (by assumption)).mono ?_); rintro e1 w5 ⟨rfl, hk⟩)
          | (go_at_call 66; (with_reducible refine (in_of H5.out (by assumption)).mono ?_); rintro e1 w5 ⟨rfl, hk⟩)
          | (go_at_call 67; (with_reducible refine (in_of H6.out (by assumption)).mono ?_); rintro e1 w5 ⟨rfl, hk⟩)
          | (go_at_call 62; (with_reducible refine (in_of H7.out (by assumption)).mono ?_); rintro e1 w5 ⟨rfl, hk⟩)
          | (go_at_call 69; (with_reducible refine (in_of H8.out (by assumption)).mono ?_); rintro e1 w5 ⟨rfl, hk⟩)
          | (go_at_call 70; (with_reducible refine (in_of H9.out (by assumption)).mono ?_); rintro e1 w5 ⟨rfl, hk⟩)
          | (go_at_call 68; (with_reducible refine (in_of H3'.out (by assumption)).mono ?_); rintro e1 w5 ⟨rfl, hk⟩))
        go_roundw
        case rel => exact ⟨_, _, _, I1, by omega, by omega, by go_num, rfl, rfl, by assumption⟩
        case measure => simp [intOf]; omega
    · obtain rfl := IE.out n r b I (by omega)
      go_wp2_with (first
        | (go_at_call 61; (with_reducible refine (in_of H0.out (by assumption)).mono ?_); rintro e1 w5 ⟨rfl, hk⟩)
        | (go_at_call 63; (with_reducible refine (in_of H1.out (by assumption)).mono ?_); rintro e1 w5 ⟨rfl, hk⟩)
        | (go_at_call 64; (with_reducible refine (in_of H2.out (by assumption)).mono ?_); rintro e1 w5 ⟨rfl, hk⟩)
        | (go_at_call 65; (with_reducible refine (in_of H3.out (by assumption)).mono ?_); rintro e1 w5 ⟨rfl, hk⟩)
        | (go_at_call 62; (with_reducible refine (in_of H4.out (by assumption)).mono ?_); rintro e1 w5 ⟨rfl, hk⟩)
        | (go_at_call 66; (with_reducible refine (in_of H5.out (by assumption)).mono ?_); rintro e1 w5 ⟨rfl, hk⟩)
        | (go_at_call 67; (with_reducible refine (in_of H6.out (by assumption)).mono ?_); rintro e1 w5 ⟨rfl, hk⟩)
        | (go_at_call 62; (with_reducible refine (in_of H7.out (by assumption)).mono ?_); rintro e1 w5 ⟨rfl, hk⟩)
        | (go_at_call 69; (with_reducible refine (in_of H8.out (by assumption)).mono ?_); rintro e1 w5 ⟨rfl, hk⟩)
        | (go_at_call 70; (with_reducible refine (in_of H9.out (by assumption)).mono ?_); rintro e1 w5 ⟨rfl, hk⟩))
      go_ret
      exact ⟨rfl, Kp.b (by assumption)⟩
