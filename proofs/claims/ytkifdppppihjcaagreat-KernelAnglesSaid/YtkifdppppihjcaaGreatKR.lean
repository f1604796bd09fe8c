/- The reference's kernel, a walk for each way through each function. -/
import Derived.Test.YtkifdppppihjcaaGreatKB
namespace Go.Proofs.YtkifdppppihjcaaGreat
set_option linter.unusedVariables false
set_option linter.unusedSimpArgs false
open Go.RowKit Go.Shelf Go.ChangeShapes Go.WideShapes SF

set_option maxRecDepth 100000 in
set_option maxHeartbeats 1000000 in
theorem r5add_s {a b r : Int} (H0 : Hid (All 133 #[.int .u64 a, .int .u64 b] (.int .u64 r))) : All 80 #[.int .u64 a, .int .u64 b] (.int .u64 r) := by
  intro w
  have hk := kp_start w
  go_enter Tryz.func80, Tryz.ntmps80
  go_wp2_with (first
    | (go_at_call 133; (with_reducible refine (in_of H0.out (by assumption)).mono ?_); rintro e1 w5 ⟨rfl, hk⟩))
  go_ret
  exact ⟨rfl, Kp.b (by assumption)⟩
set_option maxRecDepth 100000 in
set_option maxHeartbeats 1000000 in
theorem r5sub_s {a b r : Int} (H0 : Hid (All 132 #[.int .u64 a, .int .u64 b] (.int .u64 r))) : All 79 #[.int .u64 a, .int .u64 b] (.int .u64 r) := by
  intro w
  have hk := kp_start w
  go_enter Tryz.func79, Tryz.ntmps79
  go_wp2_with (first
    | (go_at_call 132; (with_reducible refine (in_of H0.out (by assumption)).mono ?_); rintro e1 w5 ⟨rfl, hk⟩))
  go_ret
  exact ⟨rfl, Kp.b (by assumption)⟩
set_option maxRecDepth 100000 in
set_option maxHeartbeats 1000000 in
theorem r5mul_s {a b r : Int} (H0 : Hid (All 126 #[.int .u64 a, .int .u64 b] (.int .u64 r))) : All 68 #[.int .u64 a, .int .u64 b] (.int .u64 r) := by
  intro w
  have hk := kp_start w
  go_enter Tryz.func68, Tryz.ntmps68
  go_wp2_with (first
    | (go_at_call 126; (with_reducible refine (in_of H0.out (by assumption)).mono ?_); rintro e1 w5 ⟨rfl, hk⟩))
  go_ret
  exact ⟨rfl, Kp.b (by assumption)⟩
set_option maxRecDepth 100000 in
set_option maxHeartbeats 1000000 in
theorem r5div_s {a b r : Int} (H0 : Hid (All 127 #[.int .u64 a, .int .u64 b] (.int .u64 r))) : All 70 #[.int .u64 a, .int .u64 b] (.int .u64 r) := by
  intro w
  have hk := kp_start w
  go_enter Tryz.func70, Tryz.ntmps70
  go_wp2_with (first
    | (go_at_call 127; (with_reducible refine (in_of H0.out (by assumption)).mono ?_); rintro e1 w5 ⟨rfl, hk⟩))
  go_ret
  exact ⟨rfl, Kp.b (by assumption)⟩
set_option maxRecDepth 100000 in
set_option maxHeartbeats 1000000 in
theorem of_p {v r : Int} (hv : ¬ v < 0) (H0 : Hid (All 116 #[.int .i64 v, .int .i64 0] (.int .u64 r))) : All 62 #[.int .i64 v] (.int .u64 r) := by
  intro w
  have hk := kp_start w
  go_enter Tryz.func62, Tryz.ntmps62
  go_wp2_with (first
    | (go_at_call 116; (with_reducible refine (in_of H0.out (by assumption)).mono ?_); rintro e1 w5 ⟨rfl, hk⟩))
  go_ret
  exact ⟨rfl, Kp.b (by assumption)⟩
set_option maxRecDepth 100000 in
set_option maxHeartbeats 1000000 in
theorem of_n {v r : Int} (hv : v < 0) (H0 : Hid (All 116 #[.int .i64 v, .int .i64 (-1)] (.int .u64 r))) : All 62 #[.int .i64 v] (.int .u64 r) := by
  intro w
  have hk := kp_start w
  go_enter Tryz.func62, Tryz.ntmps62
  go_wp2_with (first
    | (go_at_call 116; (with_reducible refine (in_of H0.out (by assumption)).mono ?_); rintro e1 w5 ⟨rfl, hk⟩))
  go_ret
  exact ⟨rfl, Kp.b (by assumption)⟩
set_option maxRecDepth 100000 in
set_option maxHeartbeats 1000000 in
theorem rabove_0 {a b c : Int} (H0 : Hid (All 118 #[.int .u64 a, .int .u64 b] (.tuple #[.int .i64 c, .bool false]))) : All 66 #[.int .u64 a, .int .u64 b] (.bool (false && decide (0 < c))) := by
  intro w
  have hk := kp_start w
  go_enter Tryz.func66, Tryz.ntmps66
  go_wp2_with (first
    | (go_at_call 118; (with_reducible refine (in_of H0.out (by assumption)).mono ?_); rintro e1 w5 ⟨rfl, hk⟩))
  go_ret
  exact ⟨rfl, Kp.b (by assumption)⟩
set_option maxRecDepth 100000 in
set_option maxHeartbeats 1000000 in
theorem ris_0 {a b c : Int} (H0 : Hid (All 118 #[.int .u64 a, .int .u64 b] (.tuple #[.int .i64 c, .bool false]))) : All 100 #[.int .u64 a, .int .u64 b] (.bool (false && (c == 0))) := by
  intro w
  have hk := kp_start w
  go_enter Tryz.func100, Tryz.ntmps100
  go_wp2_with (first
    | (go_at_call 118; (with_reducible refine (in_of H0.out (by assumption)).mono ?_); rintro e1 w5 ⟨rfl, hk⟩))
  go_ret
  exact ⟨rfl, Kp.b (by assumption)⟩
set_option maxRecDepth 100000 in
set_option maxHeartbeats 1000000 in
theorem rabove_1 {a b c : Int} (H0 : Hid (All 118 #[.int .u64 a, .int .u64 b] (.tuple #[.int .i64 c, .bool true]))) : All 66 #[.int .u64 a, .int .u64 b] (.bool (true && decide (0 < c))) := by
  intro w
  have hk := kp_start w
  go_enter Tryz.func66, Tryz.ntmps66
  go_wp2_with (first
    | (go_at_call 118; (with_reducible refine (in_of H0.out (by assumption)).mono ?_); rintro e1 w5 ⟨rfl, hk⟩))
  go_ret
  exact ⟨rfl, Kp.b (by assumption)⟩
set_option maxRecDepth 100000 in
set_option maxHeartbeats 1000000 in
theorem ris_1 {a b c : Int} (H0 : Hid (All 118 #[.int .u64 a, .int .u64 b] (.tuple #[.int .i64 c, .bool true]))) : All 100 #[.int .u64 a, .int .u64 b] (.bool (true && (c == 0))) := by
  intro w
  have hk := kp_start w
  go_enter Tryz.func100, Tryz.ntmps100
  go_wp2_with (first
    | (go_at_call 118; (with_reducible refine (in_of H0.out (by assumption)).mono ?_); rintro e1 w5 ⟨rfl, hk⟩))
  go_ret
  exact ⟨rfl, Kp.b (by assumption)⟩
set_option maxRecDepth 100000 in
set_option maxHeartbeats 1000000 in
theorem rbelow_s {o : Bool} {a b : Int} (H0 : Hid (All 66 #[.int .u64 b, .int .u64 a] (.bool o))) : All 77 #[.int .u64 a, .int .u64 b] (.bool o) := by
  intro w
  have hk := kp_start w
  go_enter Tryz.func77, Tryz.ntmps77
  go_wp2_with (first
    | (go_at_call 66; (with_reducible refine (in_of H0.out (by assumption)).mono ?_); rintro e1 w5 ⟨rfl, hk⟩))
  go_ret
  exact ⟨rfl, Kp.b (by assumption)⟩
set_option maxRecDepth 100000 in
set_option maxHeartbeats 1000000 in
theorem like_f {t x : Int} (H0 : Hid (All 69 #[.int .u64 x] (.bool false))) : All 96 #[.int .u64 t, .int .u64 x] (.int .u64 t) := by
  intro w
  have hk := kp_start w
  go_enter Tryz.func96, Tryz.ntmps96
  go_wp2_with (first
    | (go_at_call 69; (with_reducible refine (in_of H0.out (by assumption)).mono ?_); rintro e1 w5 ⟨rfl, hk⟩))
  go_ret
  exact ⟨rfl, Kp.b (by assumption)⟩
set_option maxRecDepth 100000 in
set_option maxHeartbeats 1000000 in
theorem like_t {t x q : Int} (H0 : Hid (All 69 #[.int .u64 x] (.bool true))) (H1 : Hid (All 89 #[.int .u64 t] (.int .u64 q))) : All 96 #[.int .u64 t, .int .u64 x] (.int .u64 q) := by
  intro w
  have hk := kp_start w
  go_enter Tryz.func96, Tryz.ntmps96
  go_wp2_with (first
    | (go_at_call 69; (with_reducible refine (in_of H0.out (by assumption)).mono ?_); rintro e1 w5 ⟨rfl, hk⟩)
    | (go_at_call 89; (with_reducible refine (in_of H1.out (by assumption)).mono ?_); rintro e1 w5 ⟨rfl, hk⟩))
  go_ret
  exact ⟨rfl, Kp.b (by assumption)⟩
set_option maxRecDepth 100000 in
set_option maxHeartbeats 1000000 in
theorem ratan_n {x : Int} (H0 : Hid (All 64 #[.int .u64 x] (.bool true))) : All 42 #[.int .u64 x] (.int .u64 9221120237041090560) := by
  intro w
  have hk := kp_start w
  go_enter Tryz.func42, Tryz.ntmps42
  go_wp2_with (first
    | (go_at_call 64; (with_reducible refine (in_of H0.out (by assumption)).mono ?_); rintro e1 w5 ⟨rfl, hk⟩))
  go_ret
  exact ⟨rfl, Kp.b (by assumption)⟩
set_option maxRecDepth 100000 in
set_option maxHeartbeats 1000000 in
theorem ratan_z {x : Int} (H0 : Hid (All 64 #[.int .u64 x] (.bool false))) (H1 : Hid (All 61 #[.int .u64 x] (.bool true))) : All 42 #[.int .u64 x] (.int .u64 x) := by
  intro w
  have hk := kp_start w
  go_enter Tryz.func42, Tryz.ntmps42
  go_wp2_with (first
    | (go_at_call 64; (with_reducible refine (in_of H0.out (by assumption)).mono ?_); rintro e1 w5 ⟨rfl, hk⟩)
    | (go_at_call 61; (with_reducible refine (in_of H1.out (by assumption)).mono ?_); rintro e1 w5 ⟨rfl, hk⟩))
  go_ret
  exact ⟨rfl, Kp.b (by assumption)⟩
set_option maxRecDepth 100000 in
set_option maxHeartbeats 1000000 in
theorem ratan_i {x q : Int} (H0 : Hid (All 64 #[.int .u64 x] (.bool false))) (H1 : Hid (All 61 #[.int .u64 x] (.bool false))) (H2 : Hid (All 99 #[.int .u64 x] (.bool true))) (H3 : Hid (All 96 #[.int .u64 4609753056924675352, .int .u64 x] (.int .u64 q))) : All 42 #[.int .u64 x] (.int .u64 q) := by
  intro w
  have hk := kp_start w
  go_enter Tryz.func42, Tryz.ntmps42
  go_wp2_with (first
    | (go_at_call 64; (with_reducible refine (in_of H0.out (by assumption)).mono ?_); rintro e1 w5 ⟨rfl, hk⟩)
    | (go_at_call 61; (with_reducible refine (in_of H1.out (by assumption)).mono ?_); rintro e1 w5 ⟨rfl, hk⟩)
    | (go_at_call 99; (with_reducible refine (in_of H2.out (by assumption)).mono ?_); rintro e1 w5 ⟨rfl, hk⟩)
    | (go_at_call 96; (with_reducible refine (in_of H3.out (by assumption)).mono ?_); rintro e1 w5 ⟨rfl, hk⟩))
  go_ret
  exact ⟨rfl, Kp.b (by assumption)⟩
set_option maxRecDepth 100000 in
set_option maxHeartbeats 1000000 in
theorem ratan_g {x a c1 b0 b z c23 p0 c4 p m0 t0 t1 q : Int} {B P : Int → Int} (H0 : Hid (All 64 #[.int .u64 x] (.bool false))) (H1 : Hid (All 61 #[.int .u64 x] (.bool false))) (H2 : Hid (All 99 #[.int .u64 x] (.bool false))) (H3 : Hid (All 63 #[.int .u64 x] (.int .u64 a))) (H4 : Hid (All 62 #[.int .i64 1] (.int .u64 c1))) (H5 : Hid (All 66 #[.int .u64 a, .int .u64 c1] (.bool true))) (H6 : Hid (All 70 #[.int .u64 c1, .int .u64 a] (.int .u64 b0))) (H7 : Hid (All 68 #[.int .u64 b, .int .u64 b] (.int .u64 z))) (H8 : Hid (All 62 #[.int .i64 23] (.int .u64 c23))) (H9 : Hid (All 70 #[.int .u64 c1, .int .u64 c23] (.int .u64 p0))) (H10 : Hid (All 62 #[.int .i64 4] (.int .u64 c4))) (H11 : Hid (All 68 #[.int .u64 b, .int .u64 p] (.int .u64 m0))) (H12 : Hid (All 68 #[.int .u64 c4, .int .u64 m0] (.int .u64 t0))) (H13 : Hid (All 79 #[.int .u64 4609753056924675352, .int .u64 t0] (.int .u64 t1))) (H14 : Hid (All 96 #[.int .u64 t1, .int .u64 x] (.int .u64 q))) (L0 : Hid (∀ k : Int, 0 ≤ k → k < 2 → ∃ a1 a2 a3 a4 : Int, Hid (All 68 #[.int .u64 (B k), .int .u64 (B k)] (.int .u64 a1)) ∧ Hid (All 80 #[.int .u64 c1, .int .u64 a1] (.int .u64 a2)) ∧ Hid (All 97 #[.int .u64 a2] (.int .u64 a3)) ∧ Hid (All 80 #[.int .u64 c1, .int .u64 a3] (.int .u64 a4)) ∧ Hid (All 70 #[.int .u64 (B k), .int .u64 a4] (.int .u64 (B (k + 1)))))) (B0 : B 0 = b0) (E0 : B 2 = b) (L1 : Hid (∀ k : Int, 0 ≤ k → k ≤ 10 → ∃ o d m : Int, Hid (All 62 #[.int .i64 (2 * k + 1)] (.int .u64 o)) ∧ Hid (All 70 #[.int .u64 c1, .int .u64 o] (.int .u64 d)) ∧ Hid (All 68 #[.int .u64 z, .int .u64 (P k)] (.int .u64 m)) ∧ Hid (All 79 #[.int .u64 d, .int .u64 m] (.int .u64 (P (k - 1)))))) (B1 : P 10 = p0) (E1 : P (0 - 1) = p) : All 42 #[.int .u64 x] (.int .u64 q) := by
  intro w
  have hk := kp_start w
  go_enter Tryz.func42, Tryz.ntmps42
  go_wp2_with (first
        | (go_at_call 64; (with_reducible refine (in_of H0.out (by assumption)).mono ?_); rintro e1 w5 ⟨rfl, hk⟩)
        | (go_at_call 61; (with_reducible refine (in_of H1.out (by assumption)).mono ?_); rintro e1 w5 ⟨rfl, hk⟩)
        | (go_at_call 99; (with_reducible refine (in_of H2.out (by assumption)).mono ?_); rintro e1 w5 ⟨rfl, hk⟩)
        | (go_at_call 63; (with_reducible refine (in_of H3.out (by assumption)).mono ?_); rintro e1 w5 ⟨rfl, hk⟩)
        | (go_at_call 62; (with_reducible refine (in_of H4.out (by assumption)).mono ?_); rintro e1 w5 ⟨rfl, hk⟩)
        | (go_at_call 66; (with_reducible refine (in_of H5.out (by assumption)).mono ?_); rintro e1 w5 ⟨rfl, hk⟩)
        | (go_at_call 70; (with_reducible refine (in_of H6.out (by assumption)).mono ?_); rintro e1 w5 ⟨rfl, hk⟩)
        | (go_at_call 68; (with_reducible refine (in_of H7.out (by assumption)).mono ?_); rintro e1 w5 ⟨rfl, hk⟩)
        | (go_at_call 62; (with_reducible refine (in_of H8.out (by assumption)).mono ?_); rintro e1 w5 ⟨rfl, hk⟩)
        | (go_at_call 70; (with_reducible refine (in_of H9.out (by assumption)).mono ?_); rintro e1 w5 ⟨rfl, hk⟩)
        | (go_at_call 62; (with_reducible refine (in_of H10.out (by assumption)).mono ?_); rintro e1 w5 ⟨rfl, hk⟩)
        | (go_at_call 68; (with_reducible refine (in_of H11.out (by assumption)).mono ?_); rintro e1 w5 ⟨rfl, hk⟩)
        | (go_at_call 68; (with_reducible refine (in_of H12.out (by assumption)).mono ?_); rintro e1 w5 ⟨rfl, hk⟩)
        | (go_at_call 79; (with_reducible refine (in_of H13.out (by assumption)).mono ?_); rintro e1 w5 ⟨rfl, hk⟩)
        | (go_at_call 96; (with_reducible refine (in_of H14.out (by assumption)).mono ?_); rintro e1 w5 ⟨rfl, hk⟩))
  go_loopw [4, 5] (fun v4 v5 wr => ∃ k : Int, 0 ≤ k ∧ k ≤ 2 ∧ v4 = .int .u64 (B k) ∧ v5 = .int .i64 (k) ∧ Kp w [] wr) (fun v4 v5 _ => (2 - intOf v5).toNat)
  case atStart => exact ⟨0, by omega, by omega, by rw [B0], rfl, by assumption⟩
  case round =>
    obtain ⟨k, k1, k2, rfl, rfl, hk⟩ := hrel
    by_cases hb : k < 2
    · obtain ⟨a1, a2, a3, a4, G0, G1, G2, G3, G4⟩ := L0.out k k1 hb
      go_wp2_with (first
            | (go_at_call 64; (with_reducible refine (in_of H0.out (by assumption)).mono ?_); rintro e1 w5 ⟨rfl, hk⟩)
            | (go_at_call 61; (with_reducible refine (in_of H1.out (by assumption)).mono ?_); rintro e1 w5 ⟨rfl, hk⟩)
            | (go_at_call 99; (with_reducible refine (in_of H2.out (by assumption)).mono ?_); rintro e1 w5 ⟨rfl, hk⟩)
            | (go_at_call 63; (with_reducible refine (in_of H3.out (by assumption)).mono ?_); rintro e1 w5 ⟨rfl, hk⟩)
            | (go_at_call 62; (with_reducible refine (in_of H4.out (by assumption)).mono ?_); rintro e1 w5 ⟨rfl, hk⟩)
            | (go_at_call 66; (with_reducible refine (in_of H5.out (by assumption)).mono ?_); rintro e1 w5 ⟨rfl, hk⟩)
            | (go_at_call 70; (with_reducible refine (in_of H6.out (by assumption)).mono ?_); rintro e1 w5 ⟨rfl, hk⟩)
            | (go_at_call 68; (with_reducible refine (in_of H7.out (by assumption)).mono ?_); rintro e1 w5 ⟨rfl, hk⟩)
            | (go_at_call 62; (with_reducible refine (in_of H8.out (by assumption)).mono ?_); rintro e1 w5 ⟨rfl, hk⟩)
            | (go_at_call 70; (with_reducible refine (in_of H9.out (by assumption)).mono ?_); rintro e1 w5 ⟨rfl, hk⟩)
            | (go_at_call 62; (with_reducible refine (in_of H10.out (by assumption)).mono ?_); rintro e1 w5 ⟨rfl, hk⟩)
            | (go_at_call 68; (with_reducible refine (in_of H11.out (by assumption)).mono ?_); rintro e1 w5 ⟨rfl, hk⟩)
            | (go_at_call 68; (with_reducible refine (in_of H12.out (by assumption)).mono ?_); rintro e1 w5 ⟨rfl, hk⟩)
            | (go_at_call 79; (with_reducible refine (in_of H13.out (by assumption)).mono ?_); rintro e1 w5 ⟨rfl, hk⟩)
            | (go_at_call 96; (with_reducible refine (in_of H14.out (by assumption)).mono ?_); rintro e1 w5 ⟨rfl, hk⟩)
            | (go_at_call 68; (with_reducible refine (in_of G0.out (by assumption)).mono ?_); rintro e1 w5 ⟨rfl, hk⟩)
            | (go_at_call 80; (with_reducible refine (in_of G1.out (by assumption)).mono ?_); rintro e1 w5 ⟨rfl, hk⟩)
            | (go_at_call 97; (with_reducible refine (in_of G2.out (by assumption)).mono ?_); rintro e1 w5 ⟨rfl, hk⟩)
            | (go_at_call 80; (with_reducible refine (in_of G3.out (by assumption)).mono ?_); rintro e1 w5 ⟨rfl, hk⟩)
            | (go_at_call 70; (with_reducible refine (in_of G4.out (by assumption)).mono ?_); rintro e1 w5 ⟨rfl, hk⟩))
      go_roundw
      case rel => exact ⟨k + 1, by omega, by omega, rfl, by go_num, by assumption⟩
      case measure => simp [intOf]; omega
    · have e : 2 = k := by omega
      subst e
      rw [E0]
      go_wp2_with (first
            | (go_at_call 64; (with_reducible refine (in_of H0.out (by assumption)).mono ?_); rintro e1 w5 ⟨rfl, hk⟩)
            | (go_at_call 61; (with_reducible refine (in_of H1.out (by assumption)).mono ?_); rintro e1 w5 ⟨rfl, hk⟩)
            | (go_at_call 99; (with_reducible refine (in_of H2.out (by assumption)).mono ?_); rintro e1 w5 ⟨rfl, hk⟩)
            | (go_at_call 63; (with_reducible refine (in_of H3.out (by assumption)).mono ?_); rintro e1 w5 ⟨rfl, hk⟩)
            | (go_at_call 62; (with_reducible refine (in_of H4.out (by assumption)).mono ?_); rintro e1 w5 ⟨rfl, hk⟩)
            | (go_at_call 66; (with_reducible refine (in_of H5.out (by assumption)).mono ?_); rintro e1 w5 ⟨rfl, hk⟩)
            | (go_at_call 70; (with_reducible refine (in_of H6.out (by assumption)).mono ?_); rintro e1 w5 ⟨rfl, hk⟩)
            | (go_at_call 68; (with_reducible refine (in_of H7.out (by assumption)).mono ?_); rintro e1 w5 ⟨rfl, hk⟩)
            | (go_at_call 62; (with_reducible refine (in_of H8.out (by assumption)).mono ?_); rintro e1 w5 ⟨rfl, hk⟩)
            | (go_at_call 70; (with_reducible refine (in_of H9.out (by assumption)).mono ?_); rintro e1 w5 ⟨rfl, hk⟩)
            | (go_at_call 62; (with_reducible refine (in_of H10.out (by assumption)).mono ?_); rintro e1 w5 ⟨rfl, hk⟩)
            | (go_at_call 68; (with_reducible refine (in_of H11.out (by assumption)).mono ?_); rintro e1 w5 ⟨rfl, hk⟩)
            | (go_at_call 68; (with_reducible refine (in_of H12.out (by assumption)).mono ?_); rintro e1 w5 ⟨rfl, hk⟩)
            | (go_at_call 79; (with_reducible refine (in_of H13.out (by assumption)).mono ?_); rintro e1 w5 ⟨rfl, hk⟩)
            | (go_at_call 96; (with_reducible refine (in_of H14.out (by assumption)).mono ?_); rintro e1 w5 ⟨rfl, hk⟩))
      go_loopw [7, 8] (fun v7 v8 wr => ∃ k : Int, 0 - 1 ≤ k ∧ k ≤ 10 ∧ v7 = .int .u64 (P k) ∧ v8 = .int .i64 (k) ∧ Kp w [] wr) (fun v7 v8 _ => (intOf v8 - 0 + 1).toNat)
      case atStart => exact ⟨10, by omega, by omega, by rw [B1], rfl, by assumption⟩
      case round =>
        obtain ⟨k, k1, k2, rfl, rfl, hk⟩ := hrel
        by_cases hb : 0 ≤ k
        · obtain ⟨o, d, m, G0, G1, G2, G3⟩ := L1.out k hb k2
          go_wp2_with (first
                | (go_at_call 64; (with_reducible refine (in_of H0.out (by assumption)).mono ?_); rintro e1 w5 ⟨rfl, hk⟩)
                | (go_at_call 61; (with_reducible refine (in_of H1.out (by assumption)).mono ?_); rintro e1 w5 ⟨rfl, hk⟩)
                | (go_at_call 99; (with_reducible refine (in_of H2.out (by assumption)).mono ?_); rintro e1 w5 ⟨rfl, hk⟩)
                | (go_at_call 63; (with_reducible refine (in_of H3.out (by assumption)).mono ?_); rintro e1 w5 ⟨rfl, hk⟩)
                | (go_at_call 62; (with_reducible refine (in_of H4.out (by assumption)).mono ?_); rintro e1 w5 ⟨rfl, hk⟩)
                | (go_at_call 66; (with_reducible refine (in_of H5.out (by assumption)).mono ?_); rintro e1 w5 ⟨rfl, hk⟩)
                | (go_at_call 70; (with_reducible refine (in_of H6.out (by assumption)).mono ?_); rintro e1 w5 ⟨rfl, hk⟩)
                | (go_at_call 68; (with_reducible refine (in_of H7.out (by assumption)).mono ?_); rintro e1 w5 ⟨rfl, hk⟩)
                | (go_at_call 62; (with_reducible refine (in_of H8.out (by assumption)).mono ?_); rintro e1 w5 ⟨rfl, hk⟩)
                | (go_at_call 70; (with_reducible refine (in_of H9.out (by assumption)).mono ?_); rintro e1 w5 ⟨rfl, hk⟩)
                | (go_at_call 62; (with_reducible refine (in_of H10.out (by assumption)).mono ?_); rintro e1 w5 ⟨rfl, hk⟩)
                | (go_at_call 68; (with_reducible refine (in_of H11.out (by assumption)).mono ?_); rintro e1 w5 ⟨rfl, hk⟩)
                | (go_at_call 68; (with_reducible refine (in_of H12.out (by assumption)).mono ?_); rintro e1 w5 ⟨rfl, hk⟩)
                | (go_at_call 79; (with_reducible refine (in_of H13.out (by assumption)).mono ?_); rintro e1 w5 ⟨rfl, hk⟩)
                | (go_at_call 96; (with_reducible refine (in_of H14.out (by assumption)).mono ?_); rintro e1 w5 ⟨rfl, hk⟩)
                | (go_at_call 62; (with_reducible refine (in_of G0.out (by assumption)).mono ?_); rintro e1 w5 ⟨rfl, hk⟩)
                | (go_at_call 70; (with_reducible refine (in_of G1.out (by assumption)).mono ?_); rintro e1 w5 ⟨rfl, hk⟩)
                | (go_at_call 68; (with_reducible refine (in_of G2.out (by assumption)).mono ?_); rintro e1 w5 ⟨rfl, hk⟩)
                | (go_at_call 79; (with_reducible refine (in_of G3.out (by assumption)).mono ?_); rintro e1 w5 ⟨rfl, hk⟩))
          go_roundw
          case rel => exact ⟨k - 1, by omega, by omega, rfl, by go_num, by assumption⟩
          case measure => simp [intOf]; omega
        · have e : 0 - 1 = k := by omega
          subst e
          rw [E1]
          go_wp2_with (first
                | (go_at_call 64; (with_reducible refine (in_of H0.out (by assumption)).mono ?_); rintro e1 w5 ⟨rfl, hk⟩)
                | (go_at_call 61; (with_reducible refine (in_of H1.out (by assumption)).mono ?_); rintro e1 w5 ⟨rfl, hk⟩)
                | (go_at_call 99; (with_reducible refine (in_of H2.out (by assumption)).mono ?_); rintro e1 w5 ⟨rfl, hk⟩)
                | (go_at_call 63; (with_reducible refine (in_of H3.out (by assumption)).mono ?_); rintro e1 w5 ⟨rfl, hk⟩)
                | (go_at_call 62; (with_reducible refine (in_of H4.out (by assumption)).mono ?_); rintro e1 w5 ⟨rfl, hk⟩)
                | (go_at_call 66; (with_reducible refine (in_of H5.out (by assumption)).mono ?_); rintro e1 w5 ⟨rfl, hk⟩)
                | (go_at_call 70; (with_reducible refine (in_of H6.out (by assumption)).mono ?_); rintro e1 w5 ⟨rfl, hk⟩)
                | (go_at_call 68; (with_reducible refine (in_of H7.out (by assumption)).mono ?_); rintro e1 w5 ⟨rfl, hk⟩)
                | (go_at_call 62; (with_reducible refine (in_of H8.out (by assumption)).mono ?_); rintro e1 w5 ⟨rfl, hk⟩)
                | (go_at_call 70; (with_reducible refine (in_of H9.out (by assumption)).mono ?_); rintro e1 w5 ⟨rfl, hk⟩)
                | (go_at_call 62; (with_reducible refine (in_of H10.out (by assumption)).mono ?_); rintro e1 w5 ⟨rfl, hk⟩)
                | (go_at_call 68; (with_reducible refine (in_of H11.out (by assumption)).mono ?_); rintro e1 w5 ⟨rfl, hk⟩)
                | (go_at_call 68; (with_reducible refine (in_of H12.out (by assumption)).mono ?_); rintro e1 w5 ⟨rfl, hk⟩)
                | (go_at_call 79; (with_reducible refine (in_of H13.out (by assumption)).mono ?_); rintro e1 w5 ⟨rfl, hk⟩)
                | (go_at_call 96; (with_reducible refine (in_of H14.out (by assumption)).mono ?_); rintro e1 w5 ⟨rfl, hk⟩))
          go_ret
          exact ⟨rfl, Kp.b (by assumption)⟩
set_option maxRecDepth 100000 in
set_option maxHeartbeats 1000000 in
theorem ratan_s {x a c1 b z c23 p0 c4 p m0 t0 q : Int} {B P : Int → Int} (H0 : Hid (All 64 #[.int .u64 x] (.bool false))) (H1 : Hid (All 61 #[.int .u64 x] (.bool false))) (H2 : Hid (All 99 #[.int .u64 x] (.bool false))) (H3 : Hid (All 63 #[.int .u64 x] (.int .u64 a))) (H4 : Hid (All 62 #[.int .i64 1] (.int .u64 c1))) (H5 : Hid (All 66 #[.int .u64 a, .int .u64 c1] (.bool false))) (H6 : Hid (All 68 #[.int .u64 b, .int .u64 b] (.int .u64 z))) (H7 : Hid (All 62 #[.int .i64 23] (.int .u64 c23))) (H8 : Hid (All 70 #[.int .u64 c1, .int .u64 c23] (.int .u64 p0))) (H9 : Hid (All 62 #[.int .i64 4] (.int .u64 c4))) (H10 : Hid (All 68 #[.int .u64 b, .int .u64 p] (.int .u64 m0))) (H11 : Hid (All 68 #[.int .u64 c4, .int .u64 m0] (.int .u64 t0))) (H12 : Hid (All 96 #[.int .u64 t0, .int .u64 x] (.int .u64 q))) (L0 : Hid (∀ k : Int, 0 ≤ k → k < 2 → ∃ a1 a2 a3 a4 : Int, Hid (All 68 #[.int .u64 (B k), .int .u64 (B k)] (.int .u64 a1)) ∧ Hid (All 80 #[.int .u64 c1, .int .u64 a1] (.int .u64 a2)) ∧ Hid (All 97 #[.int .u64 a2] (.int .u64 a3)) ∧ Hid (All 80 #[.int .u64 c1, .int .u64 a3] (.int .u64 a4)) ∧ Hid (All 70 #[.int .u64 (B k), .int .u64 a4] (.int .u64 (B (k + 1)))))) (B0 : B 0 = a) (E0 : B 2 = b) (L1 : Hid (∀ k : Int, 0 ≤ k → k ≤ 10 → ∃ o d m : Int, Hid (All 62 #[.int .i64 (2 * k + 1)] (.int .u64 o)) ∧ Hid (All 70 #[.int .u64 c1, .int .u64 o] (.int .u64 d)) ∧ Hid (All 68 #[.int .u64 z, .int .u64 (P k)] (.int .u64 m)) ∧ Hid (All 79 #[.int .u64 d, .int .u64 m] (.int .u64 (P (k - 1)))))) (B1 : P 10 = p0) (E1 : P (0 - 1) = p) : All 42 #[.int .u64 x] (.int .u64 q) := by
  intro w
  have hk := kp_start w
  go_enter Tryz.func42, Tryz.ntmps42
  go_wp2_with (first
        | (go_at_call 64; (with_reducible refine (in_of H0.out (by assumption)).mono ?_); rintro e1 w5 ⟨rfl, hk⟩)
        | (go_at_call 61; (with_reducible refine (in_of H1.out (by assumption)).mono ?_); rintro e1 w5 ⟨rfl, hk⟩)
        | (go_at_call 99; (with_reducible refine (in_of H2.out (by assumption)).mono ?_); rintro e1 w5 ⟨rfl, hk⟩)
        | (go_at_call 63; (with_reducible refine (in_of H3.out (by assumption)).mono ?_); rintro e1 w5 ⟨rfl, hk⟩)
        | (go_at_call 62; (with_reducible refine (in_of H4.out (by assumption)).mono ?_); rintro e1 w5 ⟨rfl, hk⟩)
        | (go_at_call 66; (with_reducible refine (in_of H5.out (by assumption)).mono ?_); rintro e1 w5 ⟨rfl, hk⟩)
        | (go_at_call 68; (with_reducible refine (in_of H6.out (by assumption)).mono ?_); rintro e1 w5 ⟨rfl, hk⟩)
        | (go_at_call 62; (with_reducible refine (in_of H7.out (by assumption)).mono ?_); rintro e1 w5 ⟨rfl, hk⟩)
        | (go_at_call 70; (with_reducible refine (in_of H8.out (by assumption)).mono ?_); rintro e1 w5 ⟨rfl, hk⟩)
        | (go_at_call 62; (with_reducible refine (in_of H9.out (by assumption)).mono ?_); rintro e1 w5 ⟨rfl, hk⟩)
        | (go_at_call 68; (with_reducible refine (in_of H10.out (by assumption)).mono ?_); rintro e1 w5 ⟨rfl, hk⟩)
        | (go_at_call 68; (with_reducible refine (in_of H11.out (by assumption)).mono ?_); rintro e1 w5 ⟨rfl, hk⟩)
        | (go_at_call 96; (with_reducible refine (in_of H12.out (by assumption)).mono ?_); rintro e1 w5 ⟨rfl, hk⟩))
  go_loopw [4, 5] (fun v4 v5 wr => ∃ k : Int, 0 ≤ k ∧ k ≤ 2 ∧ v4 = .int .u64 (B k) ∧ v5 = .int .i64 (k) ∧ Kp w [] wr) (fun v4 v5 _ => (2 - intOf v5).toNat)
  case atStart => exact ⟨0, by omega, by omega, by rw [B0], rfl, by assumption⟩
  case round =>
    obtain ⟨k, k1, k2, rfl, rfl, hk⟩ := hrel
    by_cases hb : k < 2
    · obtain ⟨a1, a2, a3, a4, G0, G1, G2, G3, G4⟩ := L0.out k k1 hb
      go_wp2_with (first
            | (go_at_call 64; (with_reducible refine (in_of H0.out (by assumption)).mono ?_); rintro e1 w5 ⟨rfl, hk⟩)
            | (go_at_call 61; (with_reducible refine (in_of H1.out (by assumption)).mono ?_); rintro e1 w5 ⟨rfl, hk⟩)
            | (go_at_call 99; (with_reducible refine (in_of H2.out (by assumption)).mono ?_); rintro e1 w5 ⟨rfl, hk⟩)
            | (go_at_call 63; (with_reducible refine (in_of H3.out (by assumption)).mono ?_); rintro e1 w5 ⟨rfl, hk⟩)
            | (go_at_call 62; (with_reducible refine (in_of H4.out (by assumption)).mono ?_); rintro e1 w5 ⟨rfl, hk⟩)
            | (go_at_call 66; (with_reducible refine (in_of H5.out (by assumption)).mono ?_); rintro e1 w5 ⟨rfl, hk⟩)
            | (go_at_call 68; (with_reducible refine (in_of H6.out (by assumption)).mono ?_); rintro e1 w5 ⟨rfl, hk⟩)
            | (go_at_call 62; (with_reducible refine (in_of H7.out (by assumption)).mono ?_); rintro e1 w5 ⟨rfl, hk⟩)
            | (go_at_call 70; (with_reducible refine (in_of H8.out (by assumption)).mono ?_); rintro e1 w5 ⟨rfl, hk⟩)
            | (go_at_call 62; (with_reducible refine (in_of H9.out (by assumption)).mono ?_); rintro e1 w5 ⟨rfl, hk⟩)
            | (go_at_call 68; (with_reducible refine (in_of H10.out (by assumption)).mono ?_); rintro e1 w5 ⟨rfl, hk⟩)
            | (go_at_call 68; (with_reducible refine (in_of H11.out (by assumption)).mono ?_); rintro e1 w5 ⟨rfl, hk⟩)
            | (go_at_call 96; (with_reducible refine (in_of H12.out (by assumption)).mono ?_); rintro e1 w5 ⟨rfl, hk⟩)
            | (go_at_call 68; (with_reducible refine (in_of G0.out (by assumption)).mono ?_); rintro e1 w5 ⟨rfl, hk⟩)
            | (go_at_call 80; (with_reducible refine (in_of G1.out (by assumption)).mono ?_); rintro e1 w5 ⟨rfl, hk⟩)
            | (go_at_call 97; (with_reducible refine (in_of G2.out (by assumption)).mono ?_); rintro e1 w5 ⟨rfl, hk⟩)
            | (go_at_call 80; (with_reducible refine (in_of G3.out (by assumption)).mono ?_); rintro e1 w5 ⟨rfl, hk⟩)
            | (go_at_call 70; (with_reducible refine (in_of G4.out (by assumption)).mono ?_); rintro e1 w5 ⟨rfl, hk⟩))
      go_roundw
      case rel => exact ⟨k + 1, by omega, by omega, rfl, by go_num, by assumption⟩
      case measure => simp [intOf]; omega
    · have e : 2 = k := by omega
      subst e
      rw [E0]
      go_wp2_with (first
            | (go_at_call 64; (with_reducible refine (in_of H0.out (by assumption)).mono ?_); rintro e1 w5 ⟨rfl, hk⟩)
            | (go_at_call 61; (with_reducible refine (in_of H1.out (by assumption)).mono ?_); rintro e1 w5 ⟨rfl, hk⟩)
            | (go_at_call 99; (with_reducible refine (in_of H2.out (by assumption)).mono ?_); rintro e1 w5 ⟨rfl, hk⟩)
            | (go_at_call 63; (with_reducible refine (in_of H3.out (by assumption)).mono ?_); rintro e1 w5 ⟨rfl, hk⟩)
            | (go_at_call 62; (with_reducible refine (in_of H4.out (by assumption)).mono ?_); rintro e1 w5 ⟨rfl, hk⟩)
            | (go_at_call 66; (with_reducible refine (in_of H5.out (by assumption)).mono ?_); rintro e1 w5 ⟨rfl, hk⟩)
            | (go_at_call 68; (with_reducible refine (in_of H6.out (by assumption)).mono ?_); rintro e1 w5 ⟨rfl, hk⟩)
            | (go_at_call 62; (with_reducible refine (in_of H7.out (by assumption)).mono ?_); rintro e1 w5 ⟨rfl, hk⟩)
            | (go_at_call 70; (with_reducible refine (in_of H8.out (by assumption)).mono ?_); rintro e1 w5 ⟨rfl, hk⟩)
            | (go_at_call 62; (with_reducible refine (in_of H9.out (by assumption)).mono ?_); rintro e1 w5 ⟨rfl, hk⟩)
            | (go_at_call 68; (with_reducible refine (in_of H10.out (by assumption)).mono ?_); rintro e1 w5 ⟨rfl, hk⟩)
            | (go_at_call 68; (with_reducible refine (in_of H11.out (by assumption)).mono ?_); rintro e1 w5 ⟨rfl, hk⟩)
            | (go_at_call 96; (with_reducible refine (in_of H12.out (by assumption)).mono ?_); rintro e1 w5 ⟨rfl, hk⟩))
      go_loopw [7, 8] (fun v7 v8 wr => ∃ k : Int, 0 - 1 ≤ k ∧ k ≤ 10 ∧ v7 = .int .u64 (P k) ∧ v8 = .int .i64 (k) ∧ Kp w [] wr) (fun v7 v8 _ => (intOf v8 - 0 + 1).toNat)
      case atStart => exact ⟨10, by omega, by omega, by rw [B1], rfl, by assumption⟩
      case round =>
        obtain ⟨k, k1, k2, rfl, rfl, hk⟩ := hrel
        by_cases hb : 0 ≤ k
        · obtain ⟨o, d, m, G0, G1, G2, G3⟩ := L1.out k hb k2
          go_wp2_with (first
                | (go_at_call 64; (with_reducible refine (in_of H0.out (by assumption)).mono ?_); rintro e1 w5 ⟨rfl, hk⟩)
                | (go_at_call 61; (with_reducible refine (in_of H1.out (by assumption)).mono ?_); rintro e1 w5 ⟨rfl, hk⟩)
                | (go_at_call 99; (with_reducible refine (in_of H2.out (by assumption)).mono ?_); rintro e1 w5 ⟨rfl, hk⟩)
                | (go_at_call 63; (with_reducible refine (in_of H3.out (by assumption)).mono ?_); rintro e1 w5 ⟨rfl, hk⟩)
                | (go_at_call 62; (with_reducible refine (in_of H4.out (by assumption)).mono ?_); rintro e1 w5 ⟨rfl, hk⟩)
                | (go_at_call 66; (with_reducible refine (in_of H5.out (by assumption)).mono ?_); rintro e1 w5 ⟨rfl, hk⟩)
                | (go_at_call 68; (with_reducible refine (in_of H6.out (by assumption)).mono ?_); rintro e1 w5 ⟨rfl, hk⟩)
                | (go_at_call 62; (with_reducible refine (in_of H7.out (by assumption)).mono ?_); rintro e1 w5 ⟨rfl, hk⟩)
                | (go_at_call 70; (with_reducible refine (in_of H8.out (by assumption)).mono ?_); rintro e1 w5 ⟨rfl, hk⟩)
                | (go_at_call 62; (with_reducible refine (in_of H9.out (by assumption)).mono ?_); rintro e1 w5 ⟨rfl, hk⟩)
                | (go_at_call 68; (with_reducible refine (in_of H10.out (by assumption)).mono ?_); rintro e1 w5 ⟨rfl, hk⟩)
                | (go_at_call 68; (with_reducible refine (in_of H11.out (by assumption)).mono ?_); rintro e1 w5 ⟨rfl, hk⟩)
                | (go_at_call 96; (with_reducible refine (in_of H12.out (by assumption)).mono ?_); rintro e1 w5 ⟨rfl, hk⟩)
                | (go_at_call 62; (with_reducible refine (in_of G0.out (by assumption)).mono ?_); rintro e1 w5 ⟨rfl, hk⟩)
                | (go_at_call 70; (with_reducible refine (in_of G1.out (by assumption)).mono ?_); rintro e1 w5 ⟨rfl, hk⟩)
                | (go_at_call 68; (with_reducible refine (in_of G2.out (by assumption)).mono ?_); rintro e1 w5 ⟨rfl, hk⟩)
                | (go_at_call 79; (with_reducible refine (in_of G3.out (by assumption)).mono ?_); rintro e1 w5 ⟨rfl, hk⟩))
          go_roundw
          case rel => exact ⟨k - 1, by omega, by omega, rfl, by go_num, by assumption⟩
          case measure => simp [intOf]; omega
        · have e : 0 - 1 = k := by omega
          subst e
          rw [E1]
          go_wp2_with (first
                | (go_at_call 64; (with_reducible refine (in_of H0.out (by assumption)).mono ?_); rintro e1 w5 ⟨rfl, hk⟩)
                | (go_at_call 61; (with_reducible refine (in_of H1.out (by assumption)).mono ?_); rintro e1 w5 ⟨rfl, hk⟩)
                | (go_at_call 99; (with_reducible refine (in_of H2.out (by assumption)).mono ?_); rintro e1 w5 ⟨rfl, hk⟩)
                | (go_at_call 63; (with_reducible refine (in_of H3.out (by assumption)).mono ?_); rintro e1 w5 ⟨rfl, hk⟩)
                | (go_at_call 62; (with_reducible refine (in_of H4.out (by assumption)).mono ?_); rintro e1 w5 ⟨rfl, hk⟩)
                | (go_at_call 66; (with_reducible refine (in_of H5.out (by assumption)).mono ?_); rintro e1 w5 ⟨rfl, hk⟩)
                | (go_at_call 68; (with_reducible refine (in_of H6.out (by assumption)).mono ?_); rintro e1 w5 ⟨rfl, hk⟩)
                | (go_at_call 62; (with_reducible refine (in_of H7.out (by assumption)).mono ?_); rintro e1 w5 ⟨rfl, hk⟩)
                | (go_at_call 70; (with_reducible refine (in_of H8.out (by assumption)).mono ?_); rintro e1 w5 ⟨rfl, hk⟩)
                | (go_at_call 62; (with_reducible refine (in_of H9.out (by assumption)).mono ?_); rintro e1 w5 ⟨rfl, hk⟩)
                | (go_at_call 68; (with_reducible refine (in_of H10.out (by assumption)).mono ?_); rintro e1 w5 ⟨rfl, hk⟩)
                | (go_at_call 68; (with_reducible refine (in_of H11.out (by assumption)).mono ?_); rintro e1 w5 ⟨rfl, hk⟩)
                | (go_at_call 96; (with_reducible refine (in_of H12.out (by assumption)).mono ?_); rintro e1 w5 ⟨rfl, hk⟩))
          go_ret
          exact ⟨rfl, Kp.b (by assumption)⟩
set_option maxRecDepth 100000 in
set_option maxHeartbeats 1000000 in
theorem rasin_n {x a : Int} (H0 : Hid (All 63 #[.int .u64 x] (.int .u64 a))) (H1 : Hid (All 64 #[.int .u64 x] (.bool true))) : All 44 #[.int .u64 x] (.int .u64 9221120237041090560) := by
  intro w
  have hk := kp_start w
  go_enter Tryz.func44, Tryz.ntmps44
  go_wp2_with (first
    | (go_at_call 63; (with_reducible refine (in_of H0.out (by assumption)).mono ?_); rintro e1 w5 ⟨rfl, hk⟩)
    | (go_at_call 64; (with_reducible refine (in_of H1.out (by assumption)).mono ?_); rintro e1 w5 ⟨rfl, hk⟩))
  go_ret
  exact ⟨rfl, Kp.b (by assumption)⟩
set_option maxRecDepth 100000 in
set_option maxHeartbeats 1000000 in
theorem rasin_a {x a c1 : Int} (H0 : Hid (All 63 #[.int .u64 x] (.int .u64 a))) (H1 : Hid (All 64 #[.int .u64 x] (.bool false))) (H2 : Hid (All 62 #[.int .i64 1] (.int .u64 c1))) (H3 : Hid (All 66 #[.int .u64 a, .int .u64 c1] (.bool true))) : All 44 #[.int .u64 x] (.int .u64 9221120237041090560) := by
  intro w
  have hk := kp_start w
  go_enter Tryz.func44, Tryz.ntmps44
  go_wp2_with (first
    | (go_at_call 63; (with_reducible refine (in_of H0.out (by assumption)).mono ?_); rintro e1 w5 ⟨rfl, hk⟩)
    | (go_at_call 64; (with_reducible refine (in_of H1.out (by assumption)).mono ?_); rintro e1 w5 ⟨rfl, hk⟩)
    | (go_at_call 62; (with_reducible refine (in_of H2.out (by assumption)).mono ?_); rintro e1 w5 ⟨rfl, hk⟩)
    | (go_at_call 66; (with_reducible refine (in_of H3.out (by assumption)).mono ?_); rintro e1 w5 ⟨rfl, hk⟩))
  go_ret
  exact ⟨rfl, Kp.b (by assumption)⟩
set_option maxRecDepth 100000 in
set_option maxHeartbeats 1000000 in
theorem rasin_1 {x a c1 q : Int} (H0 : Hid (All 63 #[.int .u64 x] (.int .u64 a))) (H1 : Hid (All 64 #[.int .u64 x] (.bool false))) (H2 : Hid (All 62 #[.int .i64 1] (.int .u64 c1))) (H3 : Hid (All 66 #[.int .u64 a, .int .u64 c1] (.bool false))) (H4 : Hid (All 100 #[.int .u64 a, .int .u64 c1] (.bool true))) (H5 : Hid (All 96 #[.int .u64 4609753056924675352, .int .u64 x] (.int .u64 q))) : All 44 #[.int .u64 x] (.int .u64 q) := by
  intro w
  have hk := kp_start w
  go_enter Tryz.func44, Tryz.ntmps44
  go_wp2_with (first
    | (go_at_call 63; (with_reducible refine (in_of H0.out (by assumption)).mono ?_); rintro e1 w5 ⟨rfl, hk⟩)
    | (go_at_call 64; (with_reducible refine (in_of H1.out (by assumption)).mono ?_); rintro e1 w5 ⟨rfl, hk⟩)
    | (go_at_call 62; (with_reducible refine (in_of H2.out (by assumption)).mono ?_); rintro e1 w5 ⟨rfl, hk⟩)
    | (go_at_call 66; (with_reducible refine (in_of H3.out (by assumption)).mono ?_); rintro e1 w5 ⟨rfl, hk⟩)
    | (go_at_call 100; (with_reducible refine (in_of H4.out (by assumption)).mono ?_); rintro e1 w5 ⟨rfl, hk⟩)
    | (go_at_call 96; (with_reducible refine (in_of H5.out (by assumption)).mono ?_); rintro e1 w5 ⟨rfl, hk⟩))
  go_ret
  exact ⟨rfl, Kp.b (by assumption)⟩
set_option maxRecDepth 100000 in
set_option maxHeartbeats 1000000 in
theorem rasin_f {x a c1 d e g h j q : Int} (H0 : Hid (All 63 #[.int .u64 x] (.int .u64 a))) (H1 : Hid (All 64 #[.int .u64 x] (.bool false))) (H2 : Hid (All 62 #[.int .i64 1] (.int .u64 c1))) (H3 : Hid (All 66 #[.int .u64 a, .int .u64 c1] (.bool false))) (H4 : Hid (All 100 #[.int .u64 a, .int .u64 c1] (.bool false))) (H5 : Hid (All 79 #[.int .u64 c1, .int .u64 x] (.int .u64 d))) (H6 : Hid (All 80 #[.int .u64 c1, .int .u64 x] (.int .u64 e))) (H7 : Hid (All 68 #[.int .u64 d, .int .u64 e] (.int .u64 g))) (H8 : Hid (All 97 #[.int .u64 g] (.int .u64 h))) (H9 : Hid (All 70 #[.int .u64 x, .int .u64 h] (.int .u64 j))) (H10 : Hid (All 42 #[.int .u64 j] (.int .u64 q))) : All 44 #[.int .u64 x] (.int .u64 q) := by
  intro w
  have hk := kp_start w
  go_enter Tryz.func44, Tryz.ntmps44
  go_wp2_with (first
    | (go_at_call 63; (with_reducible refine (in_of H0.out (by assumption)).mono ?_); rintro e1 w5 ⟨rfl, hk⟩)
    | (go_at_call 64; (with_reducible refine (in_of H1.out (by assumption)).mono ?_); rintro e1 w5 ⟨rfl, hk⟩)
    | (go_at_call 62; (with_reducible refine (in_of H2.out (by assumption)).mono ?_); rintro e1 w5 ⟨rfl, hk⟩)
    | (go_at_call 66; (with_reducible refine (in_of H3.out (by assumption)).mono ?_); rintro e1 w5 ⟨rfl, hk⟩)
    | (go_at_call 100; (with_reducible refine (in_of H4.out (by assumption)).mono ?_); rintro e1 w5 ⟨rfl, hk⟩)
    | (go_at_call 79; (with_reducible refine (in_of H5.out (by assumption)).mono ?_); rintro e1 w5 ⟨rfl, hk⟩)
    | (go_at_call 80; (with_reducible refine (in_of H6.out (by assumption)).mono ?_); rintro e1 w5 ⟨rfl, hk⟩)
    | (go_at_call 68; (with_reducible refine (in_of H7.out (by assumption)).mono ?_); rintro e1 w5 ⟨rfl, hk⟩)
    | (go_at_call 97; (with_reducible refine (in_of H8.out (by assumption)).mono ?_); rintro e1 w5 ⟨rfl, hk⟩)
    | (go_at_call 70; (with_reducible refine (in_of H9.out (by assumption)).mono ?_); rintro e1 w5 ⟨rfl, hk⟩)
    | (go_at_call 42; (with_reducible refine (in_of H10.out (by assumption)).mono ?_); rintro e1 w5 ⟨rfl, hk⟩))
  go_ret
  exact ⟨rfl, Kp.b (by assumption)⟩
set_option maxRecDepth 100000 in
set_option maxHeartbeats 1000000 in
theorem racos_s {x a q : Int} (H0 : Hid (All 44 #[.int .u64 x] (.int .u64 a))) (H1 : Hid (All 79 #[.int .u64 4609753056924675352, .int .u64 a] (.int .u64 q))) : All 46 #[.int .u64 x] (.int .u64 q) := by
  intro w
  have hk := kp_start w
  go_enter Tryz.func46, Tryz.ntmps46
  go_wp2_with (first
    | (go_at_call 44; (with_reducible refine (in_of H0.out (by assumption)).mono ?_); rintro e1 w5 ⟨rfl, hk⟩)
    | (go_at_call 79; (with_reducible refine (in_of H1.out (by assumption)).mono ?_); rintro e1 w5 ⟨rfl, hk⟩))
  go_ret
  exact ⟨rfl, Kp.b (by assumption)⟩
set_option maxRecDepth 100000 in
set_option maxHeartbeats 1000000 in
theorem ratan2_n1 {y x : Int} (H0 : Hid (All 64 #[.int .u64 y] (.bool true))) : All 48 #[.int .u64 y, .int .u64 x] (.int .u64 9221120237041090560) := by
  intro w
  have hk := kp_start w
  go_enter Tryz.func48, Tryz.ntmps48
  go_wp2_with (first
    | (go_at_call 64; (with_reducible refine (in_of H0.out (by assumption)).mono ?_); rintro e1 w5 ⟨rfl, hk⟩))
  go_ret
  exact ⟨rfl, Kp.b (by assumption)⟩
set_option maxRecDepth 100000 in
set_option maxHeartbeats 1000000 in
theorem ratan2_n2 {y x : Int} (H0 : Hid (All 64 #[.int .u64 y] (.bool false))) (H1 : Hid (All 64 #[.int .u64 x] (.bool true))) : All 48 #[.int .u64 y, .int .u64 x] (.int .u64 9221120237041090560) := by
  intro w
  have hk := kp_start w
  go_enter Tryz.func48, Tryz.ntmps48
  go_wp2_with (first
    | (go_at_call 64; (with_reducible refine (in_of H0.out (by assumption)).mono ?_); rintro e1 w5 ⟨rfl, hk⟩)
    | (go_at_call 64; (with_reducible refine (in_of H1.out (by assumption)).mono ?_); rintro e1 w5 ⟨rfl, hk⟩))
  go_ret
  exact ⟨rfl, Kp.b (by assumption)⟩
set_option maxRecDepth 100000 in
set_option maxHeartbeats 1000000 in
theorem ratan2_p {y x d a : Int} (H0 : Hid (All 64 #[.int .u64 y] (.bool false))) (H1 : Hid (All 64 #[.int .u64 x] (.bool false))) (H2 : Hid (All 66 #[.int .u64 x, .int .u64 0] (.bool true))) (H3 : Hid (All 70 #[.int .u64 y, .int .u64 x] (.int .u64 d))) (H4 : Hid (All 42 #[.int .u64 d] (.int .u64 a))) : All 48 #[.int .u64 y, .int .u64 x] (.int .u64 a) := by
  intro w
  have hk := kp_start w
  go_enter Tryz.func48, Tryz.ntmps48
  go_wp2_with (first
    | (go_at_call 64; (with_reducible refine (in_of H0.out (by assumption)).mono ?_); rintro e1 w5 ⟨rfl, hk⟩)
    | (go_at_call 64; (with_reducible refine (in_of H1.out (by assumption)).mono ?_); rintro e1 w5 ⟨rfl, hk⟩)
    | (go_at_call 66; (with_reducible refine (in_of H2.out (by assumption)).mono ?_); rintro e1 w5 ⟨rfl, hk⟩)
    | (go_at_call 70; (with_reducible refine (in_of H3.out (by assumption)).mono ?_); rintro e1 w5 ⟨rfl, hk⟩)
    | (go_at_call 42; (with_reducible refine (in_of H4.out (by assumption)).mono ?_); rintro e1 w5 ⟨rfl, hk⟩))
  go_ret
  exact ⟨rfl, Kp.b (by assumption)⟩
set_option maxRecDepth 100000 in
set_option maxHeartbeats 1000000 in
theorem ratan2_m {y x d a q : Int} (H0 : Hid (All 64 #[.int .u64 y] (.bool false))) (H1 : Hid (All 64 #[.int .u64 x] (.bool false))) (H2 : Hid (All 66 #[.int .u64 x, .int .u64 0] (.bool false))) (H3 : Hid (All 77 #[.int .u64 x, .int .u64 0] (.bool true))) (H4 : Hid (All 69 #[.int .u64 y] (.bool true))) (H5 : Hid (All 70 #[.int .u64 y, .int .u64 x] (.int .u64 d))) (H6 : Hid (All 42 #[.int .u64 d] (.int .u64 a))) (H7 : Hid (All 79 #[.int .u64 a, .int .u64 4614256656552045848] (.int .u64 q))) : All 48 #[.int .u64 y, .int .u64 x] (.int .u64 q) := by
  intro w
  have hk := kp_start w
  go_enter Tryz.func48, Tryz.ntmps48
  go_wp2_with (first
    | (go_at_call 64; (with_reducible refine (in_of H0.out (by assumption)).mono ?_); rintro e1 w5 ⟨rfl, hk⟩)
    | (go_at_call 64; (with_reducible refine (in_of H1.out (by assumption)).mono ?_); rintro e1 w5 ⟨rfl, hk⟩)
    | (go_at_call 66; (with_reducible refine (in_of H2.out (by assumption)).mono ?_); rintro e1 w5 ⟨rfl, hk⟩)
    | (go_at_call 77; (with_reducible refine (in_of H3.out (by assumption)).mono ?_); rintro e1 w5 ⟨rfl, hk⟩)
    | (go_at_call 69; (with_reducible refine (in_of H4.out (by assumption)).mono ?_); rintro e1 w5 ⟨rfl, hk⟩)
    | (go_at_call 70; (with_reducible refine (in_of H5.out (by assumption)).mono ?_); rintro e1 w5 ⟨rfl, hk⟩)
    | (go_at_call 42; (with_reducible refine (in_of H6.out (by assumption)).mono ?_); rintro e1 w5 ⟨rfl, hk⟩)
    | (go_at_call 79; (with_reducible refine (in_of H7.out (by assumption)).mono ?_); rintro e1 w5 ⟨rfl, hk⟩))
  go_ret
  exact ⟨rfl, Kp.b (by assumption)⟩
set_option maxRecDepth 100000 in
set_option maxHeartbeats 1000000 in
theorem ratan2_q {y x d a q : Int} (H0 : Hid (All 64 #[.int .u64 y] (.bool false))) (H1 : Hid (All 64 #[.int .u64 x] (.bool false))) (H2 : Hid (All 66 #[.int .u64 x, .int .u64 0] (.bool false))) (H3 : Hid (All 77 #[.int .u64 x, .int .u64 0] (.bool true))) (H4 : Hid (All 69 #[.int .u64 y] (.bool false))) (H5 : Hid (All 70 #[.int .u64 y, .int .u64 x] (.int .u64 d))) (H6 : Hid (All 42 #[.int .u64 d] (.int .u64 a))) (H7 : Hid (All 80 #[.int .u64 a, .int .u64 4614256656552045848] (.int .u64 q))) : All 48 #[.int .u64 y, .int .u64 x] (.int .u64 q) := by
  intro w
  have hk := kp_start w
  go_enter Tryz.func48, Tryz.ntmps48
  go_wp2_with (first
    | (go_at_call 64; (with_reducible refine (in_of H0.out (by assumption)).mono ?_); rintro e1 w5 ⟨rfl, hk⟩)
    | (go_at_call 64; (with_reducible refine (in_of H1.out (by assumption)).mono ?_); rintro e1 w5 ⟨rfl, hk⟩)
    | (go_at_call 66; (with_reducible refine (in_of H2.out (by assumption)).mono ?_); rintro e1 w5 ⟨rfl, hk⟩)
    | (go_at_call 77; (with_reducible refine (in_of H3.out (by assumption)).mono ?_); rintro e1 w5 ⟨rfl, hk⟩)
    | (go_at_call 69; (with_reducible refine (in_of H4.out (by assumption)).mono ?_); rintro e1 w5 ⟨rfl, hk⟩)
    | (go_at_call 70; (with_reducible refine (in_of H5.out (by assumption)).mono ?_); rintro e1 w5 ⟨rfl, hk⟩)
    | (go_at_call 42; (with_reducible refine (in_of H6.out (by assumption)).mono ?_); rintro e1 w5 ⟨rfl, hk⟩)
    | (go_at_call 80; (with_reducible refine (in_of H7.out (by assumption)).mono ?_); rintro e1 w5 ⟨rfl, hk⟩))
  go_ret
  exact ⟨rfl, Kp.b (by assumption)⟩
set_option maxRecDepth 100000 in
set_option maxHeartbeats 1000000 in
theorem ratan2_a {y x : Int} (H0 : Hid (All 64 #[.int .u64 y] (.bool false))) (H1 : Hid (All 64 #[.int .u64 x] (.bool false))) (H2 : Hid (All 66 #[.int .u64 x, .int .u64 0] (.bool false))) (H3 : Hid (All 77 #[.int .u64 x, .int .u64 0] (.bool false))) (H4 : Hid (All 66 #[.int .u64 y, .int .u64 0] (.bool true))) : All 48 #[.int .u64 y, .int .u64 x] (.int .u64 4609753056924675352) := by
  intro w
  have hk := kp_start w
  go_enter Tryz.func48, Tryz.ntmps48
  go_wp2_with (first
    | (go_at_call 64; (with_reducible refine (in_of H0.out (by assumption)).mono ?_); rintro e1 w5 ⟨rfl, hk⟩)
    | (go_at_call 64; (with_reducible refine (in_of H1.out (by assumption)).mono ?_); rintro e1 w5 ⟨rfl, hk⟩)
    | (go_at_call 66; (with_reducible refine (in_of H2.out (by assumption)).mono ?_); rintro e1 w5 ⟨rfl, hk⟩)
    | (go_at_call 77; (with_reducible refine (in_of H3.out (by assumption)).mono ?_); rintro e1 w5 ⟨rfl, hk⟩)
    | (go_at_call 66; (with_reducible refine (in_of H4.out (by assumption)).mono ?_); rintro e1 w5 ⟨rfl, hk⟩))
  go_ret
  exact ⟨rfl, Kp.b (by assumption)⟩
set_option maxRecDepth 100000 in
set_option maxHeartbeats 1000000 in
theorem ratan2_b {y x q : Int} (H0 : Hid (All 64 #[.int .u64 y] (.bool false))) (H1 : Hid (All 64 #[.int .u64 x] (.bool false))) (H2 : Hid (All 66 #[.int .u64 x, .int .u64 0] (.bool false))) (H3 : Hid (All 77 #[.int .u64 x, .int .u64 0] (.bool false))) (H4 : Hid (All 66 #[.int .u64 y, .int .u64 0] (.bool false))) (H5 : Hid (All 77 #[.int .u64 y, .int .u64 0] (.bool true))) (H6 : Hid (All 89 #[.int .u64 4609753056924675352] (.int .u64 q))) : All 48 #[.int .u64 y, .int .u64 x] (.int .u64 q) := by
  intro w
  have hk := kp_start w
  go_enter Tryz.func48, Tryz.ntmps48
  go_wp2_with (first
    | (go_at_call 64; (with_reducible refine (in_of H0.out (by assumption)).mono ?_); rintro e1 w5 ⟨rfl, hk⟩)
    | (go_at_call 64; (with_reducible refine (in_of H1.out (by assumption)).mono ?_); rintro e1 w5 ⟨rfl, hk⟩)
    | (go_at_call 66; (with_reducible refine (in_of H2.out (by assumption)).mono ?_); rintro e1 w5 ⟨rfl, hk⟩)
    | (go_at_call 77; (with_reducible refine (in_of H3.out (by assumption)).mono ?_); rintro e1 w5 ⟨rfl, hk⟩)
    | (go_at_call 66; (with_reducible refine (in_of H4.out (by assumption)).mono ?_); rintro e1 w5 ⟨rfl, hk⟩)
    | (go_at_call 77; (with_reducible refine (in_of H5.out (by assumption)).mono ?_); rintro e1 w5 ⟨rfl, hk⟩)
    | (go_at_call 89; (with_reducible refine (in_of H6.out (by assumption)).mono ?_); rintro e1 w5 ⟨rfl, hk⟩))
  go_ret
  exact ⟨rfl, Kp.b (by assumption)⟩
set_option maxRecDepth 100000 in
set_option maxHeartbeats 1000000 in
theorem ratan2_z {y x : Int} (H0 : Hid (All 64 #[.int .u64 y] (.bool false))) (H1 : Hid (All 64 #[.int .u64 x] (.bool false))) (H2 : Hid (All 66 #[.int .u64 x, .int .u64 0] (.bool false))) (H3 : Hid (All 77 #[.int .u64 x, .int .u64 0] (.bool false))) (H4 : Hid (All 66 #[.int .u64 y, .int .u64 0] (.bool false))) (H5 : Hid (All 77 #[.int .u64 y, .int .u64 0] (.bool false))) : All 48 #[.int .u64 y, .int .u64 x] (.int .u64 y) := by
  intro w
  have hk := kp_start w
  go_enter Tryz.func48, Tryz.ntmps48
  go_wp2_with (first
    | (go_at_call 64; (with_reducible refine (in_of H0.out (by assumption)).mono ?_); rintro e1 w5 ⟨rfl, hk⟩)
    | (go_at_call 64; (with_reducible refine (in_of H1.out (by assumption)).mono ?_); rintro e1 w5 ⟨rfl, hk⟩)
    | (go_at_call 66; (with_reducible refine (in_of H2.out (by assumption)).mono ?_); rintro e1 w5 ⟨rfl, hk⟩)
    | (go_at_call 77; (with_reducible refine (in_of H3.out (by assumption)).mono ?_); rintro e1 w5 ⟨rfl, hk⟩)
    | (go_at_call 66; (with_reducible refine (in_of H4.out (by assumption)).mono ?_); rintro e1 w5 ⟨rfl, hk⟩)
    | (go_at_call 77; (with_reducible refine (in_of H5.out (by assumption)).mono ?_); rintro e1 w5 ⟨rfl, hk⟩))
  go_ret
  exact ⟨rfl, Kp.b (by assumption)⟩
