/- The reference's kernel, a walk for each way through each function. -/
import Derived.Test.YtkifdppppihjcaaGreatKB
namespace Go.Proofs.YtkifdppppihjcaaGreat
set_option linter.unusedVariables false
set_option linter.unusedSimpArgs false
open Go.RowKit Go.Shelf Go.ChangeShapes Go.WideShapes SF

set_option maxRecDepth 100000 in
set_option maxHeartbeats 1000000 in
theorem r5add_s {a b r : Int} (H0 : Hid (All 133 #[.int .u64 a, .int .u64 b] (.int .u64 r))) : All 80 #[.int .u64 a, .int .u64 b] (.int .u64 r) := by
  intro w
  have hk := kp_start w
  go_enter Tryz.func80, Tryz.ntmps80
  go_wp2_with (first
    | (go_at_call 133; (with_reducible refine (in_of H0.out (by assumption)).mono ?_); rintro e1 w5 ⟨rfl, hk⟩))
  go_ret
  exact ⟨rfl, Kp.b (by assumption)⟩
set_option maxRecDepth 100000 in
set_option maxHeartbeats 1000000 in
theorem r5sub_s {a b r : Int} (H0 : Hid (All 132 #[.int .u64 a, .int .u64 b] (.int .u64 r))) : All 79 #[.int .u64 a, .int .u64 b] (.int .u64 r) := by
  intro w
  have hk := kp_start w
  go_enter Tryz.func79, Tryz.ntmps79
  go_wp2_with (first
    | (go_at_call 132; (with_reducible refine (in_of H0.out (by assumption)).mono ?_); rintro e1 w5 ⟨rfl, hk⟩))
  go_ret
  exact ⟨rfl, Kp.b (by assumption)⟩
set_option maxRecDepth 100000 in
set_option maxHeartbeats 1000000 in
theorem r5mul_s {a b r : Int} (H0 : Hid (All 126 #[.int .u64 a, .int .u64 b] (.int .u64 r))) : All 68 #[.int .u64 a, .int .u64 b] (.int .u64 r) := by
  intro w
  have hk := kp_start w
  go_enter Tryz.func68, Tryz.ntmps68
  go_wp2_with (first
    | (go_at_call 126; (with_reducible refine (in_of H0.out (by assumption)).mono ?_); rintro e1 w5 ⟨rfl, hk⟩))
  go_ret
  exact ⟨rfl, Kp.b (by assumption)⟩
set_option maxRecDepth 100000 in
set_option maxHeartbeats 1000000 in
theorem r5div_s {a b r : Int} (H0 : Hid (All 127 #[.int .u64 a, .int .u64 b] (.int .u64 r))) : All 70 #[.int .u64 a, .int .u64 b] (.int .u64 r) := by
  intro w
  have hk := kp_start w
  go_enter Tryz.func70, Tryz.ntmps70
  go_wp2_with (first
    | (go_at_call 127; (with_reducible refine (in_of H0.out (by assumption)).mono ?_); rintro e1 w5 ⟨rfl, hk⟩))
  go_ret
  exact ⟨rfl, Kp.b (by assumption)⟩
set_option maxRecDepth 100000 in
set_option maxHeartbeats 1000000 in
theorem of_p {v r : Int} (hv : ¬ v < 0) (H0 : Hid (All 116 #[.int .i64 v, .int .i64 0] (.int .u64 r))) : All 62 #[.int .i64 v] (.int .u64 r) := by
  intro w
  have hk := kp_start w
  go_enter Tryz.func62, Tryz.ntmps62
  go_wp2_with (first
    | (go_at_call 116; (with_reducible refine (in_of H0.out (by assumption)).mono ?_); rintro e1 w5 ⟨rfl, hk⟩))
  go_ret
  exact ⟨rfl, Kp.b (by assumption)⟩
set_option maxRecDepth 100000 in
set_option maxHeartbeats 1000000 in
theorem of_n {v r : Int} (hv : v < 0) (H0 : Hid (All 116 #[.int .i64 v, .int .i64 (-1)] (.int .u64 r))) : All 62 #[.int .i64 v] (.int .u64 r) := by
  intro w
  have hk := kp_start w
  go_enter Tryz.func62, Tryz.ntmps62
  go_wp2_with (first
    | (go_at_call 116; (with_reducible refine (in_of H0.out (by assumption)).mono ?_); rintro e1 w5 ⟨rfl, hk⟩))
  go_ret
  exact ⟨rfl, Kp.b (by assumption)⟩
set_option maxRecDepth 100000 in
set_option maxHeartbeats 1000000 in
theorem rabove_0 {a b c : Int} (H0 : Hid (All 118 #[.int .u64 a, .int .u64 b] (.tuple #[.int .i64 c, .bool false]))) : All 66 #[.int .u64 a, .int .u64 b] (.bool (false && decide (0 < c))) := by
  intro w
  have hk := kp_start w
  go_enter Tryz.func66, Tryz.ntmps66
  go_wp2_with (first
    | (go_at_call 118; (with_reducible refine (in_of H0.out (by assumption)).mono ?_); rintro e1 w5 ⟨rfl, hk⟩))
  go_ret
  exact ⟨rfl, Kp.b (by assumption)⟩
set_option maxRecDepth 100000 in
set_option maxHeartbeats 1000000 in
theorem rabove_1 {a b c : Int} (H0 : Hid (All 118 #[.int .u64 a, .int .u64 b] (.tuple #[.int .i64 c, .bool true]))) : All 66 #[.int .u64 a, .int .u64 b] (.bool (true && decide (0 < c))) := by
  intro w
  have hk := kp_start w
  go_enter Tryz.func66, Tryz.ntmps66
  go_wp2_with (first
    | (go_at_call 118; (with_reducible refine (in_of H0.out (by assumption)).mono ?_); rintro e1 w5 ⟨rfl, hk⟩))
  go_ret
  exact ⟨rfl, Kp.b (by assumption)⟩
set_option maxRecDepth 100000 in
set_option maxHeartbeats 1000000 in
theorem rbelow_s {o : Bool} {a b : Int} (H0 : Hid (All 66 #[.int .u64 b, .int .u64 a] (.bool o))) : All 77 #[.int .u64 a, .int .u64 b] (.bool o) := by
  intro w
  have hk := kp_start w
  go_enter Tryz.func77, Tryz.ntmps77
  go_wp2_with (first
    | (go_at_call 66; (with_reducible refine (in_of H0.out (by assumption)).mono ?_); rintro e1 w5 ⟨rfl, hk⟩))
  go_ret
  exact ⟨rfl, Kp.b (by assumption)⟩
set_option maxRecDepth 100000 in
set_option maxHeartbeats 1000000 in
theorem rexp_n {x : Int} (H0 : Hid (All 64 #[.int .u64 x] (.bool true))) : All 12 #[.int .u64 x] (.int .u64 9221120237041090560) := by
  intro w
  have hk := kp_start w
  go_enter Tryz.func12, Tryz.ntmps12
  go_wp2_with (first
    | (go_at_call 64; (with_reducible refine (in_of H0.out (by assumption)).mono ?_); rintro e1 w5 ⟨rfl, hk⟩))
  go_ret
  exact ⟨rfl, Kp.b (by assumption)⟩
set_option maxRecDepth 100000 in
set_option maxHeartbeats 1000000 in
theorem rexp_hi {x c7 : Int} (H0 : Hid (All 64 #[.int .u64 x] (.bool false))) (H1 : Hid (All 62 #[.int .i64 710] (.int .u64 c7))) (H2 : Hid (All 66 #[.int .u64 x, .int .u64 c7] (.bool true))) : All 12 #[.int .u64 x] (.int .u64 9218868437227405312) := by
  intro w
  have hk := kp_start w
  go_enter Tryz.func12, Tryz.ntmps12
  go_wp2_with (first
    | (go_at_call 64; (with_reducible refine (in_of H0.out (by assumption)).mono ?_); rintro e1 w5 ⟨rfl, hk⟩)
    | (go_at_call 62; (with_reducible refine (in_of H1.out (by assumption)).mono ?_); rintro e1 w5 ⟨rfl, hk⟩)
    | (go_at_call 66; (with_reducible refine (in_of H2.out (by assumption)).mono ?_); rintro e1 w5 ⟨rfl, hk⟩))
  go_ret
  exact ⟨rfl, Kp.b (by assumption)⟩
set_option maxRecDepth 100000 in
set_option maxHeartbeats 1000000 in
theorem rexp_lo {x c7 c8 : Int} (H0 : Hid (All 64 #[.int .u64 x] (.bool false))) (H1 : Hid (All 62 #[.int .i64 710] (.int .u64 c7))) (H2 : Hid (All 66 #[.int .u64 x, .int .u64 c7] (.bool false))) (H3 : Hid (All 62 #[.int .i64 (-746)] (.int .u64 c8))) (H4 : Hid (All 77 #[.int .u64 x, .int .u64 c8] (.bool true))) : All 12 #[.int .u64 x] (.int .u64 0) := by
  intro w
  have hk := kp_start w
  go_enter Tryz.func12, Tryz.ntmps12
  go_wp2_with (first
    | (go_at_call 64; (with_reducible refine (in_of H0.out (by assumption)).mono ?_); rintro e1 w5 ⟨rfl, hk⟩)
    | (go_at_call 62; (with_reducible refine (in_of H1.out (by assumption)).mono ?_); rintro e1 w5 ⟨rfl, hk⟩)
    | (go_at_call 66; (with_reducible refine (in_of H2.out (by assumption)).mono ?_); rintro e1 w5 ⟨rfl, hk⟩)
    | (go_at_call 62; (with_reducible refine (in_of H3.out (by assumption)).mono ?_); rintro e1 w5 ⟨rfl, hk⟩)
    | (go_at_call 77; (with_reducible refine (in_of H4.out (by assumption)).mono ?_); rintro e1 w5 ⟨rfl, hk⟩))
  go_ret
  exact ⟨rfl, Kp.b (by assumption)⟩
set_option maxRecDepth 100000 in
set_option maxHeartbeats 1000000 in
theorem rexp_f {x c7 c8 k0 k9 a1 a2 a3 r c1 n n1 n2 p z : Int} {P : Int → Int} (H0 : Hid (All 64 #[.int .u64 x] (.bool false))) (H1 : Hid (All 62 #[.int .i64 710] (.int .u64 c7))) (H2 : Hid (All 66 #[.int .u64 x, .int .u64 c7] (.bool false))) (H3 : Hid (All 62 #[.int .i64 (-746)] (.int .u64 c8))) (H4 : Hid (All 77 #[.int .u64 x, .int .u64 c8] (.bool false))) (H5 : Hid (All 68 #[.int .u64 x, .int .u64 4609176140021203710] (.int .u64 k0))) (H6 : Hid (All 78 #[.int .u64 k0] (.int .u64 k9))) (H7 : Hid (All 68 #[.int .u64 k9, .int .u64 4604418534311723008] (.int .u64 a1))) (H8 : Hid (All 79 #[.int .u64 x, .int .u64 a1] (.int .u64 a2))) (H9 : Hid (All 68 #[.int .u64 k9, .int .u64 4461442080421002358] (.int .u64 a3))) (H10 : Hid (All 79 #[.int .u64 a2, .int .u64 a3] (.int .u64 r))) (H11 : Hid (All 62 #[.int .i64 1] (.int .u64 c1))) (H12 : Hid (All 67 #[.int .u64 k9] (.tuple #[.int .i64 n, .int .i64 n1, .int .i64 n2]))) (H13 : Hid (All 81 #[.int .u64 p, .int .i64 n] (.int .u64 z))) (L0 : Hid (∀ k : Int, 1 ≤ k → k ≤ 13 → ∃ o d m : Int, Hid (All 62 #[.int .i64 k] (.int .u64 o)) ∧ Hid (All 70 #[.int .u64 r, .int .u64 o] (.int .u64 d)) ∧ Hid (All 68 #[.int .u64 d, .int .u64 (P k)] (.int .u64 m)) ∧ Hid (All 80 #[.int .u64 c1, .int .u64 m] (.int .u64 (P (k - 1)))))) (B0 : P 13 = c1) (E0 : P (1 - 1) = p) : All 12 #[.int .u64 x] (.int .u64 z) := by
  intro w
  have hk := kp_start w
  go_enter Tryz.func12, Tryz.ntmps12
  go_wp2_with (first
        | (go_at_call 64; (with_reducible refine (in_of H0.out (by assumption)).mono ?_); rintro e1 w5 ⟨rfl, hk⟩)
        | (go_at_call 62; (with_reducible refine (in_of H1.out (by assumption)).mono ?_); rintro e1 w5 ⟨rfl, hk⟩)
        | (go_at_call 66; (with_reducible refine (in_of H2.out (by assumption)).mono ?_); rintro e1 w5 ⟨rfl, hk⟩)
        | (go_at_call 62; (with_reducible refine (in_of H3.out (by assumption)).mono ?_); rintro e1 w5 ⟨rfl, hk⟩)
        | (go_at_call 77; (with_reducible refine (in_of H4.out (by assumption)).mono ?_); rintro e1 w5 ⟨rfl, hk⟩)
        | (go_at_call 68; (with_reducible refine (in_of H5.out (by assumption)).mono ?_); rintro e1 w5 ⟨rfl, hk⟩)
        | (go_at_call 78; (with_reducible refine (in_of H6.out (by assumption)).mono ?_); rintro e1 w5 ⟨rfl, hk⟩)
        | (go_at_call 68; (with_reducible refine (in_of H7.out (by assumption)).mono ?_); rintro e1 w5 ⟨rfl, hk⟩)
        | (go_at_call 79; (with_reducible refine (in_of H8.out (by assumption)).mono ?_); rintro e1 w5 ⟨rfl, hk⟩)
        | (go_at_call 68; (with_reducible refine (in_of H9.out (by assumption)).mono ?_); rintro e1 w5 ⟨rfl, hk⟩)
        | (go_at_call 79; (with_reducible refine (in_of H10.out (by assumption)).mono ?_); rintro e1 w5 ⟨rfl, hk⟩)
        | (go_at_call 62; (with_reducible refine (in_of H11.out (by assumption)).mono ?_); rintro e1 w5 ⟨rfl, hk⟩)
        | (go_at_call 67; (with_reducible refine (in_of H12.out (by assumption)).mono ?_); rintro e1 w5 ⟨rfl, hk⟩)
        | (go_at_call 81; (with_reducible refine (in_of H13.out (by assumption)).mono ?_); rintro e1 w5 ⟨rfl, hk⟩))
  go_loopw [5, 6] (fun v5 v6 wr => ∃ k : Int, 1 - 1 ≤ k ∧ k ≤ 13 ∧ v5 = .int .u64 (P k) ∧ v6 = .int .i64 (k) ∧ Kp w [] wr) (fun v5 v6 _ => (intOf v6 - 1 + 1).toNat)
  case atStart => exact ⟨13, by omega, by omega, by rw [B0], rfl, by assumption⟩
  case round =>
    obtain ⟨k, k1, k2, rfl, rfl, hk⟩ := hrel
    by_cases hb : 1 ≤ k
    · obtain ⟨o, d, m, G0, G1, G2, G3⟩ := L0.out k hb k2
      go_wp2_with (first
            | (go_at_call 64; (with_reducible refine (in_of H0.out (by assumption)).mono ?_); rintro e1 w5 ⟨rfl, hk⟩)
            | (go_at_call 62; (with_reducible refine (in_of H1.out (by assumption)).mono ?_); rintro e1 w5 ⟨rfl, hk⟩)
            | (go_at_call 66; (with_reducible refine (in_of H2.out (by assumption)).mono ?_); rintro e1 w5 ⟨rfl, hk⟩)
            | (go_at_call 62; (with_reducible refine (in_of H3.out (by assumption)).mono ?_); rintro e1 w5 ⟨rfl, hk⟩)
            | (go_at_call 77; (with_reducible refine (in_of H4.out (by assumption)).mono ?_); rintro e1 w5 ⟨rfl, hk⟩)
            | (go_at_call 68; (with_reducible refine (in_of H5.out (by assumption)).mono ?_); rintro e1 w5 ⟨rfl, hk⟩)
            | (go_at_call 78; (with_reducible refine (in_of H6.out (by assumption)).mono ?_); rintro e1 w5 ⟨rfl, hk⟩)
            | (go_at_call 68; (with_reducible refine (in_of H7.out (by assumption)).mono ?_); rintro e1 w5 ⟨rfl, hk⟩)
            | (go_at_call 79; (with_reducible refine (in_of H8.out (by assumption)).mono ?_); rintro e1 w5 ⟨rfl, hk⟩)
            | (go_at_call 68; (with_reducible refine (in_of H9.out (by assumption)).mono ?_); rintro e1 w5 ⟨rfl, hk⟩)
            | (go_at_call 79; (with_reducible refine (in_of H10.out (by assumption)).mono ?_); rintro e1 w5 ⟨rfl, hk⟩)
            | (go_at_call 62; (with_reducible refine (in_of H11.out (by assumption)).mono ?_); rintro e1 w5 ⟨rfl, hk⟩)
            | (go_at_call 67; (with_reducible refine (in_of H12.out (by assumption)).mono ?_); rintro e1 w5 ⟨rfl, hk⟩)
            | (go_at_call 81; (with_reducible refine (in_of H13.out (by assumption)).mono ?_); rintro e1 w5 ⟨rfl, hk⟩)
            | (go_at_call 62; (with_reducible refine (in_of G0.out (by assumption)).mono ?_); rintro e1 w5 ⟨rfl, hk⟩)
            | (go_at_call 70; (with_reducible refine (in_of G1.out (by assumption)).mono ?_); rintro e1 w5 ⟨rfl, hk⟩)
            | (go_at_call 68; (with_reducible refine (in_of G2.out (by assumption)).mono ?_); rintro e1 w5 ⟨rfl, hk⟩)
            | (go_at_call 80; (with_reducible refine (in_of G3.out (by assumption)).mono ?_); rintro e1 w5 ⟨rfl, hk⟩))
      go_roundw
      case rel => exact ⟨k - 1, by omega, by omega, rfl, by go_num, by assumption⟩
      case measure => simp [intOf]; omega
    · have e : 1 - 1 = k := by omega
      subst e
      rw [E0]
      go_wp2_with (first
            | (go_at_call 64; (with_reducible refine (in_of H0.out (by assumption)).mono ?_); rintro e1 w5 ⟨rfl, hk⟩)
            | (go_at_call 62; (with_reducible refine (in_of H1.out (by assumption)).mono ?_); rintro e1 w5 ⟨rfl, hk⟩)
            | (go_at_call 66; (with_reducible refine (in_of H2.out (by assumption)).mono ?_); rintro e1 w5 ⟨rfl, hk⟩)
            | (go_at_call 62; (with_reducible refine (in_of H3.out (by assumption)).mono ?_); rintro e1 w5 ⟨rfl, hk⟩)
            | (go_at_call 77; (with_reducible refine (in_of H4.out (by assumption)).mono ?_); rintro e1 w5 ⟨rfl, hk⟩)
            | (go_at_call 68; (with_reducible refine (in_of H5.out (by assumption)).mono ?_); rintro e1 w5 ⟨rfl, hk⟩)
            | (go_at_call 78; (with_reducible refine (in_of H6.out (by assumption)).mono ?_); rintro e1 w5 ⟨rfl, hk⟩)
            | (go_at_call 68; (with_reducible refine (in_of H7.out (by assumption)).mono ?_); rintro e1 w5 ⟨rfl, hk⟩)
            | (go_at_call 79; (with_reducible refine (in_of H8.out (by assumption)).mono ?_); rintro e1 w5 ⟨rfl, hk⟩)
            | (go_at_call 68; (with_reducible refine (in_of H9.out (by assumption)).mono ?_); rintro e1 w5 ⟨rfl, hk⟩)
            | (go_at_call 79; (with_reducible refine (in_of H10.out (by assumption)).mono ?_); rintro e1 w5 ⟨rfl, hk⟩)
            | (go_at_call 62; (with_reducible refine (in_of H11.out (by assumption)).mono ?_); rintro e1 w5 ⟨rfl, hk⟩)
            | (go_at_call 67; (with_reducible refine (in_of H12.out (by assumption)).mono ?_); rintro e1 w5 ⟨rfl, hk⟩)
            | (go_at_call 81; (with_reducible refine (in_of H13.out (by assumption)).mono ?_); rintro e1 w5 ⟨rfl, hk⟩))
      go_ret
      exact ⟨rfl, Kp.b (by assumption)⟩
set_option maxRecDepth 100000 in
set_option maxHeartbeats 1000000 in
theorem rln_n {x : Int} (H0 : Hid (All 64 #[.int .u64 x] (.bool true))) : All 14 #[.int .u64 x] (.int .u64 9221120237041090560) := by
  intro w
  have hk := kp_start w
  go_enter Tryz.func14, Tryz.ntmps14
  go_wp2_with (first
    | (go_at_call 64; (with_reducible refine (in_of H0.out (by assumption)).mono ?_); rintro e1 w5 ⟨rfl, hk⟩))
  go_ret
  exact ⟨rfl, Kp.b (by assumption)⟩
set_option maxRecDepth 100000 in
set_option maxHeartbeats 1000000 in
theorem rln_m {x : Int} (H0 : Hid (All 64 #[.int .u64 x] (.bool false))) (H1 : Hid (All 77 #[.int .u64 x, .int .u64 0] (.bool true))) : All 14 #[.int .u64 x] (.int .u64 9221120237041090560) := by
  intro w
  have hk := kp_start w
  go_enter Tryz.func14, Tryz.ntmps14
  go_wp2_with (first
    | (go_at_call 64; (with_reducible refine (in_of H0.out (by assumption)).mono ?_); rintro e1 w5 ⟨rfl, hk⟩)
    | (go_at_call 77; (with_reducible refine (in_of H1.out (by assumption)).mono ?_); rintro e1 w5 ⟨rfl, hk⟩))
  go_ret
  exact ⟨rfl, Kp.b (by assumption)⟩
set_option maxRecDepth 100000 in
set_option maxHeartbeats 1000000 in
theorem rln_z {x q : Int} (H0 : Hid (All 64 #[.int .u64 x] (.bool false))) (H1 : Hid (All 77 #[.int .u64 x, .int .u64 0] (.bool false))) (H2 : Hid (All 61 #[.int .u64 x] (.bool true))) (H3 : Hid (All 89 #[.int .u64 9218868437227405312] (.int .u64 q))) : All 14 #[.int .u64 x] (.int .u64 q) := by
  intro w
  have hk := kp_start w
  go_enter Tryz.func14, Tryz.ntmps14
  go_wp2_with (first
    | (go_at_call 64; (with_reducible refine (in_of H0.out (by assumption)).mono ?_); rintro e1 w5 ⟨rfl, hk⟩)
    | (go_at_call 77; (with_reducible refine (in_of H1.out (by assumption)).mono ?_); rintro e1 w5 ⟨rfl, hk⟩)
    | (go_at_call 61; (with_reducible refine (in_of H2.out (by assumption)).mono ?_); rintro e1 w5 ⟨rfl, hk⟩)
    | (go_at_call 89; (with_reducible refine (in_of H3.out (by assumption)).mono ?_); rintro e1 w5 ⟨rfl, hk⟩))
  go_ret
  exact ⟨rfl, Kp.b (by assumption)⟩
set_option maxRecDepth 100000 in
set_option maxHeartbeats 1000000 in
theorem rln_i {x : Int} (hx : (x == 9218868437227405312) = true) (H0 : Hid (All 64 #[.int .u64 x] (.bool false))) (H1 : Hid (All 77 #[.int .u64 x, .int .u64 0] (.bool false))) (H2 : Hid (All 61 #[.int .u64 x] (.bool false))) : All 14 #[.int .u64 x] (.int .u64 9218868437227405312) := by
  intro w
  have hk := kp_start w
  go_enter Tryz.func14, Tryz.ntmps14
  go_wp2_with (first
    | (go_at_call 64; (with_reducible refine (in_of H0.out (by assumption)).mono ?_); rintro e1 w5 ⟨rfl, hk⟩)
    | (go_at_call 77; (with_reducible refine (in_of H1.out (by assumption)).mono ?_); rintro e1 w5 ⟨rfl, hk⟩)
    | (go_at_call 61; (with_reducible refine (in_of H2.out (by assumption)).mono ?_); rintro e1 w5 ⟨rfl, hk⟩))
  go_ret
  exact ⟨rfl, Kp.b (by assumption)⟩
set_option maxRecDepth 100000 in
set_option maxHeartbeats 1000000 in
theorem rln_g {J L x c1 c2 m1 m2 m3 s1 s2 s z c21 p0 kf t1 t2 p t3 q : Int} {M N P : Int → Int} (hx : (x == 9218868437227405312) = false) (j1 : 0 ≤ J) (j2 : J ≤ 3000) (l1 : 0 ≤ L) (l2 : L ≤ 3000) (H0 : Hid (All 64 #[.int .u64 x] (.bool false))) (H1 : Hid (All 77 #[.int .u64 x, .int .u64 0] (.bool false))) (H2 : Hid (All 61 #[.int .u64 x] (.bool false))) (H3 : Hid (All 62 #[.int .i64 1] (.int .u64 c1))) (H4 : Hid (All 62 #[.int .i64 2] (.int .u64 c2))) (H5 : Hid (All 77 #[.int .u64 m1, .int .u64 c1] (.bool false))) (H6 : Hid (All 77 #[.int .u64 m2, .int .u64 c2] (.bool true))) (H7 : Hid (All 66 #[.int .u64 m2, .int .u64 4609047870845172685] (.bool true))) (H8 : Hid (All 70 #[.int .u64 m2, .int .u64 c2] (.int .u64 m3))) (H9 : Hid (All 79 #[.int .u64 m3, .int .u64 c1] (.int .u64 s1))) (H10 : Hid (All 80 #[.int .u64 m3, .int .u64 c1] (.int .u64 s2))) (H11 : Hid (All 70 #[.int .u64 s1, .int .u64 s2] (.int .u64 s))) (H12 : Hid (All 68 #[.int .u64 s, .int .u64 s] (.int .u64 z))) (H13 : Hid (All 62 #[.int .i64 21] (.int .u64 c21))) (H14 : Hid (All 70 #[.int .u64 c1, .int .u64 c21] (.int .u64 p0))) (H15 : Hid (All 62 #[.int .i64 (L - J + 1)] (.int .u64 kf))) (H16 : Hid (All 68 #[.int .u64 kf, .int .u64 4604418534313441775] (.int .u64 t1))) (H17 : Hid (All 68 #[.int .u64 c2, .int .u64 s] (.int .u64 t2))) (H18 : Hid (All 68 #[.int .u64 t2, .int .u64 p] (.int .u64 t3))) (H19 : Hid (All 80 #[.int .u64 t1, .int .u64 t3] (.int .u64 q))) (L0 : Hid (∀ k : Int, 0 ≤ k → k < J → ∃ z0 : Int, Hid (All 77 #[.int .u64 (M k), .int .u64 c1] (.bool true)) ∧ Hid (All 81 #[.int .u64 (M k), .int .i64 1] (.int .u64 (M (k + 1)))))) (B0 : M 0 = x) (E0 : M J = m1) (L1 : Hid (∀ k : Int, 0 ≤ k → k < L → ∃ z0 : Int, Hid (All 77 #[.int .u64 (N k), .int .u64 c2] (.bool false)) ∧ Hid (All 81 #[.int .u64 (N k), .int .i64 (-1)] (.int .u64 (N (k + 1)))))) (B1 : N 0 = m1) (E1 : N L = m2) (L2 : Hid (∀ k : Int, 0 ≤ k → k ≤ 9 → ∃ o d m : Int, Hid (All 62 #[.int .i64 (2 * k + 1)] (.int .u64 o)) ∧ Hid (All 70 #[.int .u64 c1, .int .u64 o] (.int .u64 d)) ∧ Hid (All 68 #[.int .u64 z, .int .u64 (P k)] (.int .u64 m)) ∧ Hid (All 80 #[.int .u64 d, .int .u64 m] (.int .u64 (P (k - 1)))))) (B2 : P 9 = p0) (E2 : P (0 - 1) = p) : All 14 #[.int .u64 x] (.int .u64 q) := by
  intro w
  have hk := kp_start w
  go_enter Tryz.func14, Tryz.ntmps14
  go_wp2_with (first
        | (go_at_call 64; (with_reducible refine (in_of H0.out (by assumption)).mono ?_); rintro e1 w5 ⟨rfl, hk⟩)
        | (go_at_call 77; (with_reducible refine (in_of H1.out (by assumption)).mono ?_); rintro e1 w5 ⟨rfl, hk⟩)
        | (go_at_call 61; (with_reducible refine (in_of H2.out (by assumption)).mono ?_); rintro e1 w5 ⟨rfl, hk⟩)
        | (go_at_call 62; (with_reducible refine (in_of H3.out (by assumption)).mono ?_); rintro e1 w5 ⟨rfl, hk⟩)
        | (go_at_call 62; (with_reducible refine (in_of H4.out (by assumption)).mono ?_); rintro e1 w5 ⟨rfl, hk⟩)
        | (go_at_call 77; (with_reducible refine (in_of H5.out (by assumption)).mono ?_); rintro e1 w5 ⟨rfl, hk⟩)
        | (go_at_call 77; (with_reducible refine (in_of H6.out (by assumption)).mono ?_); rintro e1 w5 ⟨rfl, hk⟩)
        | (go_at_call 66; (with_reducible refine (in_of H7.out (by assumption)).mono ?_); rintro e1 w5 ⟨rfl, hk⟩)
        | (go_at_call 70; (with_reducible refine (in_of H8.out (by assumption)).mono ?_); rintro e1 w5 ⟨rfl, hk⟩)
        | (go_at_call 79; (with_reducible refine (in_of H9.out (by assumption)).mono ?_); rintro e1 w5 ⟨rfl, hk⟩)
        | (go_at_call 80; (with_reducible refine (in_of H10.out (by assumption)).mono ?_); rintro e1 w5 ⟨rfl, hk⟩)
        | (go_at_call 70; (with_reducible refine (in_of H11.out (by assumption)).mono ?_); rintro e1 w5 ⟨rfl, hk⟩)
        | (go_at_call 68; (with_reducible refine (in_of H12.out (by assumption)).mono ?_); rintro e1 w5 ⟨rfl, hk⟩)
        | (go_at_call 62; (with_reducible refine (in_of H13.out (by assumption)).mono ?_); rintro e1 w5 ⟨rfl, hk⟩)
        | (go_at_call 70; (with_reducible refine (in_of H14.out (by assumption)).mono ?_); rintro e1 w5 ⟨rfl, hk⟩)
        | (go_at_call 62; (with_reducible refine (in_of_i H15.out (by omega) (by assumption)).mono ?_); rintro e1 w5 ⟨rfl, hk⟩)
        | (go_at_call 68; (with_reducible refine (in_of H16.out (by assumption)).mono ?_); rintro e1 w5 ⟨rfl, hk⟩)
        | (go_at_call 68; (with_reducible refine (in_of H17.out (by assumption)).mono ?_); rintro e1 w5 ⟨rfl, hk⟩)
        | (go_at_call 68; (with_reducible refine (in_of H18.out (by assumption)).mono ?_); rintro e1 w5 ⟨rfl, hk⟩)
        | (go_at_call 80; (with_reducible refine (in_of H19.out (by assumption)).mono ?_); rintro e1 w5 ⟨rfl, hk⟩))
  go_loopw [3, 4] (fun v3 v4 wr => ∃ k : Int, 0 ≤ k ∧ k ≤ J ∧ v3 = .int .u64 (M k) ∧ v4 = .int .i64 (-k) ∧ Kp w [] wr) (fun v3 v4 _ => (J + intOf v4).toNat)
  case atStart => exact ⟨0, by omega, by omega, by rw [B0], by go_num, by assumption⟩
  case round =>
    obtain ⟨k, k1, k2, rfl, rfl, hk⟩ := hrel
    by_cases hb : k < J
    · obtain ⟨z0, G0, G1⟩ := L0.out k k1 hb
      go_wp2_with (first
            | (go_at_call 64; (with_reducible refine (in_of H0.out (by assumption)).mono ?_); rintro e1 w5 ⟨rfl, hk⟩)
            | (go_at_call 77; (with_reducible refine (in_of H1.out (by assumption)).mono ?_); rintro e1 w5 ⟨rfl, hk⟩)
            | (go_at_call 61; (with_reducible refine (in_of H2.out (by assumption)).mono ?_); rintro e1 w5 ⟨rfl, hk⟩)
            | (go_at_call 62; (with_reducible refine (in_of H3.out (by assumption)).mono ?_); rintro e1 w5 ⟨rfl, hk⟩)
            | (go_at_call 62; (with_reducible refine (in_of H4.out (by assumption)).mono ?_); rintro e1 w5 ⟨rfl, hk⟩)
            | (go_at_call 77; (with_reducible refine (in_of H5.out (by assumption)).mono ?_); rintro e1 w5 ⟨rfl, hk⟩)
            | (go_at_call 77; (with_reducible refine (in_of H6.out (by assumption)).mono ?_); rintro e1 w5 ⟨rfl, hk⟩)
            | (go_at_call 66; (with_reducible refine (in_of H7.out (by assumption)).mono ?_); rintro e1 w5 ⟨rfl, hk⟩)
            | (go_at_call 70; (with_reducible refine (in_of H8.out (by assumption)).mono ?_); rintro e1 w5 ⟨rfl, hk⟩)
            | (go_at_call 79; (with_reducible refine (in_of H9.out (by assumption)).mono ?_); rintro e1 w5 ⟨rfl, hk⟩)
            | (go_at_call 80; (with_reducible refine (in_of H10.out (by assumption)).mono ?_); rintro e1 w5 ⟨rfl, hk⟩)
            | (go_at_call 70; (with_reducible refine (in_of H11.out (by assumption)).mono ?_); rintro e1 w5 ⟨rfl, hk⟩)
            | (go_at_call 68; (with_reducible refine (in_of H12.out (by assumption)).mono ?_); rintro e1 w5 ⟨rfl, hk⟩)
            | (go_at_call 62; (with_reducible refine (in_of H13.out (by assumption)).mono ?_); rintro e1 w5 ⟨rfl, hk⟩)
            | (go_at_call 70; (with_reducible refine (in_of H14.out (by assumption)).mono ?_); rintro e1 w5 ⟨rfl, hk⟩)
            | (go_at_call 62; (with_reducible refine (in_of_i H15.out (by omega) (by assumption)).mono ?_); rintro e1 w5 ⟨rfl, hk⟩)
            | (go_at_call 68; (with_reducible refine (in_of H16.out (by assumption)).mono ?_); rintro e1 w5 ⟨rfl, hk⟩)
            | (go_at_call 68; (with_reducible refine (in_of H17.out (by assumption)).mono ?_); rintro e1 w5 ⟨rfl, hk⟩)
            | (go_at_call 68; (with_reducible refine (in_of H18.out (by assumption)).mono ?_); rintro e1 w5 ⟨rfl, hk⟩)
            | (go_at_call 80; (with_reducible refine (in_of H19.out (by assumption)).mono ?_); rintro e1 w5 ⟨rfl, hk⟩)
            | (go_at_call 77; (with_reducible refine (in_of G0.out (by assumption)).mono ?_); rintro e1 w5 ⟨rfl, hk⟩)
            | (go_at_call 81; (with_reducible refine (in_of G1.out (by assumption)).mono ?_); rintro e1 w5 ⟨rfl, hk⟩))
      go_roundw
      case rel => exact ⟨k + 1, by omega, by omega, rfl, by go_num, by assumption⟩
      case measure => simp [intOf]; omega
    · have e : J = k := by omega
      subst e
      rw [E0]
      go_wp2_with (first
            | (go_at_call 64; (with_reducible refine (in_of H0.out (by assumption)).mono ?_); rintro e1 w5 ⟨rfl, hk⟩)
            | (go_at_call 77; (with_reducible refine (in_of H1.out (by assumption)).mono ?_); rintro e1 w5 ⟨rfl, hk⟩)
            | (go_at_call 61; (with_reducible refine (in_of H2.out (by assumption)).mono ?_); rintro e1 w5 ⟨rfl, hk⟩)
            | (go_at_call 62; (with_reducible refine (in_of H3.out (by assumption)).mono ?_); rintro e1 w5 ⟨rfl, hk⟩)
            | (go_at_call 62; (with_reducible refine (in_of H4.out (by assumption)).mono ?_); rintro e1 w5 ⟨rfl, hk⟩)
            | (go_at_call 77; (with_reducible refine (in_of H5.out (by assumption)).mono ?_); rintro e1 w5 ⟨rfl, hk⟩)
            | (go_at_call 77; (with_reducible refine (in_of H6.out (by assumption)).mono ?_); rintro e1 w5 ⟨rfl, hk⟩)
            | (go_at_call 66; (with_reducible refine (in_of H7.out (by assumption)).mono ?_); rintro e1 w5 ⟨rfl, hk⟩)
            | (go_at_call 70; (with_reducible refine (in_of H8.out (by assumption)).mono ?_); rintro e1 w5 ⟨rfl, hk⟩)
            | (go_at_call 79; (with_reducible refine (in_of H9.out (by assumption)).mono ?_); rintro e1 w5 ⟨rfl, hk⟩)
            | (go_at_call 80; (with_reducible refine (in_of H10.out (by assumption)).mono ?_); rintro e1 w5 ⟨rfl, hk⟩)
            | (go_at_call 70; (with_reducible refine (in_of H11.out (by assumption)).mono ?_); rintro e1 w5 ⟨rfl, hk⟩)
            | (go_at_call 68; (with_reducible refine (in_of H12.out (by assumption)).mono ?_); rintro e1 w5 ⟨rfl, hk⟩)
            | (go_at_call 62; (with_reducible refine (in_of H13.out (by assumption)).mono ?_); rintro e1 w5 ⟨rfl, hk⟩)
            | (go_at_call 70; (with_reducible refine (in_of H14.out (by assumption)).mono ?_); rintro e1 w5 ⟨rfl, hk⟩)
            | (go_at_call 62; (with_reducible refine (in_of_i H15.out (by omega) (by assumption)).mono ?_); rintro e1 w5 ⟨rfl, hk⟩)
            | (go_at_call 68; (with_reducible refine (in_of H16.out (by assumption)).mono ?_); rintro e1 w5 ⟨rfl, hk⟩)
            | (go_at_call 68; (with_reducible refine (in_of H17.out (by assumption)).mono ?_); rintro e1 w5 ⟨rfl, hk⟩)
            | (go_at_call 68; (with_reducible refine (in_of H18.out (by assumption)).mono ?_); rintro e1 w5 ⟨rfl, hk⟩)
            | (go_at_call 80; (with_reducible refine (in_of H19.out (by assumption)).mono ?_); rintro e1 w5 ⟨rfl, hk⟩))
      go_loopw [3, 4] (fun v3 v4 wr => ∃ k : Int, 0 ≤ k ∧ k ≤ L ∧ v3 = .int .u64 (N k) ∧ v4 = .int .i64 (k - J) ∧ Kp w [] wr) (fun v3 v4 _ => (L - J - intOf v4).toNat)
      case atStart => exact ⟨0, by omega, by omega, by rw [B1], by go_num, by assumption⟩
      case round =>
        obtain ⟨k, k1, k2, rfl, rfl, hk⟩ := hrel
        by_cases hb : k < L
        · obtain ⟨z0, G0, G1⟩ := L1.out k k1 hb
          go_wp2_with (first
                | (go_at_call 64; (with_reducible refine (in_of H0.out (by assumption)).mono ?_); rintro e1 w5 ⟨rfl, hk⟩)
                | (go_at_call 77; (with_reducible refine (in_of H1.out (by assumption)).mono ?_); rintro e1 w5 ⟨rfl, hk⟩)
                | (go_at_call 61; (with_reducible refine (in_of H2.out (by assumption)).mono ?_); rintro e1 w5 ⟨rfl, hk⟩)
                | (go_at_call 62; (with_reducible refine (in_of H3.out (by assumption)).mono ?_); rintro e1 w5 ⟨rfl, hk⟩)
                | (go_at_call 62; (with_reducible refine (in_of H4.out (by assumption)).mono ?_); rintro e1 w5 ⟨rfl, hk⟩)
                | (go_at_call 77; (with_reducible refine (in_of H5.out (by assumption)).mono ?_); rintro e1 w5 ⟨rfl, hk⟩)
                | (go_at_call 77; (with_reducible refine (in_of H6.out (by assumption)).mono ?_); rintro e1 w5 ⟨rfl, hk⟩)
                | (go_at_call 66; (with_reducible refine (in_of H7.out (by assumption)).mono ?_); rintro e1 w5 ⟨rfl, hk⟩)
                | (go_at_call 70; (with_reducible refine (in_of H8.out (by assumption)).mono ?_); rintro e1 w5 ⟨rfl, hk⟩)
                | (go_at_call 79; (with_reducible refine (in_of H9.out (by assumption)).mono ?_); rintro e1 w5 ⟨rfl, hk⟩)
                | (go_at_call 80; (with_reducible refine (in_of H10.out (by assumption)).mono ?_); rintro e1 w5 ⟨rfl, hk⟩)
                | (go_at_call 70; (with_reducible refine (in_of H11.out (by assumption)).mono ?_); rintro e1 w5 ⟨rfl, hk⟩)
                | (go_at_call 68; (with_reducible refine (in_of H12.out (by assumption)).mono ?_); rintro e1 w5 ⟨rfl, hk⟩)
                | (go_at_call 62; (with_reducible refine (in_of H13.out (by assumption)).mono ?_); rintro e1 w5 ⟨rfl, hk⟩)
                | (go_at_call 70; (with_reducible refine (in_of H14.out (by assumption)).mono ?_); rintro e1 w5 ⟨rfl, hk⟩)
                | (go_at_call 62; (with_reducible refine (in_of_i H15.out (by omega) (by assumption)).mono ?_); rintro e1 w5 ⟨rfl, hk⟩)
                | (go_at_call 68; (with_reducible refine (in_of H16.out (by assumption)).mono ?_); rintro e1 w5 ⟨rfl, hk⟩)
                | (go_at_call 68; (with_reducible refine (in_of H17.out (by assumption)).mono ?_); rintro e1 w5 ⟨rfl, hk⟩)
                | (go_at_call 68; (with_reducible refine (in_of H18.out (by assumption)).mono ?_); rintro e1 w5 ⟨rfl, hk⟩)
                | (go_at_call 80; (with_reducible refine (in_of H19.out (by assumption)).mono ?_); rintro e1 w5 ⟨rfl, hk⟩)
                | (go_at_call 77; (with_reducible refine (in_of G0.out (by assumption)).mono ?_); rintro e1 w5 ⟨rfl, hk⟩)
                | (go_at_call 81; (with_reducible refine (in_of G1.out (by assumption)).mono ?_); rintro e1 w5 ⟨rfl, hk⟩))
          go_roundw
          case rel => exact ⟨k + 1, by omega, by omega, rfl, by go_num, by assumption⟩
          case measure => simp [intOf]; omega
        · have e : L = k := by omega
          subst e
          rw [E1]
          go_wp2_with (first
                | (go_at_call 64; (with_reducible refine (in_of H0.out (by assumption)).mono ?_); rintro e1 w5 ⟨rfl, hk⟩)
                | (go_at_call 77; (with_reducible refine (in_of H1.out (by assumption)).mono ?_); rintro e1 w5 ⟨rfl, hk⟩)
                | (go_at_call 61; (with_reducible refine (in_of H2.out (by assumption)).mono ?_); rintro e1 w5 ⟨rfl, hk⟩)
                | (go_at_call 62; (with_reducible refine (in_of H3.out (by assumption)).mono ?_); rintro e1 w5 ⟨rfl, hk⟩)
                | (go_at_call 62; (with_reducible refine (in_of H4.out (by assumption)).mono ?_); rintro e1 w5 ⟨rfl, hk⟩)
                | (go_at_call 77; (with_reducible refine (in_of H5.out (by assumption)).mono ?_); rintro e1 w5 ⟨rfl, hk⟩)
                | (go_at_call 77; (with_reducible refine (in_of H6.out (by assumption)).mono ?_); rintro e1 w5 ⟨rfl, hk⟩)
                | (go_at_call 66; (with_reducible refine (in_of H7.out (by assumption)).mono ?_); rintro e1 w5 ⟨rfl, hk⟩)
                | (go_at_call 70; (with_reducible refine (in_of H8.out (by assumption)).mono ?_); rintro e1 w5 ⟨rfl, hk⟩)
                | (go_at_call 79; (with_reducible refine (in_of H9.out (by assumption)).mono ?_); rintro e1 w5 ⟨rfl, hk⟩)
                | (go_at_call 80; (with_reducible refine (in_of H10.out (by assumption)).mono ?_); rintro e1 w5 ⟨rfl, hk⟩)
                | (go_at_call 70; (with_reducible refine (in_of H11.out (by assumption)).mono ?_); rintro e1 w5 ⟨rfl, hk⟩)
                | (go_at_call 68; (with_reducible refine (in_of H12.out (by assumption)).mono ?_); rintro e1 w5 ⟨rfl, hk⟩)
                | (go_at_call 62; (with_reducible refine (in_of H13.out (by assumption)).mono ?_); rintro e1 w5 ⟨rfl, hk⟩)
                | (go_at_call 70; (with_reducible refine (in_of H14.out (by assumption)).mono ?_); rintro e1 w5 ⟨rfl, hk⟩)
                | (go_at_call 62; (with_reducible refine (in_of_i H15.out (by omega) (by assumption)).mono ?_); rintro e1 w5 ⟨rfl, hk⟩)
                | (go_at_call 68; (with_reducible refine (in_of H16.out (by assumption)).mono ?_); rintro e1 w5 ⟨rfl, hk⟩)
                | (go_at_call 68; (with_reducible refine (in_of H17.out (by assumption)).mono ?_); rintro e1 w5 ⟨rfl, hk⟩)
                | (go_at_call 68; (with_reducible refine (in_of H18.out (by assumption)).mono ?_); rintro e1 w5 ⟨rfl, hk⟩)
                | (go_at_call 80; (with_reducible refine (in_of H19.out (by assumption)).mono ?_); rintro e1 w5 ⟨rfl, hk⟩))
          go_loopw [7, 8] (fun v7 v8 wr => ∃ k : Int, 0 - 1 ≤ k ∧ k ≤ 9 ∧ v7 = .int .u64 (P k) ∧ v8 = .int .i64 (k) ∧ Kp w [] wr) (fun v7 v8 _ => (intOf v8 - 0 + 1).toNat)
          case atStart => exact ⟨9, by omega, by omega, by rw [B2], rfl, by assumption⟩
          case round =>
            obtain ⟨k, k1, k2, rfl, rfl, hk⟩ := hrel
            by_cases hb : 0 ≤ k
            · obtain ⟨o, d, m, G0, G1, G2, G3⟩ := L2.out k hb k2
              go_wp2_with (first
                    | (go_at_call 64; (with_reducible refine (in_of H0.out (by assumption)).mono ?_); rintro e1 w5 ⟨rfl, hk⟩)
                    | (go_at_call 77; (with_reducible refine (in_of H1.out (by assumption)).mono ?_); rintro e1 w5 ⟨rfl, hk⟩)
                    | (go_at_call 61; (with_reducible refine (in_of H2.out (by assumption)).mono ?_); rintro e1 w5 ⟨rfl, hk⟩)
                    | (go_at_call 62; (with_reducible refine (in_of H3.out (by assumption)).mono ?_); rintro e1 w5 ⟨rfl, hk⟩)
                    | (go_at_call 62; (with_reducible refine (in_of H4.out (by assumption)).mono ?_); rintro e1 w5 ⟨rfl, hk⟩)
                    | (go_at_call 77; (with_reducible refine (in_of H5.out (by assumption)).mono ?_); rintro e1 w5 ⟨rfl, hk⟩)
                    | (go_at_call 77; (with_reducible refine (in_of H6.out (by assumption)).mono ?_); rintro e1 w5 ⟨rfl, hk⟩)
                    | (go_at_call 66; (with_reducible refine (in_of H7.out (by assumption)).mono ?_); rintro e1 w5 ⟨rfl, hk⟩)
                    | (go_at_call 70; (with_reducible refine (in_of H8.out (by assumption)).mono ?_); rintro e1 w5 ⟨rfl, hk⟩)
                    | (go_at_call 79; (with_reducible refine (in_of H9.out (by assumption)).mono ?_); rintro e1 w5 ⟨rfl, hk⟩)
                    | (go_at_call 80; (with_reducible refine (in_of H10.out (by assumption)).mono ?_); rintro e1 w5 ⟨rfl, hk⟩)
                    | (go_at_call 70; (with_reducible refine (in_of H11.out (by assumption)).mono ?_); rintro e1 w5 ⟨rfl, hk⟩)
                    | (go_at_call 68; (with_reducible refine (in_of H12.out (by assumption)).mono ?_); rintro e1 w5 ⟨rfl, hk⟩)
                    | (go_at_call 62; (with_reducible refine (in_of H13.out (by assumption)).mono ?_); rintro e1 w5 ⟨rfl, hk⟩)
                    | (go_at_call 70; (with_reducible refine (in_of H14.out (by assumption)).mono ?_); rintro e1 w5 ⟨rfl, hk⟩)
                    | (go_at_call 62; (with_reducible refine (in_of_i H15.out (by omega) (by assumption)).mono ?_); rintro e1 w5 ⟨rfl, hk⟩)
                    | (go_at_call 68; (with_reducible refine (in_of H16.out (by assumption)).mono ?_); rintro e1 w5 ⟨rfl, hk⟩)
                    | (go_at_call 68; (with_reducible refine (in_of H17.out (by assumption)).mono ?_); rintro e1 w5 ⟨rfl, hk⟩)
                    | (go_at_call 68; (with_reducible refine (in_of H18.out (by assumption)).mono ?_); rintro e1 w5 ⟨rfl, hk⟩)
                    | (go_at_call 80; (with_reducible refine (in_of H19.out (by assumption)).mono ?_); rintro e1 w5 ⟨rfl, hk⟩)
                    | (go_at_call 62; (with_reducible refine (in_of G0.out (by assumption)).mono ?_); rintro e1 w5 ⟨rfl, hk⟩)
                    | (go_at_call 70; (with_reducible refine (in_of G1.out (by assumption)).mono ?_); rintro e1 w5 ⟨rfl, hk⟩)
                    | (go_at_call 68; (with_reducible refine (in_of G2.out (by assumption)).mono ?_); rintro e1 w5 ⟨rfl, hk⟩)
                    | (go_at_call 80; (with_reducible refine (in_of G3.out (by assumption)).mono ?_); rintro e1 w5 ⟨rfl, hk⟩))
              go_roundw
              case rel => exact ⟨k - 1, by omega, by omega, rfl, by go_num, by assumption⟩
              case measure => simp [intOf]; omega
            · have e : 0 - 1 = k := by omega
              subst e
              rw [E2]
              go_wp2_with (first
                    | (go_at_call 64; (with_reducible refine (in_of H0.out (by assumption)).mono ?_); rintro e1 w5 ⟨rfl, hk⟩)
                    | (go_at_call 77; (with_reducible refine (in_of H1.out (by assumption)).mono ?_); rintro e1 w5 ⟨rfl, hk⟩)
                    | (go_at_call 61; (with_reducible refine (in_of H2.out (by assumption)).mono ?_); rintro e1 w5 ⟨rfl, hk⟩)
                    | (go_at_call 62; (with_reducible refine (in_of H3.out (by assumption)).mono ?_); rintro e1 w5 ⟨rfl, hk⟩)
                    | (go_at_call 62; (with_reducible refine (in_of H4.out (by assumption)).mono ?_); rintro e1 w5 ⟨rfl, hk⟩)
                    | (go_at_call 77; (with_reducible refine (in_of H5.out (by assumption)).mono ?_); rintro e1 w5 ⟨rfl, hk⟩)
                    | (go_at_call 77; (with_reducible refine (in_of H6.out (by assumption)).mono ?_); rintro e1 w5 ⟨rfl, hk⟩)
                    | (go_at_call 66; (with_reducible refine (in_of H7.out (by assumption)).mono ?_); rintro e1 w5 ⟨rfl, hk⟩)
                    | (go_at_call 70; (with_reducible refine (in_of H8.out (by assumption)).mono ?_); rintro e1 w5 ⟨rfl, hk⟩)
                    | (go_at_call 79; (with_reducible refine (in_of H9.out (by assumption)).mono ?_); rintro e1 w5 ⟨rfl, hk⟩)
                    | (go_at_call 80; (with_reducible refine (in_of H10.out (by assumption)).mono ?_); rintro e1 w5 ⟨rfl, hk⟩)
                    | (go_at_call 70; (with_reducible refine (in_of H11.out (by assumption)).mono ?_); rintro e1 w5 ⟨rfl, hk⟩)
                    | (go_at_call 68; (with_reducible refine (in_of H12.out (by assumption)).mono ?_); rintro e1 w5 ⟨rfl, hk⟩)
                    | (go_at_call 62; (with_reducible refine (in_of H13.out (by assumption)).mono ?_); rintro e1 w5 ⟨rfl, hk⟩)
                    | (go_at_call 70; (with_reducible refine (in_of H14.out (by assumption)).mono ?_); rintro e1 w5 ⟨rfl, hk⟩)
                    | (go_at_call 62; (with_reducible refine (in_of_i H15.out (by omega) (by assumption)).mono ?_); rintro e1 w5 ⟨rfl, hk⟩)
                    | (go_at_call 68; (with_reducible refine (in_of H16.out (by assumption)).mono ?_); rintro e1 w5 ⟨rfl, hk⟩)
                    | (go_at_call 68; (with_reducible refine (in_of H17.out (by assumption)).mono ?_); rintro e1 w5 ⟨rfl, hk⟩)
                    | (go_at_call 68; (with_reducible refine (in_of H18.out (by assumption)).mono ?_); rintro e1 w5 ⟨rfl, hk⟩)
                    | (go_at_call 80; (with_reducible refine (in_of H19.out (by assumption)).mono ?_); rintro e1 w5 ⟨rfl, hk⟩))
              go_ret
              exact ⟨rfl, Kp.b (by assumption)⟩
set_option maxRecDepth 100000 in
set_option maxHeartbeats 1000000 in
theorem rln_s {J L x c1 c2 m1 m2 s1 s2 s z c21 p0 kf t1 t2 p t3 q : Int} {M N P : Int → Int} (hx : (x == 9218868437227405312) = false) (j1 : 0 ≤ J) (j2 : J ≤ 3000) (l1 : 0 ≤ L) (l2 : L ≤ 3000) (H0 : Hid (All 64 #[.int .u64 x] (.bool false))) (H1 : Hid (All 77 #[.int .u64 x, .int .u64 0] (.bool false))) (H2 : Hid (All 61 #[.int .u64 x] (.bool false))) (H3 : Hid (All 62 #[.int .i64 1] (.int .u64 c1))) (H4 : Hid (All 62 #[.int .i64 2] (.int .u64 c2))) (H5 : Hid (All 77 #[.int .u64 m1, .int .u64 c1] (.bool false))) (H6 : Hid (All 77 #[.int .u64 m2, .int .u64 c2] (.bool true))) (H7 : Hid (All 66 #[.int .u64 m2, .int .u64 4609047870845172685] (.bool false))) (H8 : Hid (All 79 #[.int .u64 m2, .int .u64 c1] (.int .u64 s1))) (H9 : Hid (All 80 #[.int .u64 m2, .int .u64 c1] (.int .u64 s2))) (H10 : Hid (All 70 #[.int .u64 s1, .int .u64 s2] (.int .u64 s))) (H11 : Hid (All 68 #[.int .u64 s, .int .u64 s] (.int .u64 z))) (H12 : Hid (All 62 #[.int .i64 21] (.int .u64 c21))) (H13 : Hid (All 70 #[.int .u64 c1, .int .u64 c21] (.int .u64 p0))) (H14 : Hid (All 62 #[.int .i64 (L - J)] (.int .u64 kf))) (H15 : Hid (All 68 #[.int .u64 kf, .int .u64 4604418534313441775] (.int .u64 t1))) (H16 : Hid (All 68 #[.int .u64 c2, .int .u64 s] (.int .u64 t2))) (H17 : Hid (All 68 #[.int .u64 t2, .int .u64 p] (.int .u64 t3))) (H18 : Hid (All 80 #[.int .u64 t1, .int .u64 t3] (.int .u64 q))) (L0 : Hid (∀ k : Int, 0 ≤ k → k < J → ∃ z0 : Int, Hid (All 77 #[.int .u64 (M k), .int .u64 c1] (.bool true)) ∧ Hid (All 81 #[.int .u64 (M k), .int .i64 1] (.int .u64 (M (k + 1)))))) (B0 : M 0 = x) (E0 : M J = m1) (L1 : Hid (∀ k : Int, 0 ≤ k → k < L → ∃ z0 : Int, Hid (All 77 #[.int .u64 (N k), .int .u64 c2] (.bool false)) ∧ Hid (All 81 #[.int .u64 (N k), .int .i64 (-1)] (.int .u64 (N (k + 1)))))) (B1 : N 0 = m1) (E1 : N L = m2) (L2 : Hid (∀ k : Int, 0 ≤ k → k ≤ 9 → ∃ o d m : Int, Hid (All 62 #[.int .i64 (2 * k + 1)] (.int .u64 o)) ∧ Hid (All 70 #[.int .u64 c1, .int .u64 o] (.int .u64 d)) ∧ Hid (All 68 #[.int .u64 z, .int .u64 (P k)] (.int .u64 m)) ∧ Hid (All 80 #[.int .u64 d, .int .u64 m] (.int .u64 (P (k - 1)))))) (B2 : P 9 = p0) (E2 : P (0 - 1) = p) : All 14 #[.int .u64 x] (.int .u64 q) := by
  intro w
  have hk := kp_start w
  go_enter Tryz.func14, Tryz.ntmps14
  go_wp2_with (first
        | (go_at_call 64; (with_reducible refine (in_of H0.out (by assumption)).mono ?_); rintro e1 w5 ⟨rfl, hk⟩)
        | (go_at_call 77; (with_reducible refine (in_of H1.out (by assumption)).mono ?_); rintro e1 w5 ⟨rfl, hk⟩)
        | (go_at_call 61; (with_reducible refine (in_of H2.out (by assumption)).mono ?_); rintro e1 w5 ⟨rfl, hk⟩)
        | (go_at_call 62; (with_reducible refine (in_of H3.out (by assumption)).mono ?_); rintro e1 w5 ⟨rfl, hk⟩)
        | (go_at_call 62; (with_reducible refine (in_of H4.out (by assumption)).mono ?_); rintro e1 w5 ⟨rfl, hk⟩)
        | (go_at_call 77; (with_reducible refine (in_of H5.out (by assumption)).mono ?_); rintro e1 w5 ⟨rfl, hk⟩)
        | (go_at_call 77; (with_reducible refine (in_of H6.out (by assumption)).mono ?_); rintro e1 w5 ⟨rfl, hk⟩)
        | (go_at_call 66; (with_reducible refine (in_of H7.out (by assumption)).mono ?_); rintro e1 w5 ⟨rfl, hk⟩)
        | (go_at_call 79; (with_reducible refine (in_of H8.out (by assumption)).mono ?_); rintro e1 w5 ⟨rfl, hk⟩)
        | (go_at_call 80; (with_reducible refine (in_of H9.out (by assumption)).mono ?_); rintro e1 w5 ⟨rfl, hk⟩)
        | (go_at_call 70; (with_reducible refine (in_of H10.out (by assumption)).mono ?_); rintro e1 w5 ⟨rfl, hk⟩)
        | (go_at_call 68; (with_reducible refine (in_of H11.out (by assumption)).mono ?_); rintro e1 w5 ⟨rfl, hk⟩)
        | (go_at_call 62; (with_reducible refine (in_of H12.out (by assumption)).mono ?_); rintro e1 w5 ⟨rfl, hk⟩)
        | (go_at_call 70; (with_reducible refine (in_of H13.out (by assumption)).mono ?_); rintro e1 w5 ⟨rfl, hk⟩)
        | (go_at_call 62; (with_reducible refine (in_of_i H14.out (by omega) (by assumption)).mono ?_); rintro e1 w5 ⟨rfl, hk⟩)
        | (go_at_call 68; (with_reducible refine (in_of H15.out (by assumption)).mono ?_); rintro e1 w5 ⟨rfl, hk⟩)
        | (go_at_call 68; (with_reducible refine (in_of H16.out (by assumption)).mono ?_); rintro e1 w5 ⟨rfl, hk⟩)
        | (go_at_call 68; (with_reducible refine (in_of H17.out (by assumption)).mono ?_); rintro e1 w5 ⟨rfl, hk⟩)
        | (go_at_call 80; (with_reducible refine (in_of H18.out (by assumption)).mono ?_); rintro e1 w5 ⟨rfl, hk⟩))
  go_loopw [3, 4] (fun v3 v4 wr => ∃ k : Int, 0 ≤ k ∧ k ≤ J ∧ v3 = .int .u64 (M k) ∧ v4 = .int .i64 (-k) ∧ Kp w [] wr) (fun v3 v4 _ => (J + intOf v4).toNat)
  case atStart => exact ⟨0, by omega, by omega, by rw [B0], by go_num, by assumption⟩
  case round =>
    obtain ⟨k, k1, k2, rfl, rfl, hk⟩ := hrel
    by_cases hb : k < J
    · obtain ⟨z0, G0, G1⟩ := L0.out k k1 hb
      go_wp2_with (first
            | (go_at_call 64; (with_reducible refine (in_of H0.out (by assumption)).mono ?_); rintro e1 w5 ⟨rfl, hk⟩)
            | (go_at_call 77; (with_reducible refine (in_of H1.out (by assumption)).mono ?_); rintro e1 w5 ⟨rfl, hk⟩)
            | (go_at_call 61; (with_reducible refine (in_of H2.out (by assumption)).mono ?_); rintro e1 w5 ⟨rfl, hk⟩)
            | (go_at_call 62; (with_reducible refine (in_of H3.out (by assumption)).mono ?_); rintro e1 w5 ⟨rfl, hk⟩)
            | (go_at_call 62; (with_reducible refine (in_of H4.out (by assumption)).mono ?_); rintro e1 w5 ⟨rfl, hk⟩)
            | (go_at_call 77; (with_reducible refine (in_of H5.out (by assumption)).mono ?_); rintro e1 w5 ⟨rfl, hk⟩)
            | (go_at_call 77; (with_reducible refine (in_of H6.out (by assumption)).mono ?_); rintro e1 w5 ⟨rfl, hk⟩)
            | (go_at_call 66; (with_reducible refine (in_of H7.out (by assumption)).mono ?_); rintro e1 w5 ⟨rfl, hk⟩)
            | (go_at_call 79; (with_reducible refine (in_of H8.out (by assumption)).mono ?_); rintro e1 w5 ⟨rfl, hk⟩)
            | (go_at_call 80; (with_reducible refine (in_of H9.out (by assumption)).mono ?_); rintro e1 w5 ⟨rfl, hk⟩)
            | (go_at_call 70; (with_reducible refine (in_of H10.out (by assumption)).mono ?_); rintro e1 w5 ⟨rfl, hk⟩)
            | (go_at_call 68; (with_reducible refine (in_of H11.out (by assumption)).mono ?_); rintro e1 w5 ⟨rfl, hk⟩)
            | (go_at_call 62; (with_reducible refine (in_of H12.out (by assumption)).mono ?_); rintro e1 w5 ⟨rfl, hk⟩)
            | (go_at_call 70; (with_reducible refine (in_of H13.out (by assumption)).mono ?_); rintro e1 w5 ⟨rfl, hk⟩)
            | (go_at_call 62; (with_reducible refine (in_of_i H14.out (by omega) (by assumption)).mono ?_); rintro e1 w5 ⟨rfl, hk⟩)
            | (go_at_call 68; (with_reducible refine (in_of H15.out (by assumption)).mono ?_); rintro e1 w5 ⟨rfl, hk⟩)
            | (go_at_call 68; (with_reducible refine (in_of H16.out (by assumption)).mono ?_); rintro e1 w5 ⟨rfl, hk⟩)
            | (go_at_call 68; (with_reducible refine (in_of H17.out (by assumption)).mono ?_); rintro e1 w5 ⟨rfl, hk⟩)
            | (go_at_call 80; (with_reducible refine (in_of H18.out (by assumption)).mono ?_); rintro e1 w5 ⟨rfl, hk⟩)
            | (go_at_call 77; (with_reducible refine (in_of G0.out (by assumption)).mono ?_); rintro e1 w5 ⟨rfl, hk⟩)
            | (go_at_call 81; (with_reducible refine (in_of G1.out (by assumption)).mono ?_); rintro e1 w5 ⟨rfl, hk⟩))
      go_roundw
      case rel => exact ⟨k + 1, by omega, by omega, rfl, by go_num, by assumption⟩
      case measure => simp [intOf]; omega
    · have e : J = k := by omega
      subst e
      rw [E0]
      go_wp2_with (first
            | (go_at_call 64; (with_reducible refine (in_of H0.out (by assumption)).mono ?_); rintro e1 w5 ⟨rfl, hk⟩)
            | (go_at_call 77; (with_reducible refine (in_of H1.out (by assumption)).mono ?_); rintro e1 w5 ⟨rfl, hk⟩)
            | (go_at_call 61; (with_reducible refine (in_of H2.out (by assumption)).mono ?_); rintro e1 w5 ⟨rfl, hk⟩)
            | (go_at_call 62; (with_reducible refine (in_of H3.out (by assumption)).mono ?_); rintro e1 w5 ⟨rfl, hk⟩)
            | (go_at_call 62; (with_reducible refine (in_of H4.out (by assumption)).mono ?_); rintro e1 w5 ⟨rfl, hk⟩)
            | (go_at_call 77; (with_reducible refine (in_of H5.out (by assumption)).mono ?_); rintro e1 w5 ⟨rfl, hk⟩)
            | (go_at_call 77; (with_reducible refine (in_of H6.out (by assumption)).mono ?_); rintro e1 w5 ⟨rfl, hk⟩)
            | (go_at_call 66; (with_reducible refine (in_of H7.out (by assumption)).mono ?_); rintro e1 w5 ⟨rfl, hk⟩)
            | (go_at_call 79; (with_reducible refine (in_of H8.out (by assumption)).mono ?_); rintro e1 w5 ⟨rfl, hk⟩)
            | (go_at_call 80; (with_reducible refine (in_of H9.out (by assumption)).mono ?_); rintro e1 w5 ⟨rfl, hk⟩)
            | (go_at_call 70; (with_reducible refine (in_of H10.out (by assumption)).mono ?_); rintro e1 w5 ⟨rfl, hk⟩)
            | (go_at_call 68; (with_reducible refine (in_of H11.out (by assumption)).mono ?_); rintro e1 w5 ⟨rfl, hk⟩)
            | (go_at_call 62; (with_reducible refine (in_of H12.out (by assumption)).mono ?_); rintro e1 w5 ⟨rfl, hk⟩)
            | (go_at_call 70; (with_reducible refine (in_of H13.out (by assumption)).mono ?_); rintro e1 w5 ⟨rfl, hk⟩)
            | (go_at_call 62; (with_reducible refine (in_of_i H14.out (by omega) (by assumption)).mono ?_); rintro e1 w5 ⟨rfl, hk⟩)
            | (go_at_call 68; (with_reducible refine (in_of H15.out (by assumption)).mono ?_); rintro e1 w5 ⟨rfl, hk⟩)
            | (go_at_call 68; (with_reducible refine (in_of H16.out (by assumption)).mono ?_); rintro e1 w5 ⟨rfl, hk⟩)
            | (go_at_call 68; (with_reducible refine (in_of H17.out (by assumption)).mono ?_); rintro e1 w5 ⟨rfl, hk⟩)
            | (go_at_call 80; (with_reducible refine (in_of H18.out (by assumption)).mono ?_); rintro e1 w5 ⟨rfl, hk⟩))
      go_loopw [3, 4] (fun v3 v4 wr => ∃ k : Int, 0 ≤ k ∧ k ≤ L ∧ v3 = .int .u64 (N k) ∧ v4 = .int .i64 (k - J) ∧ Kp w [] wr) (fun v3 v4 _ => (L - J - intOf v4).toNat)
      case atStart => exact ⟨0, by omega, by omega, by rw [B1], by go_num, by assumption⟩
      case round =>
        obtain ⟨k, k1, k2, rfl, rfl, hk⟩ := hrel
        by_cases hb : k < L
        · obtain ⟨z0, G0, G1⟩ := L1.out k k1 hb
          go_wp2_with (first
                | (go_at_call 64; (with_reducible refine (in_of H0.out (by assumption)).mono ?_); rintro e1 w5 ⟨rfl, hk⟩)
                | (go_at_call 77; (with_reducible refine (in_of H1.out (by assumption)).mono ?_); rintro e1 w5 ⟨rfl, hk⟩)
                | (go_at_call 61; (with_reducible refine (in_of H2.out (by assumption)).mono ?_); rintro e1 w5 ⟨rfl, hk⟩)
                | (go_at_call 62; (with_reducible refine (in_of H3.out (by assumption)).mono ?_); rintro e1 w5 ⟨rfl, hk⟩)
                | (go_at_call 62; (with_reducible refine (in_of H4.out (by assumption)).mono ?_); rintro e1 w5 ⟨rfl, hk⟩)
                | (go_at_call 77; (with_reducible refine (in_of H5.out (by assumption)).mono ?_); rintro e1 w5 ⟨rfl, hk⟩)
                | (go_at_call 77; (with_reducible refine (in_of H6.out (by assumption)).mono ?_); rintro e1 w5 ⟨rfl, hk⟩)
                | (go_at_call 66; (with_reducible refine (in_of H7.out (by assumption)).mono ?_); rintro e1 w5 ⟨rfl, hk⟩)
                | (go_at_call 79; (with_reducible refine (in_of H8.out (by assumption)).mono ?_); rintro e1 w5 ⟨rfl, hk⟩)
                | (go_at_call 80; (with_reducible refine (in_of H9.out (by assumption)).mono ?_); rintro e1 w5 ⟨rfl, hk⟩)
                | (go_at_call 70; (with_reducible refine (in_of H10.out (by assumption)).mono ?_); rintro e1 w5 ⟨rfl, hk⟩)
                | (go_at_call 68; (with_reducible refine (in_of H11.out (by assumption)).mono ?_); rintro e1 w5 ⟨rfl, hk⟩)
                | (go_at_call 62; (with_reducible refine (in_of H12.out (by assumption)).mono ?_); rintro e1 w5 ⟨rfl, hk⟩)
                | (go_at_call 70; (with_reducible refine (in_of H13.out (by assumption)).mono ?_); rintro e1 w5 ⟨rfl, hk⟩)
                | (go_at_call 62; (with_reducible refine (in_of_i H14.out (by omega) (by assumption)).mono ?_); rintro e1 w5 ⟨rfl, hk⟩)
                | (go_at_call 68; (with_reducible refine (in_of H15.out (by assumption)).mono ?_); rintro e1 w5 ⟨rfl, hk⟩)
                | (go_at_call 68; (with_reducible refine (in_of H16.out (by assumption)).mono ?_); rintro e1 w5 ⟨rfl, hk⟩)
                | (go_at_call 68; (with_reducible refine (in_of H17.out (by assumption)).mono ?_); rintro e1 w5 ⟨rfl, hk⟩)
                | (go_at_call 80; (with_reducible refine (in_of H18.out (by assumption)).mono ?_); rintro e1 w5 ⟨rfl, hk⟩)
                | (go_at_call 77; (with_reducible refine (in_of G0.out (by assumption)).mono ?_); rintro e1 w5 ⟨rfl, hk⟩)
                | (go_at_call 81; (with_reducible refine (in_of G1.out (by assumption)).mono ?_); rintro e1 w5 ⟨rfl, hk⟩))
          go_roundw
          case rel => exact ⟨k + 1, by omega, by omega, rfl, by go_num, by assumption⟩
          case measure => simp [intOf]; omega
        · have e : L = k := by omega
          subst e
          rw [E1]
          go_wp2_with (first
                | (go_at_call 64; (with_reducible refine (in_of H0.out (by assumption)).mono ?_); rintro e1 w5 ⟨rfl, hk⟩)
                | (go_at_call 77; (with_reducible refine (in_of H1.out (by assumption)).mono ?_); rintro e1 w5 ⟨rfl, hk⟩)
                | (go_at_call 61; (with_reducible refine (in_of H2.out (by assumption)).mono ?_); rintro e1 w5 ⟨rfl, hk⟩)
                | (go_at_call 62; (with_reducible refine (in_of H3.out (by assumption)).mono ?_); rintro e1 w5 ⟨rfl, hk⟩)
                | (go_at_call 62; (with_reducible refine (in_of H4.out (by assumption)).mono ?_); rintro e1 w5 ⟨rfl, hk⟩)
                | (go_at_call 77; (with_reducible refine (in_of H5.out (by assumption)).mono ?_); rintro e1 w5 ⟨rfl, hk⟩)
                | (go_at_call 77; (with_reducible refine (in_of H6.out (by assumption)).mono ?_); rintro e1 w5 ⟨rfl, hk⟩)
                | (go_at_call 66; (with_reducible refine (in_of H7.out (by assumption)).mono ?_); rintro e1 w5 ⟨rfl, hk⟩)
                | (go_at_call 79; (with_reducible refine (in_of H8.out (by assumption)).mono ?_); rintro e1 w5 ⟨rfl, hk⟩)
                | (go_at_call 80; (with_reducible refine (in_of H9.out (by assumption)).mono ?_); rintro e1 w5 ⟨rfl, hk⟩)
                | (go_at_call 70; (with_reducible refine (in_of H10.out (by assumption)).mono ?_); rintro e1 w5 ⟨rfl, hk⟩)
                | (go_at_call 68; (with_reducible refine (in_of H11.out (by assumption)).mono ?_); rintro e1 w5 ⟨rfl, hk⟩)
                | (go_at_call 62; (with_reducible refine (in_of H12.out (by assumption)).mono ?_); rintro e1 w5 ⟨rfl, hk⟩)
                | (go_at_call 70; (with_reducible refine (in_of H13.out (by assumption)).mono ?_); rintro e1 w5 ⟨rfl, hk⟩)
                | (go_at_call 62; (with_reducible refine (in_of_i H14.out (by omega) (by assumption)).mono ?_); rintro e1 w5 ⟨rfl, hk⟩)
                | (go_at_call 68; (with_reducible refine (in_of H15.out (by assumption)).mono ?_); rintro e1 w5 ⟨rfl, hk⟩)
                | (go_at_call 68; (with_reducible refine (in_of H16.out (by assumption)).mono ?_); rintro e1 w5 ⟨rfl, hk⟩)
                | (go_at_call 68; (with_reducible refine (in_of H17.out (by assumption)).mono ?_); rintro e1 w5 ⟨rfl, hk⟩)
                | (go_at_call 80; (with_reducible refine (in_of H18.out (by assumption)).mono ?_); rintro e1 w5 ⟨rfl, hk⟩))
          go_loopw [7, 8] (fun v7 v8 wr => ∃ k : Int, 0 - 1 ≤ k ∧ k ≤ 9 ∧ v7 = .int .u64 (P k) ∧ v8 = .int .i64 (k) ∧ Kp w [] wr) (fun v7 v8 _ => (intOf v8 - 0 + 1).toNat)
          case atStart => exact ⟨9, by omega, by omega, by rw [B2], rfl, by assumption⟩
          case round =>
            obtain ⟨k, k1, k2, rfl, rfl, hk⟩ := hrel
            by_cases hb : 0 ≤ k
            · obtain ⟨o, d, m, G0, G1, G2, G3⟩ := L2.out k hb k2
              go_wp2_with (first
                    | (go_at_call 64; (with_reducible refine (in_of H0.out (by assumption)).mono ?_); rintro e1 w5 ⟨rfl, hk⟩)
                    | (go_at_call 77; (with_reducible refine (in_of H1.out (by assumption)).mono ?_); rintro e1 w5 ⟨rfl, hk⟩)
                    | (go_at_call 61; (with_reducible refine (in_of H2.out (by assumption)).mono ?_); rintro e1 w5 ⟨rfl, hk⟩)
                    | (go_at_call 62; (with_reducible refine (in_of H3.out (by assumption)).mono ?_); rintro e1 w5 ⟨rfl, hk⟩)
                    | (go_at_call 62; (with_reducible refine (in_of H4.out (by assumption)).mono ?_); rintro e1 w5 ⟨rfl, hk⟩)
                    | (go_at_call 77; (with_reducible refine (in_of H5.out (by assumption)).mono ?_); rintro e1 w5 ⟨rfl, hk⟩)
                    | (go_at_call 77; (with_reducible refine (in_of H6.out (by assumption)).mono ?_); rintro e1 w5 ⟨rfl, hk⟩)
                    | (go_at_call 66; (with_reducible refine (in_of H7.out (by assumption)).mono ?_); rintro e1 w5 ⟨rfl, hk⟩)
                    | (go_at_call 79; (with_reducible refine (in_of H8.out (by assumption)).mono ?_); rintro e1 w5 ⟨rfl, hk⟩)
                    | (go_at_call 80; (with_reducible refine (in_of H9.out (by assumption)).mono ?_); rintro e1 w5 ⟨rfl, hk⟩)
                    | (go_at_call 70; (with_reducible refine (in_of H10.out (by assumption)).mono ?_); rintro e1 w5 ⟨rfl, hk⟩)
                    | (go_at_call 68; (with_reducible refine (in_of H11.out (by assumption)).mono ?_); rintro e1 w5 ⟨rfl, hk⟩)
                    | (go_at_call 62; (with_reducible refine (in_of H12.out (by assumption)).mono ?_); rintro e1 w5 ⟨rfl, hk⟩)
                    | (go_at_call 70; (with_reducible refine (in_of H13.out (by assumption)).mono ?_); rintro e1 w5 ⟨rfl, hk⟩)
                    | (go_at_call 62; (with_reducible refine (in_of_i H14.out (by omega) (by assumption)).mono ?_); rintro e1 w5 ⟨rfl, hk⟩)
                    | (go_at_call 68; (with_reducible refine (in_of H15.out (by assumption)).mono ?_); rintro e1 w5 ⟨rfl, hk⟩)
                    | (go_at_call 68; (with_reducible refine (in_of H16.out (by assumption)).mono ?_); rintro e1 w5 ⟨rfl, hk⟩)
                    | (go_at_call 68; (with_reducible refine (in_of H17.out (by assumption)).mono ?_); rintro e1 w5 ⟨rfl, hk⟩)
                    | (go_at_call 80; (with_reducible refine (in_of H18.out (by assumption)).mono ?_); rintro e1 w5 ⟨rfl, hk⟩)
                    | (go_at_call 62; (with_reducible refine (in_of G0.out (by assumption)).mono ?_); rintro e1 w5 ⟨rfl, hk⟩)
                    | (go_at_call 70; (with_reducible refine (in_of G1.out (by assumption)).mono ?_); rintro e1 w5 ⟨rfl, hk⟩)
                    | (go_at_call 68; (with_reducible refine (in_of G2.out (by assumption)).mono ?_); rintro e1 w5 ⟨rfl, hk⟩)
                    | (go_at_call 80; (with_reducible refine (in_of G3.out (by assumption)).mono ?_); rintro e1 w5 ⟨rfl, hk⟩))
              go_roundw
              case rel => exact ⟨k - 1, by omega, by omega, rfl, by go_num, by assumption⟩
              case measure => simp [intOf]; omega
            · have e : 0 - 1 = k := by omega
              subst e
              rw [E2]
              go_wp2_with (first
                    | (go_at_call 64; (with_reducible refine (in_of H0.out (by assumption)).mono ?_); rintro e1 w5 ⟨rfl, hk⟩)
                    | (go_at_call 77; (with_reducible refine (in_of H1.out (by assumption)).mono ?_); rintro e1 w5 ⟨rfl, hk⟩)
                    | (go_at_call 61; (with_reducible refine (in_of H2.out (by assumption)).mono ?_); rintro e1 w5 ⟨rfl, hk⟩)
                    | (go_at_call 62; (with_reducible refine (in_of H3.out (by assumption)).mono ?_); rintro e1 w5 ⟨rfl, hk⟩)
                    | (go_at_call 62; (with_reducible refine (in_of H4.out (by assumption)).mono ?_); rintro e1 w5 ⟨rfl, hk⟩)
                    | (go_at_call 77; (with_reducible refine (in_of H5.out (by assumption)).mono ?_); rintro e1 w5 ⟨rfl, hk⟩)
                    | (go_at_call 77; (with_reducible refine (in_of H6.out (by assumption)).mono ?_); rintro e1 w5 ⟨rfl, hk⟩)
                    | (go_at_call 66; (with_reducible refine (in_of H7.out (by assumption)).mono ?_); rintro e1 w5 ⟨rfl, hk⟩)
                    | (go_at_call 79; (with_reducible refine (in_of H8.out (by assumption)).mono ?_); rintro e1 w5 ⟨rfl, hk⟩)
                    | (go_at_call 80; (with_reducible refine (in_of H9.out (by assumption)).mono ?_); rintro e1 w5 ⟨rfl, hk⟩)
                    | (go_at_call 70; (with_reducible refine (in_of H10.out (by assumption)).mono ?_); rintro e1 w5 ⟨rfl, hk⟩)
                    | (go_at_call 68; (with_reducible refine (in_of H11.out (by assumption)).mono ?_); rintro e1 w5 ⟨rfl, hk⟩)
                    | (go_at_call 62; (with_reducible refine (in_of H12.out (by assumption)).mono ?_); rintro e1 w5 ⟨rfl, hk⟩)
                    | (go_at_call 70; (with_reducible refine (in_of H13.out (by assumption)).mono ?_); rintro e1 w5 ⟨rfl, hk⟩)
                    | (go_at_call 62; (with_reducible refine (in_of_i H14.out (by omega) (by assumption)).mono ?_); rintro e1 w5 ⟨rfl, hk⟩)
                    | (go_at_call 68; (with_reducible refine (in_of H15.out (by assumption)).mono ?_); rintro e1 w5 ⟨rfl, hk⟩)
                    | (go_at_call 68; (with_reducible refine (in_of H16.out (by assumption)).mono ?_); rintro e1 w5 ⟨rfl, hk⟩)
                    | (go_at_call 68; (with_reducible refine (in_of H17.out (by assumption)).mono ?_); rintro e1 w5 ⟨rfl, hk⟩)
                    | (go_at_call 80; (with_reducible refine (in_of H18.out (by assumption)).mono ?_); rintro e1 w5 ⟨rfl, hk⟩))
              go_ret
              exact ⟨rfl, Kp.b (by assumption)⟩
