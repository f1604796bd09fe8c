/- The reference's kernel, a walk for each way through each function. -/
import Derived.Test.YtkifdppppihjcaaGreatKB
namespace Go.Proofs.YtkifdppppihjcaaGreat
set_option linter.unusedVariables false
set_option linter.unusedSimpArgs false
open Go.RowKit Go.Shelf Go.ChangeShapes Go.WideShapes SF

set_option maxRecDepth 100000 in
set_option maxHeartbeats 1000000 in
theorem r5sub_s {a b r : Int} (H0 : Hid (All 132 #[.int .u64 a, .int .u64 b] (.int .u64 r))) : All 79 #[.int .u64 a, .int .u64 b] (.int .u64 r) := by
  intro w
  have hk := kp_start w
  go_enter Tryz.func79, Tryz.ntmps79
  go_wp2_with (first
    | (go_at_call 132; (with_reducible refine (in_of H0.out (by assumption)).mono ?_); rintro e1 w5 ⟨rfl, hk⟩))
  go_ret
  exact ⟨rfl, Kp.b (by assumption)⟩
set_option maxRecDepth 100000 in
set_option maxHeartbeats 1000000 in
theorem r5mul_s {a b r : Int} (H0 : Hid (All 126 #[.int .u64 a, .int .u64 b] (.int .u64 r))) : All 68 #[.int .u64 a, .int .u64 b] (.int .u64 r) := by
  intro w
  have hk := kp_start w
  go_enter Tryz.func68, Tryz.ntmps68
  go_wp2_with (first
    | (go_at_call 126; (with_reducible refine (in_of H0.out (by assumption)).mono ?_); rintro e1 w5 ⟨rfl, hk⟩))
  go_ret
  exact ⟨rfl, Kp.b (by assumption)⟩
set_option maxRecDepth 100000 in
set_option maxHeartbeats 1000000 in
theorem r5div_s {a b r : Int} (H0 : Hid (All 127 #[.int .u64 a, .int .u64 b] (.int .u64 r))) : All 70 #[.int .u64 a, .int .u64 b] (.int .u64 r) := by
  intro w
  have hk := kp_start w
  go_enter Tryz.func70, Tryz.ntmps70
  go_wp2_with (first
    | (go_at_call 127; (with_reducible refine (in_of H0.out (by assumption)).mono ?_); rintro e1 w5 ⟨rfl, hk⟩))
  go_ret
  exact ⟨rfl, Kp.b (by assumption)⟩
set_option maxRecDepth 100000 in
set_option maxHeartbeats 1000000 in
theorem of_p {v r : Int} (hv : ¬ v < 0) (H0 : Hid (All 116 #[.int .i64 v, .int .i64 0] (.int .u64 r))) : All 62 #[.int .i64 v] (.int .u64 r) := by
  intro w
  have hk := kp_start w
  go_enter Tryz.func62, Tryz.ntmps62
  go_wp2_with (first
    | (go_at_call 116; (with_reducible refine (in_of H0.out (by assumption)).mono ?_); rintro e1 w5 ⟨rfl, hk⟩))
  go_ret
  exact ⟨rfl, Kp.b (by assumption)⟩
set_option maxRecDepth 100000 in
set_option maxHeartbeats 1000000 in
theorem of_n {v r : Int} (hv : v < 0) (H0 : Hid (All 116 #[.int .i64 v, .int .i64 (-1)] (.int .u64 r))) : All 62 #[.int .i64 v] (.int .u64 r) := by
  intro w
  have hk := kp_start w
  go_enter Tryz.func62, Tryz.ntmps62
  go_wp2_with (first
    | (go_at_call 116; (with_reducible refine (in_of H0.out (by assumption)).mono ?_); rintro e1 w5 ⟨rfl, hk⟩))
  go_ret
  exact ⟨rfl, Kp.b (by assumption)⟩
set_option maxRecDepth 100000 in
set_option maxHeartbeats 1000000 in
theorem rabove_0 {a b c : Int} (H0 : Hid (All 118 #[.int .u64 a, .int .u64 b] (.tuple #[.int .i64 c, .bool false]))) : All 66 #[.int .u64 a, .int .u64 b] (.bool (false && decide (0 < c))) := by
  intro w
  have hk := kp_start w
  go_enter Tryz.func66, Tryz.ntmps66
  go_wp2_with (first
    | (go_at_call 118; (with_reducible refine (in_of H0.out (by assumption)).mono ?_); rintro e1 w5 ⟨rfl, hk⟩))
  go_ret
  exact ⟨rfl, Kp.b (by assumption)⟩
set_option maxRecDepth 100000 in
set_option maxHeartbeats 1000000 in
theorem rabove_1 {a b c : Int} (H0 : Hid (All 118 #[.int .u64 a, .int .u64 b] (.tuple #[.int .i64 c, .bool true]))) : All 66 #[.int .u64 a, .int .u64 b] (.bool (true && decide (0 < c))) := by
  intro w
  have hk := kp_start w
  go_enter Tryz.func66, Tryz.ntmps66
  go_wp2_with (first
    | (go_at_call 118; (with_reducible refine (in_of H0.out (by assumption)).mono ?_); rintro e1 w5 ⟨rfl, hk⟩))
  go_ret
  exact ⟨rfl, Kp.b (by assumption)⟩
set_option maxRecDepth 100000 in
set_option maxHeartbeats 1000000 in
theorem rsine_s {r z c1 p q : Int} {P : Int → Int} (Q : Hid (∀ k : Int, 1 ≤ k → k ≤ 8 → 0 ≤ 2 * k * (2 * k + 1) ∧ 2 * k * (2 * k + 1) ≤ 1000)) (H0 : Hid (All 68 #[.int .u64 r, .int .u64 r] (.int .u64 z))) (H1 : Hid (All 62 #[.int .i64 1] (.int .u64 c1))) (H2 : Hid (All 68 #[.int .u64 r, .int .u64 p] (.int .u64 q))) (L0 : Hid (∀ k : Int, 1 ≤ k → k ≤ 8 → ∃ o d m : Int, Hid (All 62 #[.int .i64 (2 * k * (2 * k + 1))] (.int .u64 o)) ∧ Hid (All 70 #[.int .u64 z, .int .u64 o] (.int .u64 d)) ∧ Hid (All 68 #[.int .u64 d, .int .u64 (P k)] (.int .u64 m)) ∧ Hid (All 79 #[.int .u64 c1, .int .u64 m] (.int .u64 (P (k - 1)))))) (B0 : P 8 = c1) (E0 : P (1 - 1) = p) : All 141 #[.int .u64 r] (.int .u64 q) := by
  intro w
  have hk := kp_start w
  go_enter Tryz.func141, Tryz.ntmps141
  go_wp2_with (first
        | (go_at_call 68; (with_reducible refine (in_of H0.out (by assumption)).mono ?_); rintro e1 w5 ⟨rfl, hk⟩)
        | (go_at_call 62; (with_reducible refine (in_of H1.out (by assumption)).mono ?_); rintro e1 w5 ⟨rfl, hk⟩)
        | (go_at_call 68; (with_reducible refine (in_of H2.out (by assumption)).mono ?_); rintro e1 w5 ⟨rfl, hk⟩))
  go_loopw [4, 5] (fun v4 v5 wr => ∃ k : Int, 1 - 1 ≤ k ∧ k ≤ 8 ∧ v4 = .int .u64 (P k) ∧ v5 = .int .i64 (k) ∧ Kp w [] wr) (fun v4 v5 _ => (intOf v5 - 1 + 1).toNat)
  case atStart => exact ⟨8, by omega, by omega, by rw [B0], rfl, by assumption⟩
  case round =>
    obtain ⟨k, k1, k2, rfl, rfl, hk⟩ := hrel
    by_cases hb : 1 ≤ k
    · obtain ⟨o, d, m, G0, G1, G2, G3⟩ := L0.out k hb k2
      have q1 := Q.out k hb k2
      go_wp2_with (first
            | (go_at_call 68; (with_reducible refine (in_of H0.out (by assumption)).mono ?_); rintro e1 w5 ⟨rfl, hk⟩)
            | (go_at_call 62; (with_reducible refine (in_of H1.out (by assumption)).mono ?_); rintro e1 w5 ⟨rfl, hk⟩)
            | (go_at_call 68; (with_reducible refine (in_of H2.out (by assumption)).mono ?_); rintro e1 w5 ⟨rfl, hk⟩)
            | (go_at_call 62; (with_reducible refine (in_of G0.out (by assumption)).mono ?_); rintro e1 w5 ⟨rfl, hk⟩)
            | (go_at_call 70; (with_reducible refine (in_of G1.out (by assumption)).mono ?_); rintro e1 w5 ⟨rfl, hk⟩)
            | (go_at_call 68; (with_reducible refine (in_of G2.out (by assumption)).mono ?_); rintro e1 w5 ⟨rfl, hk⟩)
            | (go_at_call 79; (with_reducible refine (in_of G3.out (by assumption)).mono ?_); rintro e1 w5 ⟨rfl, hk⟩))
      go_roundw
      case rel => exact ⟨k - 1, by omega, by omega, rfl, by go_num, by assumption⟩
      case measure => simp [intOf]; omega
    · have e : 1 - 1 = k := by omega
      subst e
      rw [E0]
      go_wp2_with (first
            | (go_at_call 68; (with_reducible refine (in_of H0.out (by assumption)).mono ?_); rintro e1 w5 ⟨rfl, hk⟩)
            | (go_at_call 62; (with_reducible refine (in_of H1.out (by assumption)).mono ?_); rintro e1 w5 ⟨rfl, hk⟩)
            | (go_at_call 68; (with_reducible refine (in_of H2.out (by assumption)).mono ?_); rintro e1 w5 ⟨rfl, hk⟩))
      go_ret
      exact ⟨rfl, Kp.b (by assumption)⟩
set_option maxRecDepth 100000 in
set_option maxHeartbeats 1000000 in
theorem rcosine_s {r z c1 p : Int} {P : Int → Int} (Q : Hid (∀ k : Int, 1 ≤ k → k ≤ 8 → 0 ≤ 2 * k * (2 * k - 1) ∧ 2 * k * (2 * k - 1) ≤ 1000)) (H0 : Hid (All 68 #[.int .u64 r, .int .u64 r] (.int .u64 z))) (H1 : Hid (All 62 #[.int .i64 1] (.int .u64 c1))) (L0 : Hid (∀ k : Int, 1 ≤ k → k ≤ 8 → ∃ o d m : Int, Hid (All 62 #[.int .i64 (2 * k * (2 * k - 1))] (.int .u64 o)) ∧ Hid (All 70 #[.int .u64 z, .int .u64 o] (.int .u64 d)) ∧ Hid (All 68 #[.int .u64 d, .int .u64 (P k)] (.int .u64 m)) ∧ Hid (All 79 #[.int .u64 c1, .int .u64 m] (.int .u64 (P (k - 1)))))) (B0 : P 8 = c1) (E0 : P (1 - 1) = p) : All 142 #[.int .u64 r] (.int .u64 p) := by
  intro w
  have hk := kp_start w
  go_enter Tryz.func142, Tryz.ntmps142
  go_wp2_with (first
        | (go_at_call 68; (with_reducible refine (in_of H0.out (by assumption)).mono ?_); rintro e1 w5 ⟨rfl, hk⟩)
        | (go_at_call 62; (with_reducible refine (in_of H1.out (by assumption)).mono ?_); rintro e1 w5 ⟨rfl, hk⟩))
  go_loopw [4, 5] (fun v4 v5 wr => ∃ k : Int, 1 - 1 ≤ k ∧ k ≤ 8 ∧ v4 = .int .u64 (P k) ∧ v5 = .int .i64 (k) ∧ Kp w [] wr) (fun v4 v5 _ => (intOf v5 - 1 + 1).toNat)
  case atStart => exact ⟨8, by omega, by omega, by rw [B0], rfl, by assumption⟩
  case round =>
    obtain ⟨k, k1, k2, rfl, rfl, hk⟩ := hrel
    by_cases hb : 1 ≤ k
    · obtain ⟨o, d, m, G0, G1, G2, G3⟩ := L0.out k hb k2
      have q1 := Q.out k hb k2
      go_wp2_with (first
            | (go_at_call 68; (with_reducible refine (in_of H0.out (by assumption)).mono ?_); rintro e1 w5 ⟨rfl, hk⟩)
            | (go_at_call 62; (with_reducible refine (in_of H1.out (by assumption)).mono ?_); rintro e1 w5 ⟨rfl, hk⟩)
            | (go_at_call 62; (with_reducible refine (in_of G0.out (by assumption)).mono ?_); rintro e1 w5 ⟨rfl, hk⟩)
            | (go_at_call 70; (with_reducible refine (in_of G1.out (by assumption)).mono ?_); rintro e1 w5 ⟨rfl, hk⟩)
            | (go_at_call 68; (with_reducible refine (in_of G2.out (by assumption)).mono ?_); rintro e1 w5 ⟨rfl, hk⟩)
            | (go_at_call 79; (with_reducible refine (in_of G3.out (by assumption)).mono ?_); rintro e1 w5 ⟨rfl, hk⟩))
      go_roundw
      case rel => exact ⟨k - 1, by omega, by omega, rfl, by go_num, by assumption⟩
      case measure => simp [intOf]; omega
    · have e : 1 - 1 = k := by omega
      subst e
      rw [E0]
      go_wp2_with (first
            | (go_at_call 68; (with_reducible refine (in_of H0.out (by assumption)).mono ?_); rintro e1 w5 ⟨rfl, hk⟩)
            | (go_at_call 62; (with_reducible refine (in_of H1.out (by assumption)).mono ?_); rintro e1 w5 ⟨rfl, hk⟩))
      go_ret
      exact ⟨rfl, Kp.b (by assumption)⟩
set_option maxRecDepth 100000 in
set_option maxHeartbeats 1000000 in
theorem turn_0 {r k a : Int} (hk3 : bits .and .i64 k 3 = 0) (H0 : Hid (All 141 #[.int .u64 r] (.int .u64 a))) : All 93 #[.int .u64 r, .int .i64 k] (.int .u64 a) := by
  intro w
  have hk := kp_start w
  go_enter Tryz.func93, Tryz.ntmps93
  go_wp2_with (first
    | (go_at_call 141; (with_reducible refine (in_of H0.out (by assumption)).mono ?_); rintro e1 w5 ⟨rfl, hk⟩))
  go_ret
  exact ⟨rfl, Kp.b (by assumption)⟩
set_option maxRecDepth 100000 in
set_option maxHeartbeats 1000000 in
theorem turn_1 {r k a : Int} (hk3 : bits .and .i64 k 3 = 1) (H0 : Hid (All 142 #[.int .u64 r] (.int .u64 a))) : All 93 #[.int .u64 r, .int .i64 k] (.int .u64 a) := by
  intro w
  have hk := kp_start w
  go_enter Tryz.func93, Tryz.ntmps93
  go_wp2_with (first
    | (go_at_call 142; (with_reducible refine (in_of H0.out (by assumption)).mono ?_); rintro e1 w5 ⟨rfl, hk⟩))
  go_ret
  exact ⟨rfl, Kp.b (by assumption)⟩
set_option maxRecDepth 100000 in
set_option maxHeartbeats 1000000 in
theorem turn_2 {r k a b : Int} (hk3 : bits .and .i64 k 3 = 2) (H0 : Hid (All 141 #[.int .u64 r] (.int .u64 a))) (H1 : Hid (All 89 #[.int .u64 a] (.int .u64 b))) : All 93 #[.int .u64 r, .int .i64 k] (.int .u64 b) := by
  intro w
  have hk := kp_start w
  go_enter Tryz.func93, Tryz.ntmps93
  go_wp2_with (first
    | (go_at_call 141; (with_reducible refine (in_of H0.out (by assumption)).mono ?_); rintro e1 w5 ⟨rfl, hk⟩)
    | (go_at_call 89; (with_reducible refine (in_of H1.out (by assumption)).mono ?_); rintro e1 w5 ⟨rfl, hk⟩))
  go_ret
  exact ⟨rfl, Kp.b (by assumption)⟩
set_option maxRecDepth 100000 in
set_option maxHeartbeats 1000000 in
theorem turn_3 {r k a b : Int} (hk3 : bits .and .i64 k 3 = 3) (H0 : Hid (All 142 #[.int .u64 r] (.int .u64 a))) (H1 : Hid (All 89 #[.int .u64 a] (.int .u64 b))) : All 93 #[.int .u64 r, .int .i64 k] (.int .u64 b) := by
  intro w
  have hk := kp_start w
  go_enter Tryz.func93, Tryz.ntmps93
  go_wp2_with (first
    | (go_at_call 142; (with_reducible refine (in_of H0.out (by assumption)).mono ?_); rintro e1 w5 ⟨rfl, hk⟩)
    | (go_at_call 89; (with_reducible refine (in_of H1.out (by assumption)).mono ?_); rintro e1 w5 ⟨rfl, hk⟩))
  go_ret
  exact ⟨rfl, Kp.b (by assumption)⟩
set_option maxRecDepth 100000 in
set_option maxHeartbeats 1000000 in
theorem rquarter_n {x : Int} (H0 : Hid (All 64 #[.int .u64 x] (.bool true))) : All 92 #[.int .u64 x] (.tuple #[.int .u64 0, .int .i64 0, .bool false]) := by
  intro w
  have hk := kp_start w
  go_enter Tryz.func92, Tryz.ntmps92
  go_wp2_with (first
    | (go_at_call 64; (with_reducible refine (in_of H0.out (by assumption)).mono ?_); rintro e1 w5 ⟨rfl, hk⟩))
  exact bodyPost_ret (v := .tuple #[.int .u64 0, .int .i64 0, .bool false]) (by simp [results, Tryz.results92, go_sem]) rfl ⟨rfl, Kp.b (by assumption)⟩
set_option maxRecDepth 100000 in
set_option maxHeartbeats 1000000 in
theorem rquarter_i {x : Int} (H0 : Hid (All 64 #[.int .u64 x] (.bool false))) (H1 : Hid (All 99 #[.int .u64 x] (.bool true))) : All 92 #[.int .u64 x] (.tuple #[.int .u64 0, .int .i64 0, .bool false]) := by
  intro w
  have hk := kp_start w
  go_enter Tryz.func92, Tryz.ntmps92
  go_wp2_with (first
    | (go_at_call 64; (with_reducible refine (in_of H0.out (by assumption)).mono ?_); rintro e1 w5 ⟨rfl, hk⟩)
    | (go_at_call 99; (with_reducible refine (in_of H1.out (by assumption)).mono ?_); rintro e1 w5 ⟨rfl, hk⟩))
  exact bodyPost_ret (v := .tuple #[.int .u64 0, .int .i64 0, .bool false]) (by simp [results, Tryz.results92, go_sem]) rfl ⟨rfl, Kp.b (by assumption)⟩
set_option maxRecDepth 100000 in
set_option maxHeartbeats 1000000 in
theorem rquarter_a {x a c : Int} (H0 : Hid (All 64 #[.int .u64 x] (.bool false))) (H1 : Hid (All 99 #[.int .u64 x] (.bool false))) (H2 : Hid (All 63 #[.int .u64 x] (.int .u64 a))) (H3 : Hid (All 62 #[.int .i64 1073741824] (.int .u64 c))) (H4 : Hid (All 66 #[.int .u64 a, .int .u64 c] (.bool true))) : All 92 #[.int .u64 x] (.tuple #[.int .u64 0, .int .i64 0, .bool false]) := by
  intro w
  have hk := kp_start w
  go_enter Tryz.func92, Tryz.ntmps92
  go_wp2_with (first
    | (go_at_call 64; (with_reducible refine (in_of H0.out (by assumption)).mono ?_); rintro e1 w5 ⟨rfl, hk⟩)
    | (go_at_call 99; (with_reducible refine (in_of H1.out (by assumption)).mono ?_); rintro e1 w5 ⟨rfl, hk⟩)
    | (go_at_call 63; (with_reducible refine (in_of H2.out (by assumption)).mono ?_); rintro e1 w5 ⟨rfl, hk⟩)
    | (go_at_call 62; (with_reducible refine (in_of H3.out (by assumption)).mono ?_); rintro e1 w5 ⟨rfl, hk⟩)
    | (go_at_call 66; (with_reducible refine (in_of H4.out (by assumption)).mono ?_); rintro e1 w5 ⟨rfl, hk⟩))
  exact bodyPost_ret (v := .tuple #[.int .u64 0, .int .i64 0, .bool false]) (by simp [results, Tryz.results92, go_sem]) rfl ⟨rfl, Kp.b (by assumption)⟩
set_option maxRecDepth 100000 in
set_option maxHeartbeats 1000000 in
theorem rquarter_f {k : Int} {x a c f0 f a1 a2 a3 a4 a5 r n n1 n2 : Int} (hk3 : bits .and .i64 n 3 = k) (H0 : Hid (All 64 #[.int .u64 x] (.bool false))) (H1 : Hid (All 99 #[.int .u64 x] (.bool false))) (H2 : Hid (All 63 #[.int .u64 x] (.int .u64 a))) (H3 : Hid (All 62 #[.int .i64 1073741824] (.int .u64 c))) (H4 : Hid (All 66 #[.int .u64 a, .int .u64 c] (.bool false))) (H5 : Hid (All 68 #[.int .u64 x, .int .u64 4603909380684499075] (.int .u64 f0))) (H6 : Hid (All 78 #[.int .u64 f0] (.int .u64 f))) (H7 : Hid (All 68 #[.int .u64 f, .int .u64 4609753056853098496] (.int .u64 a1))) (H8 : Hid (All 79 #[.int .u64 x, .int .u64 a1] (.int .u64 a2))) (H9 : Hid (All 68 #[.int .u64 f, .int .u64 4490388670355865600] (.int .u64 a3))) (H10 : Hid (All 79 #[.int .u64 a2, .int .u64 a3] (.int .u64 a4))) (H11 : Hid (All 68 #[.int .u64 f, .int .u64 4364452196894661639] (.int .u64 a5))) (H12 : Hid (All 79 #[.int .u64 a4, .int .u64 a5] (.int .u64 r))) (H13 : Hid (All 67 #[.int .u64 f] (.tuple #[.int .i64 n, .int .i64 n1, .int .i64 n2]))) : All 92 #[.int .u64 x] (.tuple #[.int .u64 r, .int .i64 k, .bool true]) := by
  intro w
  have hk := kp_start w
  go_enter Tryz.func92, Tryz.ntmps92
  go_wp2_with (first
    | (go_at_call 64; (with_reducible refine (in_of H0.out (by assumption)).mono ?_); rintro e1 w5 ⟨rfl, hk⟩)
    | (go_at_call 99; (with_reducible refine (in_of H1.out (by assumption)).mono ?_); rintro e1 w5 ⟨rfl, hk⟩)
    | (go_at_call 63; (with_reducible refine (in_of H2.out (by assumption)).mono ?_); rintro e1 w5 ⟨rfl, hk⟩)
    | (go_at_call 62; (with_reducible refine (in_of H3.out (by assumption)).mono ?_); rintro e1 w5 ⟨rfl, hk⟩)
    | (go_at_call 66; (with_reducible refine (in_of H4.out (by assumption)).mono ?_); rintro e1 w5 ⟨rfl, hk⟩)
    | (go_at_call 68; (with_reducible refine (in_of H5.out (by assumption)).mono ?_); rintro e1 w5 ⟨rfl, hk⟩)
    | (go_at_call 78; (with_reducible refine (in_of H6.out (by assumption)).mono ?_); rintro e1 w5 ⟨rfl, hk⟩)
    | (go_at_call 68; (with_reducible refine (in_of H7.out (by assumption)).mono ?_); rintro e1 w5 ⟨rfl, hk⟩)
    | (go_at_call 79; (with_reducible refine (in_of H8.out (by assumption)).mono ?_); rintro e1 w5 ⟨rfl, hk⟩)
    | (go_at_call 68; (with_reducible refine (in_of H9.out (by assumption)).mono ?_); rintro e1 w5 ⟨rfl, hk⟩)
    | (go_at_call 79; (with_reducible refine (in_of H10.out (by assumption)).mono ?_); rintro e1 w5 ⟨rfl, hk⟩)
    | (go_at_call 68; (with_reducible refine (in_of H11.out (by assumption)).mono ?_); rintro e1 w5 ⟨rfl, hk⟩)
    | (go_at_call 79; (with_reducible refine (in_of H12.out (by assumption)).mono ?_); rintro e1 w5 ⟨rfl, hk⟩)
    | (go_at_call 67; (with_reducible refine (in_of H13.out (by assumption)).mono ?_); rintro e1 w5 ⟨rfl, hk⟩))
  exact bodyPost_ret (v := .tuple #[.int .u64 r, .int .i64 k, .bool true]) (by simp [results, Tryz.results92, go_sem]) rfl ⟨rfl, Kp.b (by assumption)⟩
set_option maxRecDepth 100000 in
set_option maxHeartbeats 1000000 in
theorem rsin_z {x : Int} (H0 : Hid (All 61 #[.int .u64 x] (.bool true))) : All 24 #[.int .u64 x] (.int .u64 x) := by
  intro w
  have hk := kp_start w
  go_enter Tryz.func24, Tryz.ntmps24
  go_wp2_with (first
    | (go_at_call 61; (with_reducible refine (in_of H0.out (by assumption)).mono ?_); rintro e1 w5 ⟨rfl, hk⟩))
  go_ret
  exact ⟨rfl, Kp.b (by assumption)⟩
set_option maxRecDepth 100000 in
set_option maxHeartbeats 1000000 in
theorem rsin_n {x r k : Int} (H0 : Hid (All 61 #[.int .u64 x] (.bool false))) (H1 : Hid (All 92 #[.int .u64 x] (.tuple #[.int .u64 r, .int .i64 k, .bool false]))) : All 24 #[.int .u64 x] (.int .u64 9221120237041090560) := by
  intro w
  have hk := kp_start w
  go_enter Tryz.func24, Tryz.ntmps24
  go_wp2_with (first
    | (go_at_call 61; (with_reducible refine (in_of H0.out (by assumption)).mono ?_); rintro e1 w5 ⟨rfl, hk⟩)
    | (go_at_call 92; (with_reducible refine (in_of H1.out (by assumption)).mono ?_); rintro e1 w5 ⟨rfl, hk⟩))
  go_ret
  exact ⟨rfl, Kp.b (by assumption)⟩
set_option maxRecDepth 100000 in
set_option maxHeartbeats 1000000 in
theorem rsin_f {x r k s : Int} (H0 : Hid (All 61 #[.int .u64 x] (.bool false))) (H1 : Hid (All 92 #[.int .u64 x] (.tuple #[.int .u64 r, .int .i64 k, .bool true]))) (H2 : Hid (All 93 #[.int .u64 r, .int .i64 k] (.int .u64 s))) : All 24 #[.int .u64 x] (.int .u64 s) := by
  intro w
  have hk := kp_start w
  go_enter Tryz.func24, Tryz.ntmps24
  go_wp2_with (first
    | (go_at_call 61; (with_reducible refine (in_of H0.out (by assumption)).mono ?_); rintro e1 w5 ⟨rfl, hk⟩)
    | (go_at_call 92; (with_reducible refine (in_of H1.out (by assumption)).mono ?_); rintro e1 w5 ⟨rfl, hk⟩)
    | (go_at_call 93; (with_reducible refine (in_of H2.out (by assumption)).mono ?_); rintro e1 w5 ⟨rfl, hk⟩))
  go_ret
  exact ⟨rfl, Kp.b (by assumption)⟩
set_option maxRecDepth 100000 in
set_option maxHeartbeats 1000000 in
theorem rcos_n {x r k : Int} (H0 : Hid (All 92 #[.int .u64 x] (.tuple #[.int .u64 r, .int .i64 k, .bool false]))) : All 26 #[.int .u64 x] (.int .u64 9221120237041090560) := by
  intro w
  have hk := kp_start w
  go_enter Tryz.func26, Tryz.ntmps26
  go_wp2_with (first
    | (go_at_call 92; (with_reducible refine (in_of H0.out (by assumption)).mono ?_); rintro e1 w5 ⟨rfl, hk⟩))
  go_ret
  exact ⟨rfl, Kp.b (by assumption)⟩
set_option maxRecDepth 100000 in
set_option maxHeartbeats 1000000 in
theorem rcos_f {x r k s : Int} (k1 : 0 ≤ k) (k2 : k ≤ 3) (H0 : Hid (All 92 #[.int .u64 x] (.tuple #[.int .u64 r, .int .i64 k, .bool true]))) (H1 : Hid (All 93 #[.int .u64 r, .int .i64 (k + 1)] (.int .u64 s))) : All 26 #[.int .u64 x] (.int .u64 s) := by
  intro w
  have hk := kp_start w
  go_enter Tryz.func26, Tryz.ntmps26
  go_wp2_with (first
    | (go_at_call 92; (with_reducible refine (in_of H0.out (by assumption)).mono ?_); rintro e1 w5 ⟨rfl, hk⟩)
    | (go_at_call 93; (with_reducible refine (in_of H1.out (by assumption)).mono ?_); rintro e1 w5 ⟨rfl, hk⟩))
  go_ret
  exact ⟨rfl, Kp.b (by assumption)⟩
set_option maxRecDepth 100000 in
set_option maxHeartbeats 1000000 in
theorem rtan_s {x a b q : Int} (H0 : Hid (All 24 #[.int .u64 x] (.int .u64 a))) (H1 : Hid (All 26 #[.int .u64 x] (.int .u64 b))) (H2 : Hid (All 70 #[.int .u64 a, .int .u64 b] (.int .u64 q))) : All 28 #[.int .u64 x] (.int .u64 q) := by
  intro w
  have hk := kp_start w
  go_enter Tryz.func28, Tryz.ntmps28
  go_wp2_with (first
    | (go_at_call 24; (with_reducible refine (in_of H0.out (by assumption)).mono ?_); rintro e1 w5 ⟨rfl, hk⟩)
    | (go_at_call 26; (with_reducible refine (in_of H1.out (by assumption)).mono ?_); rintro e1 w5 ⟨rfl, hk⟩)
    | (go_at_call 70; (with_reducible refine (in_of H2.out (by assumption)).mono ?_); rintro e1 w5 ⟨rfl, hk⟩))
  go_ret
  exact ⟨rfl, Kp.b (by assumption)⟩
