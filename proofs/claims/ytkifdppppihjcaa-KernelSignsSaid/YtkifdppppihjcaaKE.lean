/- Texts KE, for this seat. -/
import Derived.Test.YtkifdppppihjcaaKD
namespace Go.Proofs.Ytkifdppppihjcaa
set_option linter.unusedVariables false
set_option linter.unusedSimpArgs false
open Go.RowKit Go.Shelf Go.ChangeShapes Go.WideShapes SF

set_option maxRecDepth 100000 in
set_option maxHeartbeats 1000000 in
theorem power_s {x k R : Int} (Inv : Int → Int → Int → Prop) (IS : Hid (∀ n r b, Inv n r b → 0 < n → ∃ r1 b1 : Int, (n % 2 = 1 → Hid (All 20 #[.int .u64 r, .int .u64 b] (.int .u64 r1))) ∧ (n % 2 = 0 → r1 = r) ∧ (0 < n / 2 → Hid (All 20 #[.int .u64 b, .int .u64 b] (.int .u64 b1))) ∧ (¬ 0 < n / 2 → b1 = b) ∧ Inv (n / 2) r1 b1)) (IE : Hid (∀ n r b, Inv n r b → ¬ 0 < n → r = R)) (I0 : Inv k 4607182418800017408 x) (g1 : 0 ≤ k) (g2 : k ≤ 100000) : All 57 #[.int .u64 x, .int .i64 k] (.int .u64 R) := by
  intro w
  have hk := kp_start w
  go_enter Try.func57, Try.ntmps57
  go_wp2
  go_loopw [1, 5, 6] (fun v1 v5 v6 wr => ∃ n r b : Int, Inv n r b ∧ 0 ≤ n ∧ n ≤ 100000 ∧ v1 = .int .i64 n ∧ v5 = .int .u64 r ∧ v6 = .int .u64 b ∧ Kp w [] wr) (fun v1 _ _ _ => (intOf v1).toNat)
  case atStart => exact ⟨k, _, x, I0, g1, g2, rfl, rfl, rfl, by assumption⟩
  case round =>
    obtain ⟨n, r, b, I, n1, n2, rfl, rfl, rfl, hk⟩ := hrel
    by_cases hb : 0 < n
    · obtain ⟨r1, b1, h1, h2, h3, h4, I1⟩ := IS.out n r b I hb
      have ha := i64_and1 n
      by_cases ho : n % 2 = 1
      · have H1 := h1 ho
        clear h1 h2
        rw [ho] at ha
        by_cases hn : 0 < n / 2
        · have H3 := h3 hn
          clear h3 h4
          go_wp2_with (first
            | (go_at_call 20; (with_reducible refine (in_of H1.out (by assumption)).mono ?_); rintro e1 w5 ⟨rfl, hk⟩)
            | (go_at_call 20; (with_reducible refine (in_of H3.out (by assumption)).mono ?_); rintro e1 w5 ⟨rfl, hk⟩))
          go_roundw
          case rel => exact ⟨_, _, _, I1, by omega, by omega, by go_num, rfl, rfl, by assumption⟩
          case measure => simp [intOf]; omega
        · obtain rfl := h4 (by omega)
          clear h3
          go_wp2_with (first
            | (go_at_call 20; (with_reducible refine (in_of H1.out (by assumption)).mono ?_); rintro e1 w5 ⟨rfl, hk⟩))
          go_roundw
          case rel => exact ⟨_, _, _, I1, by omega, by omega, by go_num, rfl, rfl, by assumption⟩
          case measure => simp [intOf]; omega
      · have ho : n % 2 = 0 := by omega
        obtain rfl := h2 ho
        rw [ho] at ha
        clear h1
        have hn : 0 < n / 2 := by omega
        have H3 := h3 hn
        clear h3 h4
        go_wp2_with (first
          | (go_at_call 20; (with_reducible refine (in_of H3.out (by assumption)).mono ?_); rintro e1 w5 ⟨rfl, hk⟩))
        go_roundw
        case rel => exact ⟨_, _, _, I1, by omega, by omega, by go_num, rfl, rfl, by assumption⟩
        case measure => simp [intOf]; omega
    · obtain rfl := IE.out n r b I (by omega)
      go_wp2
      go_ret
      exact ⟨rfl, Kp.b (by assumption)⟩
set_option maxRecDepth 100000 in
set_option maxHeartbeats 1000000 in
theorem product_s {a b c m q : Int} (B : Nat) (H0 : Hid (All 20 #[.int .u64 a, .int .u64 b] (.int .u64 m))) (H1 : Hid (All 20 #[.int .u64 m, .int .u64 c] (.int .u64 q))) :
    AllC [(⟨B, 0, none⟩, .int .u64 a), (⟨B, 1, none⟩, .int .u64 b), (⟨B, 2, none⟩, .int .u64 c)] 55 #[.slice (some ⟨B, 0, none⟩) 3 3] (.int .u64 q) := by
  intro w hw
  have hc0 : w.cell? ⟨B, 0, none⟩ = some (.int .u64 a) := hw (⟨B, 0, none⟩, .int .u64 a) (by simp)
  have hc1 : w.cell? ⟨B, 1, none⟩ = some (.int .u64 b) := hw (⟨B, 1, none⟩, .int .u64 b) (by simp)
  have hc2 : w.cell? ⟨B, 2, none⟩ = some (.int .u64 c) := hw (⟨B, 2, none⟩, .int .u64 c) (by simp)
  clear hw
  have hk := kp_start w
  go_enter Try.func55, Try.ntmps55
  go_wp2
  go_loopw [3, 5, 12] (fun v3 v5 v12 wr => ∃ (k : Int) (v : Int), v3 = .int .u64 v ∧ v12 = .int .i64 k ∧ 0 ≤ k ∧ k ≤ 2 ∧ (k = 0 → v = a) ∧ (k = 1 → v = m) ∧ (k = 2 → v = q) ∧ Kp w [] wr ∧ wr.cell? ⟨B, 1, none⟩ = some (.int .u64 b) ∧ wr.cell? ⟨B, 2, none⟩ = some (.int .u64 c)) (fun _ _ v12 _ => (2 - intOf v12).toNat)
  case atStart => exact ⟨0, a, rfl, rfl, by decide, by decide, fun _ => rfl, fun h => absurd h (by decide), fun h => absurd h (by decide), by assumption, hc1, hc2⟩
  case round =>
    obtain ⟨k, v, rfl, rfl, k0, k2, q0, q1, q2, hk, d1, d2⟩ := hrel
    have hkk : k = 0 ∨ k = 1 ∨ k = 2 := by omega
    clear hc0 hc1 hc2
    rcases hkk with rfl | rfl | rfl
    · obtain rfl := q0 rfl
      clear q0 q1 q2 k0 k2
      go_wp2_with (first
        | (go_at_call 20; (with_reducible refine (H0.out _).mono ?_); rintro e1 w5 ⟨rfl, hb5⟩; have d1 := cell_below hb5 d1; have d2 := cell_below hb5 d2))
      go_roundw
      case rel => exact ⟨1, m, rfl, rfl, by decide, by decide, fun h => absurd h (by decide), fun _ => rfl, fun h => absurd h (by decide), Kp.next hk hb5, by assumption, by assumption⟩
      case measure => simp [intOf]
    · obtain rfl := q1 rfl
      clear q0 q1 q2 k0 k2
      go_wp2_with (first
        | (go_at_call 20; (with_reducible refine (H1.out _).mono ?_); rintro e1 w5 ⟨rfl, hb5⟩; have d1 := cell_below hb5 d1; have d2 := cell_below hb5 d2))
      go_roundw
      case rel => exact ⟨2, q, rfl, rfl, by decide, by decide, fun h => absurd h (by decide), fun h => absurd h (by decide), fun _ => rfl, Kp.next hk hb5, by assumption, by assumption⟩
      case measure => simp [intOf]
    · obtain rfl := q2 rfl
      clear q0 q1 q2 k0 k2
      go_wp2
      go_ret
      exact ⟨rfl, Kp.b (by assumption)⟩
set_option maxRecDepth 100000 in
set_option maxHeartbeats 1000000 in
theorem pow_zt {x y t c : Int} (H0 : Hid (All 56 #[.int .u64 y] (.int .u64 t))) (H1 : Hid (All 48 #[.int .u64 t, .int .u64 y] (.tuple #[.int .i64 c, .bool true]))) (H2 : Hid (All 12 #[.int .u64 y] (.bool true))) : All 32 #[.int .u64 x, .int .u64 y] (.int .u64 4607182418800017408) := by
  intro w
  have hk := kp_start w
  go_enter Try.func32, Try.ntmps32
  go_wp2_with (first
    | (go_at_call 56; (with_reducible refine (in_of H0.out (by assumption)).mono ?_); rintro e1 w5 ⟨rfl, hk⟩)
    | (go_at_call 48; (with_reducible refine (in_of H1.out (by assumption)).mono ?_); rintro e1 w5 ⟨rfl, hk⟩)
    | (go_at_call 12; (with_reducible refine (in_of H2.out (by assumption)).mono ?_); rintro e1 w5 ⟨rfl, hk⟩))
  go_ret
  exact ⟨rfl, Kp.b (by assumption)⟩
set_option maxRecDepth 100000 in
set_option maxHeartbeats 1000000 in
theorem pow_n1t {x y t c : Int} (H0 : Hid (All 56 #[.int .u64 y] (.int .u64 t))) (H1 : Hid (All 48 #[.int .u64 t, .int .u64 y] (.tuple #[.int .i64 c, .bool true]))) (H2 : Hid (All 12 #[.int .u64 y] (.bool false))) (H3 : Hid (All 11 #[.int .u64 x] (.bool true))) : All 32 #[.int .u64 x, .int .u64 y] (.int .u64 9221120237041090560) := by
  intro w
  have hk := kp_start w
  go_enter Try.func32, Try.ntmps32
  go_wp2_with (first
    | (go_at_call 56; (with_reducible refine (in_of H0.out (by assumption)).mono ?_); rintro e1 w5 ⟨rfl, hk⟩)
    | (go_at_call 48; (with_reducible refine (in_of H1.out (by assumption)).mono ?_); rintro e1 w5 ⟨rfl, hk⟩)
    | (go_at_call 12; (with_reducible refine (in_of H2.out (by assumption)).mono ?_); rintro e1 w5 ⟨rfl, hk⟩)
    | (go_at_call 11; (with_reducible refine (in_of H3.out (by assumption)).mono ?_); rintro e1 w5 ⟨rfl, hk⟩))
  go_ret
  exact ⟨rfl, Kp.b (by assumption)⟩
set_option maxRecDepth 100000 in
set_option maxHeartbeats 1000000 in
theorem pow_n2t {x y t c : Int} (H0 : Hid (All 56 #[.int .u64 y] (.int .u64 t))) (H1 : Hid (All 48 #[.int .u64 t, .int .u64 y] (.tuple #[.int .i64 c, .bool true]))) (H2 : Hid (All 12 #[.int .u64 y] (.bool false))) (H3 : Hid (All 11 #[.int .u64 x] (.bool false))) (H4 : Hid (All 11 #[.int .u64 y] (.bool true))) : All 32 #[.int .u64 x, .int .u64 y] (.int .u64 9221120237041090560) := by
  intro w
  have hk := kp_start w
  go_enter Try.func32, Try.ntmps32
  go_wp2_with (first
    | (go_at_call 56; (with_reducible refine (in_of H0.out (by assumption)).mono ?_); rintro e1 w5 ⟨rfl, hk⟩)
    | (go_at_call 48; (with_reducible refine (in_of H1.out (by assumption)).mono ?_); rintro e1 w5 ⟨rfl, hk⟩)
    | (go_at_call 12; (with_reducible refine (in_of H2.out (by assumption)).mono ?_); rintro e1 w5 ⟨rfl, hk⟩)
    | (go_at_call 11; (with_reducible refine (in_of H3.out (by assumption)).mono ?_); rintro e1 w5 ⟨rfl, hk⟩)
    | (go_at_call 11; (with_reducible refine (in_of H4.out (by assumption)).mono ?_); rintro e1 w5 ⟨rfl, hk⟩))
  go_ret
  exact ⟨rfl, Kp.b (by assumption)⟩
set_option maxRecDepth 100000 in
set_option maxHeartbeats 1000000 in
theorem pow_zf {x y t c : Int} (H0 : Hid (All 56 #[.int .u64 y] (.int .u64 t))) (H1 : Hid (All 48 #[.int .u64 t, .int .u64 y] (.tuple #[.int .i64 c, .bool false]))) (H2 : Hid (All 12 #[.int .u64 y] (.bool true))) : All 32 #[.int .u64 x, .int .u64 y] (.int .u64 4607182418800017408) := by
  intro w
  have hk := kp_start w
  go_enter Try.func32, Try.ntmps32
  go_wp2_with (first
    | (go_at_call 56; (with_reducible refine (in_of H0.out (by assumption)).mono ?_); rintro e1 w5 ⟨rfl, hk⟩)
    | (go_at_call 48; (with_reducible refine (in_of H1.out (by assumption)).mono ?_); rintro e1 w5 ⟨rfl, hk⟩)
    | (go_at_call 12; (with_reducible refine (in_of H2.out (by assumption)).mono ?_); rintro e1 w5 ⟨rfl, hk⟩))
  go_ret
  exact ⟨rfl, Kp.b (by assumption)⟩
set_option maxRecDepth 100000 in
set_option maxHeartbeats 1000000 in
theorem pow_n1f {x y t c : Int} (H0 : Hid (All 56 #[.int .u64 y] (.int .u64 t))) (H1 : Hid (All 48 #[.int .u64 t, .int .u64 y] (.tuple #[.int .i64 c, .bool false]))) (H2 : Hid (All 12 #[.int .u64 y] (.bool false))) (H3 : Hid (All 11 #[.int .u64 x] (.bool true))) : All 32 #[.int .u64 x, .int .u64 y] (.int .u64 9221120237041090560) := by
  intro w
  have hk := kp_start w
  go_enter Try.func32, Try.ntmps32
  go_wp2_with (first
    | (go_at_call 56; (with_reducible refine (in_of H0.out (by assumption)).mono ?_); rintro e1 w5 ⟨rfl, hk⟩)
    | (go_at_call 48; (with_reducible refine (in_of H1.out (by assumption)).mono ?_); rintro e1 w5 ⟨rfl, hk⟩)
    | (go_at_call 12; (with_reducible refine (in_of H2.out (by assumption)).mono ?_); rintro e1 w5 ⟨rfl, hk⟩)
    | (go_at_call 11; (with_reducible refine (in_of H3.out (by assumption)).mono ?_); rintro e1 w5 ⟨rfl, hk⟩))
  go_ret
  exact ⟨rfl, Kp.b (by assumption)⟩
set_option maxRecDepth 100000 in
set_option maxHeartbeats 1000000 in
theorem pow_n2f {x y t c : Int} (H0 : Hid (All 56 #[.int .u64 y] (.int .u64 t))) (H1 : Hid (All 48 #[.int .u64 t, .int .u64 y] (.tuple #[.int .i64 c, .bool false]))) (H2 : Hid (All 12 #[.int .u64 y] (.bool false))) (H3 : Hid (All 11 #[.int .u64 x] (.bool false))) (H4 : Hid (All 11 #[.int .u64 y] (.bool true))) : All 32 #[.int .u64 x, .int .u64 y] (.int .u64 9221120237041090560) := by
  intro w
  have hk := kp_start w
  go_enter Try.func32, Try.ntmps32
  go_wp2_with (first
    | (go_at_call 56; (with_reducible refine (in_of H0.out (by assumption)).mono ?_); rintro e1 w5 ⟨rfl, hk⟩)
    | (go_at_call 48; (with_reducible refine (in_of H1.out (by assumption)).mono ?_); rintro e1 w5 ⟨rfl, hk⟩)
    | (go_at_call 12; (with_reducible refine (in_of H2.out (by assumption)).mono ?_); rintro e1 w5 ⟨rfl, hk⟩)
    | (go_at_call 11; (with_reducible refine (in_of H3.out (by assumption)).mono ?_); rintro e1 w5 ⟨rfl, hk⟩)
    | (go_at_call 11; (with_reducible refine (in_of H4.out (by assumption)).mono ?_); rintro e1 w5 ⟨rfl, hk⟩))
  go_ret
  exact ⟨rfl, Kp.b (by assumption)⟩
set_option maxRecDepth 100000 in
set_option maxHeartbeats 1000000 in
theorem pow_wp {x y t c a c10 n r : Int} (he : (c == 0) = true) (H0 : Hid (All 56 #[.int .u64 y] (.int .u64 t))) (H1 : Hid (All 48 #[.int .u64 t, .int .u64 y] (.tuple #[.int .i64 c, .bool true]))) (H2 : Hid (All 12 #[.int .u64 y] (.bool false))) (H3 : Hid (All 11 #[.int .u64 x] (.bool false))) (H4 : Hid (All 11 #[.int .u64 y] (.bool false))) (H5 : Hid (All 15 #[.int .u64 y] (.int .u64 a))) (H6 : Hid (All 25 #[.int .i64 1024] (.int .u64 c10))) (H7 : Hid (All 16 #[.int .u64 a, .int .u64 c10] (.bool false))) (H8 : Hid (All 30 #[.int .u64 a] (.int .i64 n))) (H9 : Hid (All 57 #[.int .u64 x, .int .i64 n] (.int .u64 r))) (H10 : Hid (All 26 #[.int .u64 y, .int .u64 0] (.bool false))) : All 32 #[.int .u64 x, .int .u64 y] (.int .u64 r) := by
  intro w
  have hk := kp_start w
  go_enter Try.func32, Try.ntmps32
  go_wp2_with (first
    | (go_at_call 56; (with_reducible refine (in_of H0.out (by assumption)).mono ?_); rintro e1 w5 ⟨rfl, hk⟩)
    | (go_at_call 48; (with_reducible refine (in_of H1.out (by assumption)).mono ?_); rintro e1 w5 ⟨rfl, hk⟩)
    | (go_at_call 12; (with_reducible refine (in_of H2.out (by assumption)).mono ?_); rintro e1 w5 ⟨rfl, hk⟩)
    | (go_at_call 11; (with_reducible refine (in_of H3.out (by assumption)).mono ?_); rintro e1 w5 ⟨rfl, hk⟩)
    | (go_at_call 11; (with_reducible refine (in_of H4.out (by assumption)).mono ?_); rintro e1 w5 ⟨rfl, hk⟩)
    | (go_at_call 15; (with_reducible refine (in_of H5.out (by assumption)).mono ?_); rintro e1 w5 ⟨rfl, hk⟩)
    | (go_at_call 25; (with_reducible refine (in_of H6.out (by assumption)).mono ?_); rintro e1 w5 ⟨rfl, hk⟩)
    | (go_at_call 16; (with_reducible refine (in_of H7.out (by assumption)).mono ?_); rintro e1 w5 ⟨rfl, hk⟩)
    | (go_at_call 30; (with_reducible refine (in_of H8.out (by assumption)).mono ?_); rintro e1 w5 ⟨rfl, hk⟩)
    | (go_at_call 57; (with_reducible refine (in_of H9.out (by assumption)).mono ?_); rintro e1 w5 ⟨rfl, hk⟩)
    | (go_at_call 26; (with_reducible refine (in_of H10.out (by assumption)).mono ?_); rintro e1 w5 ⟨rfl, hk⟩))
  go_ret
  exact ⟨rfl, Kp.b (by assumption)⟩
set_option maxRecDepth 100000 in
set_option maxHeartbeats 1000000 in
theorem pow_wm {x y t c a c10 n r q : Int} (he : (c == 0) = true) (H0 : Hid (All 56 #[.int .u64 y] (.int .u64 t))) (H1 : Hid (All 48 #[.int .u64 t, .int .u64 y] (.tuple #[.int .i64 c, .bool true]))) (H2 : Hid (All 12 #[.int .u64 y] (.bool false))) (H3 : Hid (All 11 #[.int .u64 x] (.bool false))) (H4 : Hid (All 11 #[.int .u64 y] (.bool false))) (H5 : Hid (All 15 #[.int .u64 y] (.int .u64 a))) (H6 : Hid (All 25 #[.int .i64 1024] (.int .u64 c10))) (H7 : Hid (All 16 #[.int .u64 a, .int .u64 c10] (.bool false))) (H8 : Hid (All 30 #[.int .u64 a] (.int .i64 n))) (H9 : Hid (All 57 #[.int .u64 x, .int .i64 n] (.int .u64 r))) (H10 : Hid (All 26 #[.int .u64 y, .int .u64 0] (.bool true))) (H11 : Hid (All 17 #[.int .u64 4607182418800017408, .int .u64 r] (.int .u64 q))) : All 32 #[.int .u64 x, .int .u64 y] (.int .u64 q) := by
  intro w
  have hk := kp_start w
  go_enter Try.func32, Try.ntmps32
  go_wp2_with (first
    | (go_at_call 56; (with_reducible refine (in_of H0.out (by assumption)).mono ?_); rintro e1 w5 ⟨rfl, hk⟩)
    | (go_at_call 48; (with_reducible refine (in_of H1.out (by assumption)).mono ?_); rintro e1 w5 ⟨rfl, hk⟩)
    | (go_at_call 12; (with_reducible refine (in_of H2.out (by assumption)).mono ?_); rintro e1 w5 ⟨rfl, hk⟩)
    | (go_at_call 11; (with_reducible refine (in_of H3.out (by assumption)).mono ?_); rintro e1 w5 ⟨rfl, hk⟩)
    | (go_at_call 11; (with_reducible refine (in_of H4.out (by assumption)).mono ?_); rintro e1 w5 ⟨rfl, hk⟩)
    | (go_at_call 15; (with_reducible refine (in_of H5.out (by assumption)).mono ?_); rintro e1 w5 ⟨rfl, hk⟩)
    | (go_at_call 25; (with_reducible refine (in_of H6.out (by assumption)).mono ?_); rintro e1 w5 ⟨rfl, hk⟩)
    | (go_at_call 16; (with_reducible refine (in_of H7.out (by assumption)).mono ?_); rintro e1 w5 ⟨rfl, hk⟩)
    | (go_at_call 30; (with_reducible refine (in_of H8.out (by assumption)).mono ?_); rintro e1 w5 ⟨rfl, hk⟩)
    | (go_at_call 57; (with_reducible refine (in_of H9.out (by assumption)).mono ?_); rintro e1 w5 ⟨rfl, hk⟩)
    | (go_at_call 26; (with_reducible refine (in_of H10.out (by assumption)).mono ?_); rintro e1 w5 ⟨rfl, hk⟩)
    | (go_at_call 17; (with_reducible refine (in_of H11.out (by assumption)).mono ?_); rintro e1 w5 ⟨rfl, hk⟩))
  go_ret
  exact ⟨rfl, Kp.b (by assumption)⟩
set_option maxRecDepth 100000 in
set_option maxHeartbeats 1000000 in
theorem pow_fe {x y t c l m q : Int} (he : (c == 0) = false) (H0 : Hid (All 56 #[.int .u64 y] (.int .u64 t))) (H1 : Hid (All 48 #[.int .u64 t, .int .u64 y] (.tuple #[.int .i64 c, .bool true]))) (H2 : Hid (All 12 #[.int .u64 y] (.bool false))) (H3 : Hid (All 11 #[.int .u64 x] (.bool false))) (H4 : Hid (All 11 #[.int .u64 y] (.bool false))) (H5 : Hid (All 16 #[.int .u64 x, .int .u64 0] (.bool true))) (H6 : Hid (All 31 #[.int .u64 x] (.int .u64 l))) (H7 : Hid (All 20 #[.int .u64 y, .int .u64 l] (.int .u64 m))) (H8 : Hid (All 5 #[.int .u64 m] (.int .u64 q))) : All 32 #[.int .u64 x, .int .u64 y] (.int .u64 q) := by
  intro w
  have hk := kp_start w
  go_enter Try.func32, Try.ntmps32
  go_wp2_with (first
    | (go_at_call 56; (with_reducible refine (in_of H0.out (by assumption)).mono ?_); rintro e1 w5 ⟨rfl, hk⟩)
    | (go_at_call 48; (with_reducible refine (in_of H1.out (by assumption)).mono ?_); rintro e1 w5 ⟨rfl, hk⟩)
    | (go_at_call 12; (with_reducible refine (in_of H2.out (by assumption)).mono ?_); rintro e1 w5 ⟨rfl, hk⟩)
    | (go_at_call 11; (with_reducible refine (in_of H3.out (by assumption)).mono ?_); rintro e1 w5 ⟨rfl, hk⟩)
    | (go_at_call 11; (with_reducible refine (in_of H4.out (by assumption)).mono ?_); rintro e1 w5 ⟨rfl, hk⟩)
    | (go_at_call 16; (with_reducible refine (in_of H5.out (by assumption)).mono ?_); rintro e1 w5 ⟨rfl, hk⟩)
    | (go_at_call 31; (with_reducible refine (in_of H6.out (by assumption)).mono ?_); rintro e1 w5 ⟨rfl, hk⟩)
    | (go_at_call 20; (with_reducible refine (in_of H7.out (by assumption)).mono ?_); rintro e1 w5 ⟨rfl, hk⟩)
    | (go_at_call 5; (with_reducible refine (in_of H8.out (by assumption)).mono ?_); rintro e1 w5 ⟨rfl, hk⟩))
  go_ret
  exact ⟨rfl, Kp.b (by assumption)⟩
set_option maxRecDepth 100000 in
set_option maxHeartbeats 1000000 in
theorem pow_ge {x y t c l m q : Int} (H0 : Hid (All 56 #[.int .u64 y] (.int .u64 t))) (H1 : Hid (All 48 #[.int .u64 t, .int .u64 y] (.tuple #[.int .i64 c, .bool false]))) (H2 : Hid (All 12 #[.int .u64 y] (.bool false))) (H3 : Hid (All 11 #[.int .u64 x] (.bool false))) (H4 : Hid (All 11 #[.int .u64 y] (.bool false))) (H5 : Hid (All 16 #[.int .u64 x, .int .u64 0] (.bool true))) (H6 : Hid (All 31 #[.int .u64 x] (.int .u64 l))) (H7 : Hid (All 20 #[.int .u64 y, .int .u64 l] (.int .u64 m))) (H8 : Hid (All 5 #[.int .u64 m] (.int .u64 q))) : All 32 #[.int .u64 x, .int .u64 y] (.int .u64 q) := by
  intro w
  have hk := kp_start w
  go_enter Try.func32, Try.ntmps32
  go_wp2_with (first
    | (go_at_call 56; (with_reducible refine (in_of H0.out (by assumption)).mono ?_); rintro e1 w5 ⟨rfl, hk⟩)
    | (go_at_call 48; (with_reducible refine (in_of H1.out (by assumption)).mono ?_); rintro e1 w5 ⟨rfl, hk⟩)
    | (go_at_call 12; (with_reducible refine (in_of H2.out (by assumption)).mono ?_); rintro e1 w5 ⟨rfl, hk⟩)
    | (go_at_call 11; (with_reducible refine (in_of H3.out (by assumption)).mono ?_); rintro e1 w5 ⟨rfl, hk⟩)
    | (go_at_call 11; (with_reducible refine (in_of H4.out (by assumption)).mono ?_); rintro e1 w5 ⟨rfl, hk⟩)
    | (go_at_call 16; (with_reducible refine (in_of H5.out (by assumption)).mono ?_); rintro e1 w5 ⟨rfl, hk⟩)
    | (go_at_call 31; (with_reducible refine (in_of H6.out (by assumption)).mono ?_); rintro e1 w5 ⟨rfl, hk⟩)
    | (go_at_call 20; (with_reducible refine (in_of H7.out (by assumption)).mono ?_); rintro e1 w5 ⟨rfl, hk⟩)
    | (go_at_call 5; (with_reducible refine (in_of H8.out (by assumption)).mono ?_); rintro e1 w5 ⟨rfl, hk⟩))
  go_ret
  exact ⟨rfl, Kp.b (by assumption)⟩
set_option maxRecDepth 100000 in
set_option maxHeartbeats 1000000 in
theorem pow_ae {x y t c a c10 l m q : Int} (he : (c == 0) = true) (H0 : Hid (All 56 #[.int .u64 y] (.int .u64 t))) (H1 : Hid (All 48 #[.int .u64 t, .int .u64 y] (.tuple #[.int .i64 c, .bool true]))) (H2 : Hid (All 12 #[.int .u64 y] (.bool false))) (H3 : Hid (All 11 #[.int .u64 x] (.bool false))) (H4 : Hid (All 11 #[.int .u64 y] (.bool false))) (H5 : Hid (All 15 #[.int .u64 y] (.int .u64 a))) (H6 : Hid (All 25 #[.int .i64 1024] (.int .u64 c10))) (H7 : Hid (All 16 #[.int .u64 a, .int .u64 c10] (.bool true))) (H8 : Hid (All 16 #[.int .u64 x, .int .u64 0] (.bool true))) (H9 : Hid (All 31 #[.int .u64 x] (.int .u64 l))) (H10 : Hid (All 20 #[.int .u64 y, .int .u64 l] (.int .u64 m))) (H11 : Hid (All 5 #[.int .u64 m] (.int .u64 q))) : All 32 #[.int .u64 x, .int .u64 y] (.int .u64 q) := by
  intro w
  have hk := kp_start w
  go_enter Try.func32, Try.ntmps32
  go_wp2_with (first
    | (go_at_call 56; (with_reducible refine (in_of H0.out (by assumption)).mono ?_); rintro e1 w5 ⟨rfl, hk⟩)
    | (go_at_call 48; (with_reducible refine (in_of H1.out (by assumption)).mono ?_); rintro e1 w5 ⟨rfl, hk⟩)
    | (go_at_call 12; (with_reducible refine (in_of H2.out (by assumption)).mono ?_); rintro e1 w5 ⟨rfl, hk⟩)
    | (go_at_call 11; (with_reducible refine (in_of H3.out (by assumption)).mono ?_); rintro e1 w5 ⟨rfl, hk⟩)
    | (go_at_call 11; (with_reducible refine (in_of H4.out (by assumption)).mono ?_); rintro e1 w5 ⟨rfl, hk⟩)
    | (go_at_call 15; (with_reducible refine (in_of H5.out (by assumption)).mono ?_); rintro e1 w5 ⟨rfl, hk⟩)
    | (go_at_call 25; (with_reducible refine (in_of H6.out (by assumption)).mono ?_); rintro e1 w5 ⟨rfl, hk⟩)
    | (go_at_call 16; (with_reducible refine (in_of H7.out (by assumption)).mono ?_); rintro e1 w5 ⟨rfl, hk⟩)
    | (go_at_call 16; (with_reducible refine (in_of H8.out (by assumption)).mono ?_); rintro e1 w5 ⟨rfl, hk⟩)
    | (go_at_call 31; (with_reducible refine (in_of H9.out (by assumption)).mono ?_); rintro e1 w5 ⟨rfl, hk⟩)
    | (go_at_call 20; (with_reducible refine (in_of H10.out (by assumption)).mono ?_); rintro e1 w5 ⟨rfl, hk⟩)
    | (go_at_call 5; (with_reducible refine (in_of H11.out (by assumption)).mono ?_); rintro e1 w5 ⟨rfl, hk⟩))
  go_ret
  exact ⟨rfl, Kp.b (by assumption)⟩
set_option maxRecDepth 100000 in
set_option maxHeartbeats 1000000 in
theorem pow_fm {x y t c : Int} (he : (c == 0) = false) (H0 : Hid (All 56 #[.int .u64 y] (.int .u64 t))) (H1 : Hid (All 48 #[.int .u64 t, .int .u64 y] (.tuple #[.int .i64 c, .bool true]))) (H2 : Hid (All 12 #[.int .u64 y] (.bool false))) (H3 : Hid (All 11 #[.int .u64 x] (.bool false))) (H4 : Hid (All 11 #[.int .u64 y] (.bool false))) (H5 : Hid (All 16 #[.int .u64 x, .int .u64 0] (.bool false))) (H6 : Hid (All 12 #[.int .u64 x] (.bool false))) : All 32 #[.int .u64 x, .int .u64 y] (.int .u64 9221120237041090560) := by
  intro w
  have hk := kp_start w
  go_enter Try.func32, Try.ntmps32
  go_wp2_with (first
    | (go_at_call 56; (with_reducible refine (in_of H0.out (by assumption)).mono ?_); rintro e1 w5 ⟨rfl, hk⟩)
    | (go_at_call 48; (with_reducible refine (in_of H1.out (by assumption)).mono ?_); rintro e1 w5 ⟨rfl, hk⟩)
    | (go_at_call 12; (with_reducible refine (in_of H2.out (by assumption)).mono ?_); rintro e1 w5 ⟨rfl, hk⟩)
    | (go_at_call 11; (with_reducible refine (in_of H3.out (by assumption)).mono ?_); rintro e1 w5 ⟨rfl, hk⟩)
    | (go_at_call 11; (with_reducible refine (in_of H4.out (by assumption)).mono ?_); rintro e1 w5 ⟨rfl, hk⟩)
    | (go_at_call 16; (with_reducible refine (in_of H5.out (by assumption)).mono ?_); rintro e1 w5 ⟨rfl, hk⟩)
    | (go_at_call 12; (with_reducible refine (in_of H6.out (by assumption)).mono ?_); rintro e1 w5 ⟨rfl, hk⟩))
  go_ret
  exact ⟨rfl, Kp.b (by assumption)⟩
set_option maxRecDepth 100000 in
set_option maxHeartbeats 1000000 in
theorem pow_gm {x y t c : Int} (H0 : Hid (All 56 #[.int .u64 y] (.int .u64 t))) (H1 : Hid (All 48 #[.int .u64 t, .int .u64 y] (.tuple #[.int .i64 c, .bool false]))) (H2 : Hid (All 12 #[.int .u64 y] (.bool false))) (H3 : Hid (All 11 #[.int .u64 x] (.bool false))) (H4 : Hid (All 11 #[.int .u64 y] (.bool false))) (H5 : Hid (All 16 #[.int .u64 x, .int .u64 0] (.bool false))) (H6 : Hid (All 12 #[.int .u64 x] (.bool false))) : All 32 #[.int .u64 x, .int .u64 y] (.int .u64 9221120237041090560) := by
  intro w
  have hk := kp_start w
  go_enter Try.func32, Try.ntmps32
  go_wp2_with (first
    | (go_at_call 56; (with_reducible refine (in_of H0.out (by assumption)).mono ?_); rintro e1 w5 ⟨rfl, hk⟩)
    | (go_at_call 48; (with_reducible refine (in_of H1.out (by assumption)).mono ?_); rintro e1 w5 ⟨rfl, hk⟩)
    | (go_at_call 12; (with_reducible refine (in_of H2.out (by assumption)).mono ?_); rintro e1 w5 ⟨rfl, hk⟩)
    | (go_at_call 11; (with_reducible refine (in_of H3.out (by assumption)).mono ?_); rintro e1 w5 ⟨rfl, hk⟩)
    | (go_at_call 11; (with_reducible refine (in_of H4.out (by assumption)).mono ?_); rintro e1 w5 ⟨rfl, hk⟩)
    | (go_at_call 16; (with_reducible refine (in_of H5.out (by assumption)).mono ?_); rintro e1 w5 ⟨rfl, hk⟩)
    | (go_at_call 12; (with_reducible refine (in_of H6.out (by assumption)).mono ?_); rintro e1 w5 ⟨rfl, hk⟩))
  go_ret
  exact ⟨rfl, Kp.b (by assumption)⟩
set_option maxRecDepth 100000 in
set_option maxHeartbeats 1000000 in
theorem pow_am {x y t c a c10 : Int} (he : (c == 0) = true) (H0 : Hid (All 56 #[.int .u64 y] (.int .u64 t))) (H1 : Hid (All 48 #[.int .u64 t, .int .u64 y] (.tuple #[.int .i64 c, .bool true]))) (H2 : Hid (All 12 #[.int .u64 y] (.bool false))) (H3 : Hid (All 11 #[.int .u64 x] (.bool false))) (H4 : Hid (All 11 #[.int .u64 y] (.bool false))) (H5 : Hid (All 15 #[.int .u64 y] (.int .u64 a))) (H6 : Hid (All 25 #[.int .i64 1024] (.int .u64 c10))) (H7 : Hid (All 16 #[.int .u64 a, .int .u64 c10] (.bool true))) (H8 : Hid (All 16 #[.int .u64 x, .int .u64 0] (.bool false))) (H9 : Hid (All 12 #[.int .u64 x] (.bool false))) : All 32 #[.int .u64 x, .int .u64 y] (.int .u64 9221120237041090560) := by
  intro w
  have hk := kp_start w
  go_enter Try.func32, Try.ntmps32
  go_wp2_with (first
    | (go_at_call 56; (with_reducible refine (in_of H0.out (by assumption)).mono ?_); rintro e1 w5 ⟨rfl, hk⟩)
    | (go_at_call 48; (with_reducible refine (in_of H1.out (by assumption)).mono ?_); rintro e1 w5 ⟨rfl, hk⟩)
    | (go_at_call 12; (with_reducible refine (in_of H2.out (by assumption)).mono ?_); rintro e1 w5 ⟨rfl, hk⟩)
    | (go_at_call 11; (with_reducible refine (in_of H3.out (by assumption)).mono ?_); rintro e1 w5 ⟨rfl, hk⟩)
    | (go_at_call 11; (with_reducible refine (in_of H4.out (by assumption)).mono ?_); rintro e1 w5 ⟨rfl, hk⟩)
    | (go_at_call 15; (with_reducible refine (in_of H5.out (by assumption)).mono ?_); rintro e1 w5 ⟨rfl, hk⟩)
    | (go_at_call 25; (with_reducible refine (in_of H6.out (by assumption)).mono ?_); rintro e1 w5 ⟨rfl, hk⟩)
    | (go_at_call 16; (with_reducible refine (in_of H7.out (by assumption)).mono ?_); rintro e1 w5 ⟨rfl, hk⟩)
    | (go_at_call 16; (with_reducible refine (in_of H8.out (by assumption)).mono ?_); rintro e1 w5 ⟨rfl, hk⟩)
    | (go_at_call 12; (with_reducible refine (in_of H9.out (by assumption)).mono ?_); rintro e1 w5 ⟨rfl, hk⟩))
  go_ret
  exact ⟨rfl, Kp.b (by assumption)⟩
set_option maxRecDepth 100000 in
set_option maxHeartbeats 1000000 in
theorem pow_fp {x y t c : Int} (he : (c == 0) = false) (H0 : Hid (All 56 #[.int .u64 y] (.int .u64 t))) (H1 : Hid (All 48 #[.int .u64 t, .int .u64 y] (.tuple #[.int .i64 c, .bool true]))) (H2 : Hid (All 12 #[.int .u64 y] (.bool false))) (H3 : Hid (All 11 #[.int .u64 x] (.bool false))) (H4 : Hid (All 11 #[.int .u64 y] (.bool false))) (H5 : Hid (All 16 #[.int .u64 x, .int .u64 0] (.bool false))) (H6 : Hid (All 12 #[.int .u64 x] (.bool true))) (H7 : Hid (All 16 #[.int .u64 y, .int .u64 0] (.bool true))) : All 32 #[.int .u64 x, .int .u64 y] (.int .u64 0) := by
  intro w
  have hk := kp_start w
  go_enter Try.func32, Try.ntmps32
  go_wp2_with (first
    | (go_at_call 56; (with_reducible refine (in_of H0.out (by assumption)).mono ?_); rintro e1 w5 ⟨rfl, hk⟩)
    | (go_at_call 48; (with_reducible refine (in_of H1.out (by assumption)).mono ?_); rintro e1 w5 ⟨rfl, hk⟩)
    | (go_at_call 12; (with_reducible refine (in_of H2.out (by assumption)).mono ?_); rintro e1 w5 ⟨rfl, hk⟩)
    | (go_at_call 11; (with_reducible refine (in_of H3.out (by assumption)).mono ?_); rintro e1 w5 ⟨rfl, hk⟩)
    | (go_at_call 11; (with_reducible refine (in_of H4.out (by assumption)).mono ?_); rintro e1 w5 ⟨rfl, hk⟩)
    | (go_at_call 16; (with_reducible refine (in_of H5.out (by assumption)).mono ?_); rintro e1 w5 ⟨rfl, hk⟩)
    | (go_at_call 12; (with_reducible refine (in_of H6.out (by assumption)).mono ?_); rintro e1 w5 ⟨rfl, hk⟩)
    | (go_at_call 16; (with_reducible refine (in_of H7.out (by assumption)).mono ?_); rintro e1 w5 ⟨rfl, hk⟩))
  go_ret
  exact ⟨rfl, Kp.b (by assumption)⟩
set_option maxRecDepth 100000 in
set_option maxHeartbeats 1000000 in
theorem pow_gp {x y t c : Int} (H0 : Hid (All 56 #[.int .u64 y] (.int .u64 t))) (H1 : Hid (All 48 #[.int .u64 t, .int .u64 y] (.tuple #[.int .i64 c, .bool false]))) (H2 : Hid (All 12 #[.int .u64 y] (.bool false))) (H3 : Hid (All 11 #[.int .u64 x] (.bool false))) (H4 : Hid (All 11 #[.int .u64 y] (.bool false))) (H5 : Hid (All 16 #[.int .u64 x, .int .u64 0] (.bool false))) (H6 : Hid (All 12 #[.int .u64 x] (.bool true))) (H7 : Hid (All 16 #[.int .u64 y, .int .u64 0] (.bool true))) : All 32 #[.int .u64 x, .int .u64 y] (.int .u64 0) := by
  intro w
  have hk := kp_start w
  go_enter Try.func32, Try.ntmps32
  go_wp2_with (first
    | (go_at_call 56; (with_reducible refine (in_of H0.out (by assumption)).mono ?_); rintro e1 w5 ⟨rfl, hk⟩)
    | (go_at_call 48; (with_reducible refine (in_of H1.out (by assumption)).mono ?_); rintro e1 w5 ⟨rfl, hk⟩)
    | (go_at_call 12; (with_reducible refine (in_of H2.out (by assumption)).mono ?_); rintro e1 w5 ⟨rfl, hk⟩)
    | (go_at_call 11; (with_reducible refine (in_of H3.out (by assumption)).mono ?_); rintro e1 w5 ⟨rfl, hk⟩)
    | (go_at_call 11; (with_reducible refine (in_of H4.out (by assumption)).mono ?_); rintro e1 w5 ⟨rfl, hk⟩)
    | (go_at_call 16; (with_reducible refine (in_of H5.out (by assumption)).mono ?_); rintro e1 w5 ⟨rfl, hk⟩)
    | (go_at_call 12; (with_reducible refine (in_of H6.out (by assumption)).mono ?_); rintro e1 w5 ⟨rfl, hk⟩)
    | (go_at_call 16; (with_reducible refine (in_of H7.out (by assumption)).mono ?_); rintro e1 w5 ⟨rfl, hk⟩))
  go_ret
  exact ⟨rfl, Kp.b (by assumption)⟩
set_option maxRecDepth 100000 in
set_option maxHeartbeats 1000000 in
theorem pow_ap {x y t c a c10 : Int} (he : (c == 0) = true) (H0 : Hid (All 56 #[.int .u64 y] (.int .u64 t))) (H1 : Hid (All 48 #[.int .u64 t, .int .u64 y] (.tuple #[.int .i64 c, .bool true]))) (H2 : Hid (All 12 #[.int .u64 y] (.bool false))) (H3 : Hid (All 11 #[.int .u64 x] (.bool false))) (H4 : Hid (All 11 #[.int .u64 y] (.bool false))) (H5 : Hid (All 15 #[.int .u64 y] (.int .u64 a))) (H6 : Hid (All 25 #[.int .i64 1024] (.int .u64 c10))) (H7 : Hid (All 16 #[.int .u64 a, .int .u64 c10] (.bool true))) (H8 : Hid (All 16 #[.int .u64 x, .int .u64 0] (.bool false))) (H9 : Hid (All 12 #[.int .u64 x] (.bool true))) (H10 : Hid (All 16 #[.int .u64 y, .int .u64 0] (.bool true))) : All 32 #[.int .u64 x, .int .u64 y] (.int .u64 0) := by
  intro w
  have hk := kp_start w
  go_enter Try.func32, Try.ntmps32
  go_wp2_with (first
    | (go_at_call 56; (with_reducible refine (in_of H0.out (by assumption)).mono ?_); rintro e1 w5 ⟨rfl, hk⟩)
    | (go_at_call 48; (with_reducible refine (in_of H1.out (by assumption)).mono ?_); rintro e1 w5 ⟨rfl, hk⟩)
    | (go_at_call 12; (with_reducible refine (in_of H2.out (by assumption)).mono ?_); rintro e1 w5 ⟨rfl, hk⟩)
    | (go_at_call 11; (with_reducible refine (in_of H3.out (by assumption)).mono ?_); rintro e1 w5 ⟨rfl, hk⟩)
    | (go_at_call 11; (with_reducible refine (in_of H4.out (by assumption)).mono ?_); rintro e1 w5 ⟨rfl, hk⟩)
    | (go_at_call 15; (with_reducible refine (in_of H5.out (by assumption)).mono ?_); rintro e1 w5 ⟨rfl, hk⟩)
    | (go_at_call 25; (with_reducible refine (in_of H6.out (by assumption)).mono ?_); rintro e1 w5 ⟨rfl, hk⟩)
    | (go_at_call 16; (with_reducible refine (in_of H7.out (by assumption)).mono ?_); rintro e1 w5 ⟨rfl, hk⟩)
    | (go_at_call 16; (with_reducible refine (in_of H8.out (by assumption)).mono ?_); rintro e1 w5 ⟨rfl, hk⟩)
    | (go_at_call 12; (with_reducible refine (in_of H9.out (by assumption)).mono ?_); rintro e1 w5 ⟨rfl, hk⟩)
    | (go_at_call 16; (with_reducible refine (in_of H10.out (by assumption)).mono ?_); rintro e1 w5 ⟨rfl, hk⟩))
  go_ret
  exact ⟨rfl, Kp.b (by assumption)⟩
set_option maxRecDepth 100000 in
set_option maxHeartbeats 1000000 in
theorem pow_fi {x y t c : Int} (he : (c == 0) = false) (H0 : Hid (All 56 #[.int .u64 y] (.int .u64 t))) (H1 : Hid (All 48 #[.int .u64 t, .int .u64 y] (.tuple #[.int .i64 c, .bool true]))) (H2 : Hid (All 12 #[.int .u64 y] (.bool false))) (H3 : Hid (All 11 #[.int .u64 x] (.bool false))) (H4 : Hid (All 11 #[.int .u64 y] (.bool false))) (H5 : Hid (All 16 #[.int .u64 x, .int .u64 0] (.bool false))) (H6 : Hid (All 12 #[.int .u64 x] (.bool true))) (H7 : Hid (All 16 #[.int .u64 y, .int .u64 0] (.bool false))) : All 32 #[.int .u64 x, .int .u64 y] (.int .u64 9218868437227405312) := by
  intro w
  have hk := kp_start w
  go_enter Try.func32, Try.ntmps32
  go_wp2_with (first
    | (go_at_call 56; (with_reducible refine (in_of H0.out (by assumption)).mono ?_); rintro e1 w5 ⟨rfl, hk⟩)
    | (go_at_call 48; (with_reducible refine (in_of H1.out (by assumption)).mono ?_); rintro e1 w5 ⟨rfl, hk⟩)
    | (go_at_call 12; (with_reducible refine (in_of H2.out (by assumption)).mono ?_); rintro e1 w5 ⟨rfl, hk⟩)
    | (go_at_call 11; (with_reducible refine (in_of H3.out (by assumption)).mono ?_); rintro e1 w5 ⟨rfl, hk⟩)
    | (go_at_call 11; (with_reducible refine (in_of H4.out (by assumption)).mono ?_); rintro e1 w5 ⟨rfl, hk⟩)
    | (go_at_call 16; (with_reducible refine (in_of H5.out (by assumption)).mono ?_); rintro e1 w5 ⟨rfl, hk⟩)
    | (go_at_call 12; (with_reducible refine (in_of H6.out (by assumption)).mono ?_); rintro e1 w5 ⟨rfl, hk⟩)
    | (go_at_call 16; (with_reducible refine (in_of H7.out (by assumption)).mono ?_); rintro e1 w5 ⟨rfl, hk⟩))
  go_ret
  exact ⟨rfl, Kp.b (by assumption)⟩
set_option maxRecDepth 100000 in
set_option maxHeartbeats 1000000 in
theorem pow_gi {x y t c : Int} (H0 : Hid (All 56 #[.int .u64 y] (.int .u64 t))) (H1 : Hid (All 48 #[.int .u64 t, .int .u64 y] (.tuple #[.int .i64 c, .bool false]))) (H2 : Hid (All 12 #[.int .u64 y] (.bool false))) (H3 : Hid (All 11 #[.int .u64 x] (.bool false))) (H4 : Hid (All 11 #[.int .u64 y] (.bool false))) (H5 : Hid (All 16 #[.int .u64 x, .int .u64 0] (.bool false))) (H6 : Hid (All 12 #[.int .u64 x] (.bool true))) (H7 : Hid (All 16 #[.int .u64 y, .int .u64 0] (.bool false))) : All 32 #[.int .u64 x, .int .u64 y] (.int .u64 9218868437227405312) := by
  intro w
  have hk := kp_start w
  go_enter Try.func32, Try.ntmps32
  go_wp2_with (first
    | (go_at_call 56; (with_reducible refine (in_of H0.out (by assumption)).mono ?_); rintro e1 w5 ⟨rfl, hk⟩)
    | (go_at_call 48; (with_reducible refine (in_of H1.out (by assumption)).mono ?_); rintro e1 w5 ⟨rfl, hk⟩)
    | (go_at_call 12; (with_reducible refine (in_of H2.out (by assumption)).mono ?_); rintro e1 w5 ⟨rfl, hk⟩)
    | (go_at_call 11; (with_reducible refine (in_of H3.out (by assumption)).mono ?_); rintro e1 w5 ⟨rfl, hk⟩)
    | (go_at_call 11; (with_reducible refine (in_of H4.out (by assumption)).mono ?_); rintro e1 w5 ⟨rfl, hk⟩)
    | (go_at_call 16; (with_reducible refine (in_of H5.out (by assumption)).mono ?_); rintro e1 w5 ⟨rfl, hk⟩)
    | (go_at_call 12; (with_reducible refine (in_of H6.out (by assumption)).mono ?_); rintro e1 w5 ⟨rfl, hk⟩)
    | (go_at_call 16; (with_reducible refine (in_of H7.out (by assumption)).mono ?_); rintro e1 w5 ⟨rfl, hk⟩))
  go_ret
  exact ⟨rfl, Kp.b (by assumption)⟩
set_option maxRecDepth 100000 in
set_option maxHeartbeats 1000000 in
theorem pow_ai {x y t c a c10 : Int} (he : (c == 0) = true) (H0 : Hid (All 56 #[.int .u64 y] (.int .u64 t))) (H1 : Hid (All 48 #[.int .u64 t, .int .u64 y] (.tuple #[.int .i64 c, .bool true]))) (H2 : Hid (All 12 #[.int .u64 y] (.bool false))) (H3 : Hid (All 11 #[.int .u64 x] (.bool false))) (H4 : Hid (All 11 #[.int .u64 y] (.bool false))) (H5 : Hid (All 15 #[.int .u64 y] (.int .u64 a))) (H6 : Hid (All 25 #[.int .i64 1024] (.int .u64 c10))) (H7 : Hid (All 16 #[.int .u64 a, .int .u64 c10] (.bool true))) (H8 : Hid (All 16 #[.int .u64 x, .int .u64 0] (.bool false))) (H9 : Hid (All 12 #[.int .u64 x] (.bool true))) (H10 : Hid (All 16 #[.int .u64 y, .int .u64 0] (.bool false))) : All 32 #[.int .u64 x, .int .u64 y] (.int .u64 9218868437227405312) := by
  intro w
  have hk := kp_start w
  go_enter Try.func32, Try.ntmps32
  go_wp2_with (first
    | (go_at_call 56; (with_reducible refine (in_of H0.out (by assumption)).mono ?_); rintro e1 w5 ⟨rfl, hk⟩)
    | (go_at_call 48; (with_reducible refine (in_of H1.out (by assumption)).mono ?_); rintro e1 w5 ⟨rfl, hk⟩)
    | (go_at_call 12; (with_reducible refine (in_of H2.out (by assumption)).mono ?_); rintro e1 w5 ⟨rfl, hk⟩)
    | (go_at_call 11; (with_reducible refine (in_of H3.out (by assumption)).mono ?_); rintro e1 w5 ⟨rfl, hk⟩)
    | (go_at_call 11; (with_reducible refine (in_of H4.out (by assumption)).mono ?_); rintro e1 w5 ⟨rfl, hk⟩)
    | (go_at_call 15; (with_reducible refine (in_of H5.out (by assumption)).mono ?_); rintro e1 w5 ⟨rfl, hk⟩)
    | (go_at_call 25; (with_reducible refine (in_of H6.out (by assumption)).mono ?_); rintro e1 w5 ⟨rfl, hk⟩)
    | (go_at_call 16; (with_reducible refine (in_of H7.out (by assumption)).mono ?_); rintro e1 w5 ⟨rfl, hk⟩)
    | (go_at_call 16; (with_reducible refine (in_of H8.out (by assumption)).mono ?_); rintro e1 w5 ⟨rfl, hk⟩)
    | (go_at_call 12; (with_reducible refine (in_of H9.out (by assumption)).mono ?_); rintro e1 w5 ⟨rfl, hk⟩)
    | (go_at_call 16; (with_reducible refine (in_of H10.out (by assumption)).mono ?_); rintro e1 w5 ⟨rfl, hk⟩))
  go_ret
  exact ⟨rfl, Kp.b (by assumption)⟩
