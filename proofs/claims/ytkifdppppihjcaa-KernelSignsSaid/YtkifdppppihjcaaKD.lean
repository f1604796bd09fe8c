/- Texts KD, for this seat. -/
import Derived.Test.YtkifdppppihjcaaKC
namespace Go.Proofs.Ytkifdppppihjcaa
set_option linter.unusedVariables false
set_option linter.unusedSimpArgs false
open Go.RowKit Go.Shelf Go.ChangeShapes Go.WideShapes SF

set_option maxRecDepth 100000 in
set_option maxHeartbeats 1000000 in
theorem signed_f {x : Int} {t : Int} (hx : bits .and .u64 x 9223372036854775808 = 0)  : All 14 #[.int .u64 t, .int .u64 x] (.int .u64 t) := by
  intro w
  have hk := kp_start w
  go_enter Try.func14, Try.ntmps14
  go_wp2
  go_ret
  exact ⟨rfl, Kp.b (by assumption)⟩
set_option maxRecDepth 100000 in
set_option maxHeartbeats 1000000 in
theorem signed_t {x : Int} {t q : Int} (hx : bits .and .u64 x 9223372036854775808 = 9223372036854775808) (H0 : Hid (All 8 #[.int .u64 t] (.int .u64 q))) : All 14 #[.int .u64 t, .int .u64 x] (.int .u64 q) := by
  intro w
  have hk := kp_start w
  go_enter Try.func14, Try.ntmps14
  go_wp2_with (first
    | (go_at_call 8; (with_reducible refine (in_of H0.out (by assumption)).mono ?_); rintro e1 w5 ⟨rfl, hk⟩))
  go_ret
  exact ⟨rfl, Kp.b (by assumption)⟩
set_option maxRecDepth 100000 in
set_option maxHeartbeats 1000000 in
theorem ln1_s {i p v o z m q : Int} (ad : Addr) (hv : IntKind.i64.wrap (IntKind.i64.wrap (2 * i) + 1) = v) (H0 : Hid (All 22 #[.int .i64 v] (.int .u64 o))) (H1 : Hid (All 20 #[.int .u64 z, .int .u64 p] (.int .u64 m))) (H2 : Hid (All 18 #[.int .u64 o, .int .u64 m] (.int .u64 q))) : AllC [(ad, .int .u64 z)] 54 #[.int .i64 i, .int .u64 p, .pointer (some ad)] (.int .u64 q) := by
  intro w hw
  have hc0 : w.cell? ad = some (.int .u64 z) := hw (ad, .int .u64 z) (by simp)
  clear hw
  go_enter Try.func54, Try.ntmps54
  go_wp2
  go_region_held3 (fun w' => w'.cell? ad = some (.int .u64 z) ∧ Below w.heap.size w w')
    (first
      | exact ⟨hc0, (Below.refl _ _).drew⟩
      | (go_split_ands; exact ⟨by assumption, by assumption⟩)
      | (go_split_ands; exact ⟨cell_below hb5 (by assumption), kbt (by assumption) hb5⟩))
    (first
      | (go_at_call 22; (with_reducible refine (H0.out _).mono ?_); rintro e1 w5 ⟨rfl, hb5⟩)
      | (go_at_call 20; (with_reducible refine (H1.out _).mono ?_); rintro e1 w5 ⟨rfl, hb5⟩)
      | (go_at_call 18; (with_reducible refine (H2.out _).mono ?_); rintro e1 w5 ⟨rfl, hb5⟩))
  go_wp2
  go_split_ands
  go_ret
  exact ⟨rfl, by assumption⟩
set_option maxRecDepth 100000 in
set_option maxHeartbeats 1000000 in
theorem atan1_s {i p v o z m q : Int} (ad : Addr) (hv : IntKind.i64.wrap (IntKind.i64.wrap (2 * i) + 1) = v) (H0 : Hid (All 22 #[.int .i64 v] (.int .u64 o))) (H1 : Hid (All 20 #[.int .u64 z, .int .u64 p] (.int .u64 m))) (H2 : Hid (All 24 #[.int .u64 o, .int .u64 m] (.int .u64 q))) : AllC [(ad, .int .u64 z)] 23 #[.int .i64 i, .int .u64 p, .pointer (some ad)] (.int .u64 q) := by
  intro w hw
  have hc0 : w.cell? ad = some (.int .u64 z) := hw (ad, .int .u64 z) (by simp)
  clear hw
  go_enter Try.func23, Try.ntmps23
  go_wp2
  go_region_held3 (fun w' => w'.cell? ad = some (.int .u64 z) ∧ Below w.heap.size w w')
    (first
      | exact ⟨hc0, (Below.refl _ _).drew⟩
      | (go_split_ands; exact ⟨by assumption, by assumption⟩)
      | (go_split_ands; exact ⟨cell_below hb5 (by assumption), kbt (by assumption) hb5⟩))
    (first
      | (go_at_call 22; (with_reducible refine (H0.out _).mono ?_); rintro e1 w5 ⟨rfl, hb5⟩)
      | (go_at_call 20; (with_reducible refine (H1.out _).mono ?_); rintro e1 w5 ⟨rfl, hb5⟩)
      | (go_at_call 24; (with_reducible refine (H2.out _).mono ?_); rintro e1 w5 ⟨rfl, hb5⟩))
  go_wp2
  go_split_ands
  go_ret
  exact ⟨rfl, by assumption⟩
set_option maxRecDepth 100000 in
set_option maxHeartbeats 1000000 in
theorem atan_n {x : Int} (H0 : Hid (All 11 #[.int .u64 x] (.bool true))) : All 4 #[.int .u64 x] (.int .u64 9221120237041090560) := by
  intro w
  have hk := kp_start w
  go_enter Try.func4, Try.ntmps4
  go_wp2_with (first
    | (go_at_call 11; (with_reducible refine (in_of H0.out (by assumption)).mono ?_); rintro e1 w5 ⟨rfl, hk⟩))
  go_ret
  exact ⟨rfl, Kp.b (by assumption)⟩
set_option maxRecDepth 100000 in
set_option maxHeartbeats 1000000 in
theorem atan_z {x : Int} (H0 : Hid (All 11 #[.int .u64 x] (.bool false))) (H1 : Hid (All 12 #[.int .u64 x] (.bool true))) : All 4 #[.int .u64 x] (.int .u64 x) := by
  intro w
  have hk := kp_start w
  go_enter Try.func4, Try.ntmps4
  go_wp2_with (first
    | (go_at_call 11; (with_reducible refine (in_of H0.out (by assumption)).mono ?_); rintro e1 w5 ⟨rfl, hk⟩)
    | (go_at_call 12; (with_reducible refine (in_of H1.out (by assumption)).mono ?_); rintro e1 w5 ⟨rfl, hk⟩))
  go_ret
  exact ⟨rfl, Kp.b (by assumption)⟩
set_option maxRecDepth 100000 in
set_option maxHeartbeats 1000000 in
theorem atan_i {x q : Int} (H0 : Hid (All 11 #[.int .u64 x] (.bool false))) (H1 : Hid (All 12 #[.int .u64 x] (.bool false))) (H2 : Hid (All 13 #[.int .u64 x] (.bool true))) (H3 : Hid (All 14 #[.int .u64 4609753056924675352, .int .u64 x] (.int .u64 q))) : All 4 #[.int .u64 x] (.int .u64 q) := by
  intro w
  have hk := kp_start w
  go_enter Try.func4, Try.ntmps4
  go_wp2_with (first
    | (go_at_call 11; (with_reducible refine (in_of H0.out (by assumption)).mono ?_); rintro e1 w5 ⟨rfl, hk⟩)
    | (go_at_call 12; (with_reducible refine (in_of H1.out (by assumption)).mono ?_); rintro e1 w5 ⟨rfl, hk⟩)
    | (go_at_call 13; (with_reducible refine (in_of H2.out (by assumption)).mono ?_); rintro e1 w5 ⟨rfl, hk⟩)
    | (go_at_call 14; (with_reducible refine (in_of H3.out (by assumption)).mono ?_); rintro e1 w5 ⟨rfl, hk⟩))
  go_ret
  exact ⟨rfl, Kp.b (by assumption)⟩
set_option maxRecDepth 100000 in
set_option maxHeartbeats 1000000 in
theorem atan_g {x a b0 b z p0 p c4 m0 t0 t1 q : Int} {B : Int → Int} (H0 : Hid (All 11 #[.int .u64 x] (.bool false))) (H1 : Hid (All 12 #[.int .u64 x] (.bool false))) (H2 : Hid (All 13 #[.int .u64 x] (.bool false))) (H3 : Hid (All 15 #[.int .u64 x] (.int .u64 a))) (H4 : Hid (All 16 #[.int .u64 a, .int .u64 4607182418800017408] (.bool true))) (H5 : Hid (All 17 #[.int .u64 4607182418800017408, .int .u64 a] (.int .u64 b0))) (H6 : Hid (All 20 #[.int .u64 b, .int .u64 b] (.int .u64 z))) (H7 : Hid (All 22 #[.int .i64 23] (.int .u64 p0))) (H8 : Hid (∀ ad : Addr, AllC [(ad, .int .u64 z)] 21 #[.int .u64 p0, .int .i64 10, .int .i64 0, .func (.func 23) #[] #[.pointer (some ad)]] (.int .u64 p))) (H9 : Hid (All 25 #[.int .i64 4] (.int .u64 c4))) (H10 : Hid (All 20 #[.int .u64 b, .int .u64 p] (.int .u64 m0))) (H11 : Hid (All 20 #[.int .u64 c4, .int .u64 m0] (.int .u64 t0))) (H12 : Hid (All 24 #[.int .u64 4609753056924675352, .int .u64 t0] (.int .u64 t1))) (H13 : Hid (All 14 #[.int .u64 t1, .int .u64 x] (.int .u64 q))) (L0 : Hid (∀ k : Int, 0 ≤ k → k < 2 → ∃ a1 a2 a3 a4 : Int, Hid (All 20 #[.int .u64 (B k), .int .u64 (B k)] (.int .u64 a1)) ∧ Hid (All 18 #[.int .u64 4607182418800017408, .int .u64 a1] (.int .u64 a2)) ∧ Hid (All 19 #[.int .u64 a2] (.int .u64 a3)) ∧ Hid (All 18 #[.int .u64 4607182418800017408, .int .u64 a3] (.int .u64 a4)) ∧ Hid (All 17 #[.int .u64 (B k), .int .u64 a4] (.int .u64 (B (k + 1)))))) (B0 : B 0 = b0) (E0 : B 2 = b) : All 4 #[.int .u64 x] (.int .u64 q) := by
  intro w
  have hk := kp_start w
  go_enter Try.func4, Try.ntmps4
  go_wp2_with (first
        | (go_at_call 11; (with_reducible refine (in_of H0.out (by assumption)).mono ?_); rintro e1 w5 ⟨rfl, hk⟩)
        | (go_at_call 12; (with_reducible refine (in_of H1.out (by assumption)).mono ?_); rintro e1 w5 ⟨rfl, hk⟩)
        | (go_at_call 13; (with_reducible refine (in_of H2.out (by assumption)).mono ?_); rintro e1 w5 ⟨rfl, hk⟩)
        | (go_at_call 15; (with_reducible refine (in_of H3.out (by assumption)).mono ?_); rintro e1 w5 ⟨rfl, hk⟩)
        | (go_at_call 16; (with_reducible refine (in_of H4.out (by assumption)).mono ?_); rintro e1 w5 ⟨rfl, hk⟩)
        | (go_at_call 17; (with_reducible refine (in_of H5.out (by assumption)).mono ?_); rintro e1 w5 ⟨rfl, hk⟩)
        | (go_at_call 20; (with_reducible refine (in_of H6.out (by assumption)).mono ?_); rintro e1 w5 ⟨rfl, hk⟩)
        | (go_at_call 22; (with_reducible refine (in_of H7.out (kp_var _ _ (by assumption))).mono ?_); rintro e1 w5 ⟨rfl, hk⟩)
        | (go_at_call 21; (with_reducible refine (in_ofk (H8.out _) (by assumption)).mono ?_); rintro e1 w5 ⟨rfl, hk⟩)
        | (go_at_call 25; (with_reducible refine (in_of H9.out (by assumption)).mono ?_); rintro e1 w5 ⟨rfl, hk⟩)
        | (go_at_call 20; (with_reducible refine (in_of H10.out (by assumption)).mono ?_); rintro e1 w5 ⟨rfl, hk⟩)
        | (go_at_call 20; (with_reducible refine (in_of H11.out (by assumption)).mono ?_); rintro e1 w5 ⟨rfl, hk⟩)
        | (go_at_call 24; (with_reducible refine (in_of H12.out (by assumption)).mono ?_); rintro e1 w5 ⟨rfl, hk⟩)
        | (go_at_call 14; (with_reducible refine (in_of H13.out (by assumption)).mono ?_); rintro e1 w5 ⟨rfl, hk⟩))
  go_loopw [4, 29] (fun v4 v29 wr => ∃ k : Int, 0 ≤ k ∧ k ≤ 2 ∧ v4 = .int .u64 (B k) ∧ v29 = .int .i64 (k) ∧ Kp w [] wr) (fun v4 v29 _ => (2 - intOf v29).toNat)
  case atStart => exact ⟨0, by omega, by omega, by rw [B0], rfl, by assumption⟩
  case round =>
    obtain ⟨k, k1, k2, rfl, rfl, hk⟩ := hrel
    by_cases hb : k < 2
    · obtain ⟨a1, a2, a3, a4, G0, G1, G2, G3, G4⟩ := L0.out k k1 hb
      go_wp2_with (first
            | (go_at_call 11; (with_reducible refine (in_of H0.out (by assumption)).mono ?_); rintro e1 w5 ⟨rfl, hk⟩)
            | (go_at_call 12; (with_reducible refine (in_of H1.out (by assumption)).mono ?_); rintro e1 w5 ⟨rfl, hk⟩)
            | (go_at_call 13; (with_reducible refine (in_of H2.out (by assumption)).mono ?_); rintro e1 w5 ⟨rfl, hk⟩)
            | (go_at_call 15; (with_reducible refine (in_of H3.out (by assumption)).mono ?_); rintro e1 w5 ⟨rfl, hk⟩)
            | (go_at_call 16; (with_reducible refine (in_of H4.out (by assumption)).mono ?_); rintro e1 w5 ⟨rfl, hk⟩)
            | (go_at_call 17; (with_reducible refine (in_of H5.out (by assumption)).mono ?_); rintro e1 w5 ⟨rfl, hk⟩)
            | (go_at_call 20; (with_reducible refine (in_of H6.out (by assumption)).mono ?_); rintro e1 w5 ⟨rfl, hk⟩)
            | (go_at_call 22; (with_reducible refine (in_of H7.out (kp_var _ _ (by assumption))).mono ?_); rintro e1 w5 ⟨rfl, hk⟩)
            | (go_at_call 21; (with_reducible refine (in_ofk (H8.out _) (by assumption)).mono ?_); rintro e1 w5 ⟨rfl, hk⟩)
            | (go_at_call 25; (with_reducible refine (in_of H9.out (by assumption)).mono ?_); rintro e1 w5 ⟨rfl, hk⟩)
            | (go_at_call 20; (with_reducible refine (in_of H10.out (by assumption)).mono ?_); rintro e1 w5 ⟨rfl, hk⟩)
            | (go_at_call 20; (with_reducible refine (in_of H11.out (by assumption)).mono ?_); rintro e1 w5 ⟨rfl, hk⟩)
            | (go_at_call 24; (with_reducible refine (in_of H12.out (by assumption)).mono ?_); rintro e1 w5 ⟨rfl, hk⟩)
            | (go_at_call 14; (with_reducible refine (in_of H13.out (by assumption)).mono ?_); rintro e1 w5 ⟨rfl, hk⟩)
            | (go_at_call 20; (with_reducible refine (in_of G0.out (by assumption)).mono ?_); rintro e1 w5 ⟨rfl, hk⟩)
            | (go_at_call 18; (with_reducible refine (in_of G1.out (by assumption)).mono ?_); rintro e1 w5 ⟨rfl, hk⟩)
            | (go_at_call 19; (with_reducible refine (in_of G2.out (by assumption)).mono ?_); rintro e1 w5 ⟨rfl, hk⟩)
            | (go_at_call 18; (with_reducible refine (in_of G3.out (by assumption)).mono ?_); rintro e1 w5 ⟨rfl, hk⟩)
            | (go_at_call 17; (with_reducible refine (in_of G4.out (by assumption)).mono ?_); rintro e1 w5 ⟨rfl, hk⟩))
      go_roundw
      case rel => exact ⟨k + 1, by omega, by omega, rfl, by go_num, by assumption⟩
      case measure => simp [intOf]; omega
    · have e : k = 2 := by omega
      subst e
      rw [E0]
      go_wp2_with (first
            | (go_at_call 11; (with_reducible refine (in_of H0.out (by assumption)).mono ?_); rintro e1 w5 ⟨rfl, hk⟩)
            | (go_at_call 12; (with_reducible refine (in_of H1.out (by assumption)).mono ?_); rintro e1 w5 ⟨rfl, hk⟩)
            | (go_at_call 13; (with_reducible refine (in_of H2.out (by assumption)).mono ?_); rintro e1 w5 ⟨rfl, hk⟩)
            | (go_at_call 15; (with_reducible refine (in_of H3.out (by assumption)).mono ?_); rintro e1 w5 ⟨rfl, hk⟩)
            | (go_at_call 16; (with_reducible refine (in_of H4.out (by assumption)).mono ?_); rintro e1 w5 ⟨rfl, hk⟩)
            | (go_at_call 17; (with_reducible refine (in_of H5.out (by assumption)).mono ?_); rintro e1 w5 ⟨rfl, hk⟩)
            | (go_at_call 20; (with_reducible refine (in_of H6.out (by assumption)).mono ?_); rintro e1 w5 ⟨rfl, hk⟩)
            | (go_at_call 22; (with_reducible refine (in_of H7.out (kp_var _ _ (by assumption))).mono ?_); rintro e1 w5 ⟨rfl, hk⟩)
            | (go_at_call 21; (with_reducible refine (in_ofk (H8.out _) (by assumption)).mono ?_); rintro e1 w5 ⟨rfl, hk⟩)
            | (go_at_call 25; (with_reducible refine (in_of H9.out (by assumption)).mono ?_); rintro e1 w5 ⟨rfl, hk⟩)
            | (go_at_call 20; (with_reducible refine (in_of H10.out (by assumption)).mono ?_); rintro e1 w5 ⟨rfl, hk⟩)
            | (go_at_call 20; (with_reducible refine (in_of H11.out (by assumption)).mono ?_); rintro e1 w5 ⟨rfl, hk⟩)
            | (go_at_call 24; (with_reducible refine (in_of H12.out (by assumption)).mono ?_); rintro e1 w5 ⟨rfl, hk⟩)
            | (go_at_call 14; (with_reducible refine (in_of H13.out (by assumption)).mono ?_); rintro e1 w5 ⟨rfl, hk⟩))
      go_ret
      exact ⟨rfl, Kp.b (by assumption)⟩
set_option maxRecDepth 100000 in
set_option maxHeartbeats 1000000 in
theorem atan_s {x a b z p0 p c4 m0 t0 q : Int} {B : Int → Int} (H0 : Hid (All 11 #[.int .u64 x] (.bool false))) (H1 : Hid (All 12 #[.int .u64 x] (.bool false))) (H2 : Hid (All 13 #[.int .u64 x] (.bool false))) (H3 : Hid (All 15 #[.int .u64 x] (.int .u64 a))) (H4 : Hid (All 16 #[.int .u64 a, .int .u64 4607182418800017408] (.bool false))) (H5 : Hid (All 20 #[.int .u64 b, .int .u64 b] (.int .u64 z))) (H6 : Hid (All 22 #[.int .i64 23] (.int .u64 p0))) (H7 : Hid (∀ ad : Addr, AllC [(ad, .int .u64 z)] 21 #[.int .u64 p0, .int .i64 10, .int .i64 0, .func (.func 23) #[] #[.pointer (some ad)]] (.int .u64 p))) (H8 : Hid (All 25 #[.int .i64 4] (.int .u64 c4))) (H9 : Hid (All 20 #[.int .u64 b, .int .u64 p] (.int .u64 m0))) (H10 : Hid (All 20 #[.int .u64 c4, .int .u64 m0] (.int .u64 t0))) (H11 : Hid (All 14 #[.int .u64 t0, .int .u64 x] (.int .u64 q))) (L0 : Hid (∀ k : Int, 0 ≤ k → k < 2 → ∃ a1 a2 a3 a4 : Int, Hid (All 20 #[.int .u64 (B k), .int .u64 (B k)] (.int .u64 a1)) ∧ Hid (All 18 #[.int .u64 4607182418800017408, .int .u64 a1] (.int .u64 a2)) ∧ Hid (All 19 #[.int .u64 a2] (.int .u64 a3)) ∧ Hid (All 18 #[.int .u64 4607182418800017408, .int .u64 a3] (.int .u64 a4)) ∧ Hid (All 17 #[.int .u64 (B k), .int .u64 a4] (.int .u64 (B (k + 1)))))) (B0 : B 0 = a) (E0 : B 2 = b) : All 4 #[.int .u64 x] (.int .u64 q) := by
  intro w
  have hk := kp_start w
  go_enter Try.func4, Try.ntmps4
  go_wp2_with (first
        | (go_at_call 11; (with_reducible refine (in_of H0.out (by assumption)).mono ?_); rintro e1 w5 ⟨rfl, hk⟩)
        | (go_at_call 12; (with_reducible refine (in_of H1.out (by assumption)).mono ?_); rintro e1 w5 ⟨rfl, hk⟩)
        | (go_at_call 13; (with_reducible refine (in_of H2.out (by assumption)).mono ?_); rintro e1 w5 ⟨rfl, hk⟩)
        | (go_at_call 15; (with_reducible refine (in_of H3.out (by assumption)).mono ?_); rintro e1 w5 ⟨rfl, hk⟩)
        | (go_at_call 16; (with_reducible refine (in_of H4.out (by assumption)).mono ?_); rintro e1 w5 ⟨rfl, hk⟩)
        | (go_at_call 20; (with_reducible refine (in_of H5.out (by assumption)).mono ?_); rintro e1 w5 ⟨rfl, hk⟩)
        | (go_at_call 22; (with_reducible refine (in_of H6.out (kp_var _ _ (by assumption))).mono ?_); rintro e1 w5 ⟨rfl, hk⟩)
        | (go_at_call 21; (with_reducible refine (in_ofk (H7.out _) (by assumption)).mono ?_); rintro e1 w5 ⟨rfl, hk⟩)
        | (go_at_call 25; (with_reducible refine (in_of H8.out (by assumption)).mono ?_); rintro e1 w5 ⟨rfl, hk⟩)
        | (go_at_call 20; (with_reducible refine (in_of H9.out (by assumption)).mono ?_); rintro e1 w5 ⟨rfl, hk⟩)
        | (go_at_call 20; (with_reducible refine (in_of H10.out (by assumption)).mono ?_); rintro e1 w5 ⟨rfl, hk⟩)
        | (go_at_call 14; (with_reducible refine (in_of H11.out (by assumption)).mono ?_); rintro e1 w5 ⟨rfl, hk⟩))
  go_loopw [4, 29] (fun v4 v29 wr => ∃ k : Int, 0 ≤ k ∧ k ≤ 2 ∧ v4 = .int .u64 (B k) ∧ v29 = .int .i64 (k) ∧ Kp w [] wr) (fun v4 v29 _ => (2 - intOf v29).toNat)
  case atStart => exact ⟨0, by omega, by omega, by rw [B0], rfl, by assumption⟩
  case round =>
    obtain ⟨k, k1, k2, rfl, rfl, hk⟩ := hrel
    by_cases hb : k < 2
    · obtain ⟨a1, a2, a3, a4, G0, G1, G2, G3, G4⟩ := L0.out k k1 hb
      go_wp2_with (first
            | (go_at_call 11; (with_reducible refine (in_of H0.out (by assumption)).mono ?_); rintro e1 w5 ⟨rfl, hk⟩)
            | (go_at_call 12; (with_reducible refine (in_of H1.out (by assumption)).mono ?_); rintro e1 w5 ⟨rfl, hk⟩)
            | (go_at_call 13; (with_reducible refine (in_of H2.out (by assumption)).mono ?_); rintro e1 w5 ⟨rfl, hk⟩)
            | (go_at_call 15; (with_reducible refine (in_of H3.out (by assumption)).mono ?_); rintro e1 w5 ⟨rfl, hk⟩)
            | (go_at_call 16; (with_reducible refine (in_of H4.out (by assumption)).mono ?_); rintro e1 w5 ⟨rfl, hk⟩)
            | (go_at_call 20; (with_reducible refine (in_of H5.out (by assumption)).mono ?_); rintro e1 w5 ⟨rfl, hk⟩)
            | (go_at_call 22; (with_reducible refine (in_of H6.out (kp_var _ _ (by assumption))).mono ?_); rintro e1 w5 ⟨rfl, hk⟩)
            | (go_at_call 21; (with_reducible refine (in_ofk (H7.out _) (by assumption)).mono ?_); rintro e1 w5 ⟨rfl, hk⟩)
            | (go_at_call 25; (with_reducible refine (in_of H8.out (by assumption)).mono ?_); rintro e1 w5 ⟨rfl, hk⟩)
            | (go_at_call 20; (with_reducible refine (in_of H9.out (by assumption)).mono ?_); rintro e1 w5 ⟨rfl, hk⟩)
            | (go_at_call 20; (with_reducible refine (in_of H10.out (by assumption)).mono ?_); rintro e1 w5 ⟨rfl, hk⟩)
            | (go_at_call 14; (with_reducible refine (in_of H11.out (by assumption)).mono ?_); rintro e1 w5 ⟨rfl, hk⟩)
            | (go_at_call 20; (with_reducible refine (in_of G0.out (by assumption)).mono ?_); rintro e1 w5 ⟨rfl, hk⟩)
            | (go_at_call 18; (with_reducible refine (in_of G1.out (by assumption)).mono ?_); rintro e1 w5 ⟨rfl, hk⟩)
            | (go_at_call 19; (with_reducible refine (in_of G2.out (by assumption)).mono ?_); rintro e1 w5 ⟨rfl, hk⟩)
            | (go_at_call 18; (with_reducible refine (in_of G3.out (by assumption)).mono ?_); rintro e1 w5 ⟨rfl, hk⟩)
            | (go_at_call 17; (with_reducible refine (in_of G4.out (by assumption)).mono ?_); rintro e1 w5 ⟨rfl, hk⟩))
      go_roundw
      case rel => exact ⟨k + 1, by omega, by omega, rfl, by go_num, by assumption⟩
      case measure => simp [intOf]; omega
    · have e : k = 2 := by omega
      subst e
      rw [E0]
      go_wp2_with (first
            | (go_at_call 11; (with_reducible refine (in_of H0.out (by assumption)).mono ?_); rintro e1 w5 ⟨rfl, hk⟩)
            | (go_at_call 12; (with_reducible refine (in_of H1.out (by assumption)).mono ?_); rintro e1 w5 ⟨rfl, hk⟩)
            | (go_at_call 13; (with_reducible refine (in_of H2.out (by assumption)).mono ?_); rintro e1 w5 ⟨rfl, hk⟩)
            | (go_at_call 15; (with_reducible refine (in_of H3.out (by assumption)).mono ?_); rintro e1 w5 ⟨rfl, hk⟩)
            | (go_at_call 16; (with_reducible refine (in_of H4.out (by assumption)).mono ?_); rintro e1 w5 ⟨rfl, hk⟩)
            | (go_at_call 20; (with_reducible refine (in_of H5.out (by assumption)).mono ?_); rintro e1 w5 ⟨rfl, hk⟩)
            | (go_at_call 22; (with_reducible refine (in_of H6.out (kp_var _ _ (by assumption))).mono ?_); rintro e1 w5 ⟨rfl, hk⟩)
            | (go_at_call 21; (with_reducible refine (in_ofk (H7.out _) (by assumption)).mono ?_); rintro e1 w5 ⟨rfl, hk⟩)
            | (go_at_call 25; (with_reducible refine (in_of H8.out (by assumption)).mono ?_); rintro e1 w5 ⟨rfl, hk⟩)
            | (go_at_call 20; (with_reducible refine (in_of H9.out (by assumption)).mono ?_); rintro e1 w5 ⟨rfl, hk⟩)
            | (go_at_call 20; (with_reducible refine (in_of H10.out (by assumption)).mono ?_); rintro e1 w5 ⟨rfl, hk⟩)
            | (go_at_call 14; (with_reducible refine (in_of H11.out (by assumption)).mono ?_); rintro e1 w5 ⟨rfl, hk⟩))
      go_ret
      exact ⟨rfl, Kp.b (by assumption)⟩
set_option maxRecDepth 100000 in
set_option maxHeartbeats 1000000 in
theorem asin_n {x a : Int} (H0 : Hid (All 15 #[.int .u64 x] (.int .u64 a))) (H1 : Hid (All 11 #[.int .u64 x] (.bool true))) : All 9 #[.int .u64 x] (.int .u64 9221120237041090560) := by
  intro w
  have hk := kp_start w
  go_enter Try.func9, Try.ntmps9
  go_wp2_with (first
    | (go_at_call 15; (with_reducible refine (in_of H0.out (by assumption)).mono ?_); rintro e1 w5 ⟨rfl, hk⟩)
    | (go_at_call 11; (with_reducible refine (in_of H1.out (by assumption)).mono ?_); rintro e1 w5 ⟨rfl, hk⟩))
  go_ret
  exact ⟨rfl, Kp.b (by assumption)⟩
set_option maxRecDepth 100000 in
set_option maxHeartbeats 1000000 in
theorem asin_a {x a : Int} (H0 : Hid (All 15 #[.int .u64 x] (.int .u64 a))) (H1 : Hid (All 11 #[.int .u64 x] (.bool false))) (H2 : Hid (All 16 #[.int .u64 a, .int .u64 4607182418800017408] (.bool true))) : All 9 #[.int .u64 x] (.int .u64 9221120237041090560) := by
  intro w
  have hk := kp_start w
  go_enter Try.func9, Try.ntmps9
  go_wp2_with (first
    | (go_at_call 15; (with_reducible refine (in_of H0.out (by assumption)).mono ?_); rintro e1 w5 ⟨rfl, hk⟩)
    | (go_at_call 11; (with_reducible refine (in_of H1.out (by assumption)).mono ?_); rintro e1 w5 ⟨rfl, hk⟩)
    | (go_at_call 16; (with_reducible refine (in_of H2.out (by assumption)).mono ?_); rintro e1 w5 ⟨rfl, hk⟩))
  go_ret
  exact ⟨rfl, Kp.b (by assumption)⟩
set_option maxRecDepth 100000 in
set_option maxHeartbeats 1000000 in
theorem asin_1 {x a q : Int} (he : (a == 4607182418800017408) = true) (H0 : Hid (All 15 #[.int .u64 x] (.int .u64 a))) (H1 : Hid (All 11 #[.int .u64 x] (.bool false))) (H2 : Hid (All 16 #[.int .u64 a, .int .u64 4607182418800017408] (.bool false))) (H3 : Hid (All 14 #[.int .u64 4609753056924675352, .int .u64 x] (.int .u64 q))) : All 9 #[.int .u64 x] (.int .u64 q) := by
  intro w
  have hk := kp_start w
  go_enter Try.func9, Try.ntmps9
  go_wp2_with (first
    | (go_at_call 15; (with_reducible refine (in_of H0.out (by assumption)).mono ?_); rintro e1 w5 ⟨rfl, hk⟩)
    | (go_at_call 11; (with_reducible refine (in_of H1.out (by assumption)).mono ?_); rintro e1 w5 ⟨rfl, hk⟩)
    | (go_at_call 16; (with_reducible refine (in_of H2.out (by assumption)).mono ?_); rintro e1 w5 ⟨rfl, hk⟩)
    | (go_at_call 14; (with_reducible refine (in_of H3.out (by assumption)).mono ?_); rintro e1 w5 ⟨rfl, hk⟩))
  go_ret
  exact ⟨rfl, Kp.b (by assumption)⟩
set_option maxRecDepth 100000 in
set_option maxHeartbeats 1000000 in
theorem asin_f {x a d e g h j q : Int} (he : (a == 4607182418800017408) = false) (H0 : Hid (All 15 #[.int .u64 x] (.int .u64 a))) (H1 : Hid (All 11 #[.int .u64 x] (.bool false))) (H2 : Hid (All 16 #[.int .u64 a, .int .u64 4607182418800017408] (.bool false))) (H3 : Hid (All 24 #[.int .u64 4607182418800017408, .int .u64 x] (.int .u64 d))) (H4 : Hid (All 18 #[.int .u64 4607182418800017408, .int .u64 x] (.int .u64 e))) (H5 : Hid (All 20 #[.int .u64 d, .int .u64 e] (.int .u64 g))) (H6 : Hid (All 19 #[.int .u64 g] (.int .u64 h))) (H7 : Hid (All 17 #[.int .u64 x, .int .u64 h] (.int .u64 j))) (H8 : Hid (All 4 #[.int .u64 j] (.int .u64 q))) : All 9 #[.int .u64 x] (.int .u64 q) := by
  intro w
  have hk := kp_start w
  go_enter Try.func9, Try.ntmps9
  go_wp2_with (first
    | (go_at_call 15; (with_reducible refine (in_of H0.out (by assumption)).mono ?_); rintro e1 w5 ⟨rfl, hk⟩)
    | (go_at_call 11; (with_reducible refine (in_of H1.out (by assumption)).mono ?_); rintro e1 w5 ⟨rfl, hk⟩)
    | (go_at_call 16; (with_reducible refine (in_of H2.out (by assumption)).mono ?_); rintro e1 w5 ⟨rfl, hk⟩)
    | (go_at_call 24; (with_reducible refine (in_of H3.out (by assumption)).mono ?_); rintro e1 w5 ⟨rfl, hk⟩)
    | (go_at_call 18; (with_reducible refine (in_of H4.out (by assumption)).mono ?_); rintro e1 w5 ⟨rfl, hk⟩)
    | (go_at_call 20; (with_reducible refine (in_of H5.out (by assumption)).mono ?_); rintro e1 w5 ⟨rfl, hk⟩)
    | (go_at_call 19; (with_reducible refine (in_of H6.out (by assumption)).mono ?_); rintro e1 w5 ⟨rfl, hk⟩)
    | (go_at_call 17; (with_reducible refine (in_of H7.out (by assumption)).mono ?_); rintro e1 w5 ⟨rfl, hk⟩)
    | (go_at_call 4; (with_reducible refine (in_of H8.out (by assumption)).mono ?_); rintro e1 w5 ⟨rfl, hk⟩))
  go_ret
  exact ⟨rfl, Kp.b (by assumption)⟩
