/- The kernel's functions, a walk for each way through them. -/
import Derived.Test.YtkifdppppihjcaaGreatKB
namespace Go.Proofs.YtkifdppppihjcaaGreat
set_option linter.unusedVariables false
set_option linter.unusedSimpArgs false
open Go.RowKit Go.Shelf Go.ChangeShapes Go.WideShapes SF

set_option maxRecDepth 100000 in
set_option maxHeartbeats 1000000 in
theorem exp1_s {i p o r d m q : Int} (ad : Addr) (H0 : Hid (All 55 #[.int .i64 i] (.int .u64 o))) (H1 : Hid (All 59 #[.int .u64 r, .int .u64 o] (.int .u64 d))) (H2 : Hid (All 60 #[.int .u64 d, .int .u64 p] (.int .u64 m))) (H3 : Hid (All 75 #[.int .u64 4607182418800017408, .int .u64 m] (.int .u64 q))) : AllC [(ad, .int .u64 r)] 74 #[.int .i64 i, .int .u64 p, .pointer (some ad)] (.int .u64 q) := by
  intro w hw
  have hc0 : w.cell? ad = some (.int .u64 r) := hw (ad, .int .u64 r) (by simp)
  clear hw
  go_enter Tryz.func74, Tryz.ntmps74
  go_wp2
  go_region_held3 (fun w' => w'.cell? ad = some (.int .u64 r) ∧ Below w.heap.size w w')
    (first
      | exact ⟨hc0, (Below.refl _ _).drew⟩
      | (go_split_ands; exact ⟨by assumption, by assumption⟩)
      | (go_split_ands; exact ⟨cell_below hb5 (by assumption), kbt (by assumption) hb5⟩))
    (first
      | (go_at_call 55; (with_reducible refine (H0.out _).mono ?_); rintro e1 w5 ⟨rfl, hb5⟩)
      | (go_at_call 59; (with_reducible refine (H1.out _).mono ?_); rintro e1 w5 ⟨rfl, hb5⟩)
      | (go_at_call 60; (with_reducible refine (H2.out _).mono ?_); rintro e1 w5 ⟨rfl, hb5⟩)
      | (go_at_call 75; (with_reducible refine (H3.out _).mono ?_); rintro e1 w5 ⟨rfl, hb5⟩))
  go_wp2
  go_split_ands
  go_ret
  exact ⟨rfl, by assumption⟩
set_option maxRecDepth 100000 in
set_option maxHeartbeats 1000000 in
theorem exp_n {x : Int} (H0 : Hid (All 52 #[.int .u64 x] (.bool true))) : All 11 #[.int .u64 x] (.int .u64 9221120237041090560) := by
  intro w
  have hk := kp_start w
  go_enter Tryz.func11, Tryz.ntmps11
  go_wp2_with (first
    | (go_at_call 52; (with_reducible refine (in_of H0.out (by assumption)).mono ?_); rintro e1 w5 ⟨rfl, hk⟩))
  go_ret
  exact ⟨rfl, Kp.b (by assumption)⟩
set_option maxRecDepth 100000 in
set_option maxHeartbeats 1000000 in
theorem exp_hi {x c7 : Int} (H0 : Hid (All 52 #[.int .u64 x] (.bool false))) (H1 : Hid (All 55 #[.int .i64 710] (.int .u64 c7))) (H2 : Hid (All 53 #[.int .u64 x, .int .u64 c7] (.bool true))) : All 11 #[.int .u64 x] (.int .u64 9218868437227405312) := by
  intro w
  have hk := kp_start w
  go_enter Tryz.func11, Tryz.ntmps11
  go_wp2_with (first
    | (go_at_call 52; (with_reducible refine (in_of H0.out (by assumption)).mono ?_); rintro e1 w5 ⟨rfl, hk⟩)
    | (go_at_call 55; (with_reducible refine (in_of H1.out (by assumption)).mono ?_); rintro e1 w5 ⟨rfl, hk⟩)
    | (go_at_call 53; (with_reducible refine (in_of H2.out (by assumption)).mono ?_); rintro e1 w5 ⟨rfl, hk⟩))
  go_ret
  exact ⟨rfl, Kp.b (by assumption)⟩
set_option maxRecDepth 100000 in
set_option maxHeartbeats 1000000 in
theorem exp_lo {x c7 c8 : Int} (H0 : Hid (All 52 #[.int .u64 x] (.bool false))) (H1 : Hid (All 55 #[.int .i64 710] (.int .u64 c7))) (H2 : Hid (All 53 #[.int .u64 x, .int .u64 c7] (.bool false))) (H3 : Hid (All 55 #[.int .i64 (-746)] (.int .u64 c8))) (H4 : Hid (All 58 #[.int .u64 x, .int .u64 c8] (.bool true))) : All 11 #[.int .u64 x] (.int .u64 0) := by
  intro w
  have hk := kp_start w
  go_enter Tryz.func11, Tryz.ntmps11
  go_wp2_with (first
    | (go_at_call 52; (with_reducible refine (in_of H0.out (by assumption)).mono ?_); rintro e1 w5 ⟨rfl, hk⟩)
    | (go_at_call 55; (with_reducible refine (in_of H1.out (by assumption)).mono ?_); rintro e1 w5 ⟨rfl, hk⟩)
    | (go_at_call 53; (with_reducible refine (in_of H2.out (by assumption)).mono ?_); rintro e1 w5 ⟨rfl, hk⟩)
    | (go_at_call 55; (with_reducible refine (in_of H3.out (by assumption)).mono ?_); rintro e1 w5 ⟨rfl, hk⟩)
    | (go_at_call 58; (with_reducible refine (in_of H4.out (by assumption)).mono ?_); rintro e1 w5 ⟨rfl, hk⟩))
  go_ret
  exact ⟨rfl, Kp.b (by assumption)⟩
set_option maxRecDepth 100000 in
set_option maxHeartbeats 1000000 in
theorem exp_f {x c7 c8 k0 k a1 a2 a3 r p n z : Int} (H0 : Hid (All 52 #[.int .u64 x] (.bool false))) (H1 : Hid (All 55 #[.int .i64 710] (.int .u64 c7))) (H2 : Hid (All 53 #[.int .u64 x, .int .u64 c7] (.bool false))) (H3 : Hid (All 55 #[.int .i64 (-746)] (.int .u64 c8))) (H4 : Hid (All 58 #[.int .u64 x, .int .u64 c8] (.bool false))) (H5 : Hid (All 60 #[.int .u64 x, .int .u64 4609176140021203710] (.int .u64 k0))) (H6 : Hid (All 71 #[.int .u64 k0] (.int .u64 k))) (H7 : Hid (All 60 #[.int .u64 k, .int .u64 4604418534311723008] (.int .u64 a1))) (H8 : Hid (All 72 #[.int .u64 x, .int .u64 a1] (.int .u64 a2))) (H9 : Hid (All 60 #[.int .u64 k, .int .u64 4461442080421002358] (.int .u64 a3))) (H10 : Hid (All 72 #[.int .u64 a2, .int .u64 a3] (.int .u64 r))) (H11 : Hid (∀ ad : Addr, AllC [(ad, .int .u64 r)] 73 #[.int .u64 4607182418800017408, .int .i64 13, .int .i64 1, .func (.func 74) #[] #[.pointer (some ad)]] (.int .u64 p))) (H12 : Hid (All 57 #[.int .u64 k] (.int .i64 n))) (H13 : Hid (All 76 #[.int .u64 p, .int .i64 n] (.int .u64 z))) : All 11 #[.int .u64 x] (.int .u64 z) := by
  intro w
  have hk := kp_start w
  go_enter Tryz.func11, Tryz.ntmps11
  go_wp2_with (first
    | (go_at_call 52; (with_reducible refine (in_of H0.out (by assumption)).mono ?_); rintro e1 w5 ⟨rfl, hk⟩)
    | (go_at_call 55; (with_reducible refine (in_of H1.out (by assumption)).mono ?_); rintro e1 w5 ⟨rfl, hk⟩)
    | (go_at_call 53; (with_reducible refine (in_of H2.out (by assumption)).mono ?_); rintro e1 w5 ⟨rfl, hk⟩)
    | (go_at_call 55; (with_reducible refine (in_of H3.out (by assumption)).mono ?_); rintro e1 w5 ⟨rfl, hk⟩)
    | (go_at_call 58; (with_reducible refine (in_of H4.out (by assumption)).mono ?_); rintro e1 w5 ⟨rfl, hk⟩)
    | (go_at_call 60; (with_reducible refine (in_of H5.out (by assumption)).mono ?_); rintro e1 w5 ⟨rfl, hk⟩)
    | (go_at_call 71; (with_reducible refine (in_of H6.out (by assumption)).mono ?_); rintro e1 w5 ⟨rfl, hk⟩)
    | (go_at_call 60; (with_reducible refine (in_of H7.out (by assumption)).mono ?_); rintro e1 w5 ⟨rfl, hk⟩)
    | (go_at_call 72; (with_reducible refine (in_of H8.out (by assumption)).mono ?_); rintro e1 w5 ⟨rfl, hk⟩)
    | (go_at_call 60; (with_reducible refine (in_of H9.out (by assumption)).mono ?_); rintro e1 w5 ⟨rfl, hk⟩)
    | (go_at_call 72; (with_reducible refine (in_of H10.out (by assumption)).mono ?_); rintro e1 w5 ⟨rfl, hk⟩)
    | (go_at_call 73; (with_reducible refine (in_ofk (H11.out _) (kp_var _ _ (by assumption))).mono ?_); rintro e1 w5 ⟨rfl, hk⟩)
    | (go_at_call 57; (with_reducible refine (in_of H12.out (by assumption)).mono ?_); rintro e1 w5 ⟨rfl, hk⟩)
    | (go_at_call 76; (with_reducible refine (in_of H13.out (by assumption)).mono ?_); rintro e1 w5 ⟨rfl, hk⟩))
  go_ret
  exact ⟨rfl, Kp.b (by assumption)⟩
set_option maxRecDepth 100000 in
set_option maxHeartbeats 1000000 in
theorem row1_s {i p v o z d m q last : Int} (ad1 ad2 : Addr) (hv : IntKind.i64.wrap (IntKind.i64.wrap (2 * i) * IntKind.i64.wrap (IntKind.i64.wrap (2 * i) + last)) = v) (H0 : Hid (All 55 #[.int .i64 v] (.int .u64 o))) (H1 : Hid (All 59 #[.int .u64 z, .int .u64 o] (.int .u64 d))) (H2 : Hid (All 60 #[.int .u64 d, .int .u64 p] (.int .u64 m))) (H3 : Hid (All 72 #[.int .u64 4607182418800017408, .int .u64 m] (.int .u64 q))) : AllC [(ad1, .int .u64 z), (ad2, .int .i64 last)] 166 #[.int .i64 i, .int .u64 p, .pointer (some ad1), .pointer (some ad2)] (.int .u64 q) := by
  intro w hw
  have hc0 : w.cell? ad1 = some (.int .u64 z) := hw (ad1, .int .u64 z) (by simp)
  have hc1 : w.cell? ad2 = some (.int .i64 last) := hw (ad2, .int .i64 last) (by simp)
  clear hw
  go_enter Tryz.func166, Tryz.ntmps166
  go_wp2
  go_region_held3 (fun w' => w'.cell? ad1 = some (.int .u64 z) ∧ w'.cell? ad2 = some (.int .i64 last) ∧ Below w.heap.size w w')
    (first
      | exact ⟨hc0, hc1, (Below.refl _ _).drew⟩
      | (go_split_ands; exact ⟨by assumption, by assumption, by assumption⟩)
      | (go_split_ands; exact ⟨cell_below hb5 (by assumption), cell_below hb5 (by assumption), kbt (by assumption) hb5⟩))
    (first
      | (go_at_call 55; (with_reducible refine (H0.out _).mono ?_); rintro e1 w5 ⟨rfl, hb5⟩)
      | (go_at_call 59; (with_reducible refine (H1.out _).mono ?_); rintro e1 w5 ⟨rfl, hb5⟩)
      | (go_at_call 60; (with_reducible refine (H2.out _).mono ?_); rintro e1 w5 ⟨rfl, hb5⟩)
      | (go_at_call 72; (with_reducible refine (H3.out _).mono ?_); rintro e1 w5 ⟨rfl, hb5⟩))
  go_wp2
  go_split_ands
  go_ret
  exact ⟨rfl, by assumption⟩
set_option maxRecDepth 100000 in
set_option maxHeartbeats 1000000 in
theorem row_s {z last p : Int} (H0 : Hid (∀ ad1 ad2 : Addr, AllC [(ad1, .int .u64 z), (ad2, .int .i64 last)] 73 #[.int .u64 4607182418800017408, .int .i64 8, .int .i64 1, .func (.func 166) #[] #[.pointer (some ad1), .pointer (some ad2)]] (.int .u64 p))) : All 139 #[.int .u64 z, .int .i64 last] (.int .u64 p) := by
  intro w
  have hk := kp_start w
  go_enter Tryz.func139, Tryz.ntmps139
  go_wp2_with (first
    | (go_at_call 73; (with_reducible refine (in_ofk (H0.out _ _) (kp_var2 _ _ _ _ (by assumption))).mono ?_); rintro e1 w5 ⟨rfl, hk⟩))
  go_ret
  exact ⟨rfl, Kp.b (by assumption)⟩
set_option maxRecDepth 100000 in
set_option maxHeartbeats 1000000 in
theorem sine_s {z a r q : Int} (ad1 ad2 : Addr) (H0 : Hid (All 139 #[.int .u64 z, .int .i64 1] (.int .u64 a))) (H1 : Hid (All 60 #[.int .u64 r, .int .u64 a] (.int .u64 q))) : AllC [(ad1, .int .u64 r), (ad2, .int .u64 z)] 138 #[.pointer (some ad1), .pointer (some ad2)] (.int .u64 q) := by
  intro w hw
  have hc0 : w.cell? ad1 = some (.int .u64 r) := hw (ad1, .int .u64 r) (by simp)
  have hc1 : w.cell? ad2 = some (.int .u64 z) := hw (ad2, .int .u64 z) (by simp)
  clear hw
  go_enter Tryz.func138, Tryz.ntmps138
  go_wp2
  go_region_held3 (fun w' => w'.cell? ad1 = some (.int .u64 r) ∧ w'.cell? ad2 = some (.int .u64 z) ∧ Below w.heap.size w w')
    (first
      | exact ⟨hc0, hc1, (Below.refl _ _).drew⟩
      | (go_split_ands; exact ⟨by assumption, by assumption, by assumption⟩)
      | (go_split_ands; exact ⟨cell_below hb5 (by assumption), cell_below hb5 (by assumption), kbt (by assumption) hb5⟩))
    (first
      | (go_at_call 139; (with_reducible refine (H0.out _).mono ?_); rintro e1 w5 ⟨rfl, hb5⟩)
      | (go_at_call 60; (with_reducible refine (H1.out _).mono ?_); rintro e1 w5 ⟨rfl, hb5⟩))
  go_wp2
  go_split_ands
  go_ret
  exact ⟨rfl, by assumption⟩
set_option maxRecDepth 100000 in
set_option maxHeartbeats 1000000 in
theorem cosine_s {z a r : Int} (ad1 ad2 : Addr) (H0 : Hid (All 139 #[.int .u64 z, .int .i64 (-1)] (.int .u64 a))) : AllC [(ad1, .int .u64 r), (ad2, .int .u64 z)] 140 #[.pointer (some ad2)] (.int .u64 a) := by
  intro w hw
  have hc0 : w.cell? ad1 = some (.int .u64 r) := hw (ad1, .int .u64 r) (by simp)
  have hc1 : w.cell? ad2 = some (.int .u64 z) := hw (ad2, .int .u64 z) (by simp)
  clear hw
  have hk := kp_start w
  have hk := kp_start w
  go_enter Tryz.func140, Tryz.ntmps140
  go_wp2_with (first
    | (go_at_call 139; (with_reducible refine (in_of H0.out (by assumption)).mono ?_); rintro e1 w5 ⟨rfl, hk⟩))
  go_ret
  exact ⟨rfl, Kp.b (by assumption)⟩
set_option maxRecDepth 100000 in
set_option maxHeartbeats 1000000 in
theorem turned_0 {k r z a : Int} (hk3 : bits .and .i64 k 3 = 0) (H0 : Hid (∀ ad1 ad2 : Addr, AllC [(ad1, .int .u64 r), (ad2, .int .u64 z)] 138 #[.pointer (some ad1), .pointer (some ad2)] (.int .u64 a))) : All 91 #[.int .i64 k, .int .u64 r, .int .u64 z] (.int .u64 a) := by
  intro w
  have hk := kp_start w
  go_enter Tryz.func91, Tryz.ntmps91
  go_wp2_with (first
    | (go_at_call 138; (with_reducible refine (in_ofk (H0.out _ _) (kp_var2 _ _ _ _ (by assumption))).mono ?_); rintro e1 w5 ⟨rfl, hk⟩))
  go_ret
  exact ⟨rfl, Kp.b (by assumption)⟩
set_option maxRecDepth 100000 in
set_option maxHeartbeats 1000000 in
theorem turned_1 {k r z a : Int} (hk3 : bits .and .i64 k 3 = 1) (H0 : Hid (∀ ad1 ad2 : Addr, AllC [(ad1, .int .u64 r), (ad2, .int .u64 z)] 140 #[.pointer (some ad2)] (.int .u64 a))) : All 91 #[.int .i64 k, .int .u64 r, .int .u64 z] (.int .u64 a) := by
  intro w
  have hk := kp_start w
  go_enter Tryz.func91, Tryz.ntmps91
  go_wp2_with (first
    | (go_at_call 140; (with_reducible refine (in_ofk (H0.out _ _) (kp_var2 _ _ _ _ (by assumption))).mono ?_); rintro e1 w5 ⟨rfl, hk⟩))
  go_ret
  exact ⟨rfl, Kp.b (by assumption)⟩
set_option maxRecDepth 100000 in
set_option maxHeartbeats 1000000 in
theorem turned_2 {k r z a b : Int} (hk3 : bits .and .i64 k 3 = 2) (H0 : Hid (∀ ad1 ad2 : Addr, AllC [(ad1, .int .u64 r), (ad2, .int .u64 z)] 138 #[.pointer (some ad1), .pointer (some ad2)] (.int .u64 a))) (H1 : Hid (All 82 #[.int .u64 a] (.int .u64 b))) : All 91 #[.int .i64 k, .int .u64 r, .int .u64 z] (.int .u64 b) := by
  intro w
  have hk := kp_start w
  go_enter Tryz.func91, Tryz.ntmps91
  go_wp2_with (first
    | (go_at_call 138; (with_reducible refine (in_ofk (H0.out _ _) (kp_var2 _ _ _ _ (by assumption))).mono ?_); rintro e1 w5 ⟨rfl, hk⟩)
    | (go_at_call 82; (with_reducible refine (in_of H1.out (by assumption)).mono ?_); rintro e1 w5 ⟨rfl, hk⟩))
  go_ret
  exact ⟨rfl, Kp.b (by assumption)⟩
set_option maxRecDepth 100000 in
set_option maxHeartbeats 1000000 in
theorem turned_3 {k r z a b : Int} (hk3 : bits .and .i64 k 3 = 3) (H0 : Hid (∀ ad1 ad2 : Addr, AllC [(ad1, .int .u64 r), (ad2, .int .u64 z)] 140 #[.pointer (some ad2)] (.int .u64 a))) (H1 : Hid (All 82 #[.int .u64 a] (.int .u64 b))) : All 91 #[.int .i64 k, .int .u64 r, .int .u64 z] (.int .u64 b) := by
  intro w
  have hk := kp_start w
  go_enter Tryz.func91, Tryz.ntmps91
  go_wp2_with (first
    | (go_at_call 140; (with_reducible refine (in_ofk (H0.out _ _) (kp_var2 _ _ _ _ (by assumption))).mono ?_); rintro e1 w5 ⟨rfl, hk⟩)
    | (go_at_call 82; (with_reducible refine (in_of H1.out (by assumption)).mono ?_); rintro e1 w5 ⟨rfl, hk⟩))
  go_ret
  exact ⟨rfl, Kp.b (by assumption)⟩
set_option maxRecDepth 100000 in
set_option maxHeartbeats 1000000 in
theorem quarter_n {x : Int} (H0 : Hid (All 52 #[.int .u64 x] (.bool true))) : All 90 #[.int .u64 x] (.tuple #[.int .i64 0, .int .u64 0, .int .u64 0, .bool false]) := by
  intro w
  have hk := kp_start w
  go_enter Tryz.func90, Tryz.ntmps90
  go_wp2_with (first
    | (go_at_call 52; (with_reducible refine (in_of H0.out (by assumption)).mono ?_); rintro e1 w5 ⟨rfl, hk⟩))
  exact bodyPost_ret (v := .tuple #[.int .i64 0, .int .u64 0, .int .u64 0, .bool false]) (by simp [results, Tryz.results90, go_sem]) rfl ⟨rfl, Kp.b (by assumption)⟩
set_option maxRecDepth 100000 in
set_option maxHeartbeats 1000000 in
theorem quarter_i {x : Int} (H0 : Hid (All 52 #[.int .u64 x] (.bool false))) (H1 : Hid (All 83 #[.int .u64 x] (.bool true))) : All 90 #[.int .u64 x] (.tuple #[.int .i64 0, .int .u64 0, .int .u64 0, .bool false]) := by
  intro w
  have hk := kp_start w
  go_enter Tryz.func90, Tryz.ntmps90
  go_wp2_with (first
    | (go_at_call 52; (with_reducible refine (in_of H0.out (by assumption)).mono ?_); rintro e1 w5 ⟨rfl, hk⟩)
    | (go_at_call 83; (with_reducible refine (in_of H1.out (by assumption)).mono ?_); rintro e1 w5 ⟨rfl, hk⟩))
  exact bodyPost_ret (v := .tuple #[.int .i64 0, .int .u64 0, .int .u64 0, .bool false]) (by simp [results, Tryz.results90, go_sem]) rfl ⟨rfl, Kp.b (by assumption)⟩
set_option maxRecDepth 100000 in
set_option maxHeartbeats 1000000 in
theorem quarter_a {x a c : Int} (H0 : Hid (All 52 #[.int .u64 x] (.bool false))) (H1 : Hid (All 83 #[.int .u64 x] (.bool false))) (H2 : Hid (All 54 #[.int .u64 x] (.int .u64 a))) (H3 : Hid (All 55 #[.int .i64 1073741824] (.int .u64 c))) (H4 : Hid (All 53 #[.int .u64 a, .int .u64 c] (.bool true))) : All 90 #[.int .u64 x] (.tuple #[.int .i64 0, .int .u64 0, .int .u64 0, .bool false]) := by
  intro w
  have hk := kp_start w
  go_enter Tryz.func90, Tryz.ntmps90
  go_wp2_with (first
    | (go_at_call 52; (with_reducible refine (in_of H0.out (by assumption)).mono ?_); rintro e1 w5 ⟨rfl, hk⟩)
    | (go_at_call 83; (with_reducible refine (in_of H1.out (by assumption)).mono ?_); rintro e1 w5 ⟨rfl, hk⟩)
    | (go_at_call 54; (with_reducible refine (in_of H2.out (by assumption)).mono ?_); rintro e1 w5 ⟨rfl, hk⟩)
    | (go_at_call 55; (with_reducible refine (in_of H3.out (by assumption)).mono ?_); rintro e1 w5 ⟨rfl, hk⟩)
    | (go_at_call 53; (with_reducible refine (in_of H4.out (by assumption)).mono ?_); rintro e1 w5 ⟨rfl, hk⟩))
  exact bodyPost_ret (v := .tuple #[.int .i64 0, .int .u64 0, .int .u64 0, .bool false]) (by simp [results, Tryz.results90, go_sem]) rfl ⟨rfl, Kp.b (by assumption)⟩
set_option maxRecDepth 100000 in
set_option maxHeartbeats 1000000 in
theorem quarter_f {k : Int} {x a c f0 f a1 a2 a3 a4 a5 r n z : Int} (hk3 : bits .and .i64 n 3 = k) (H0 : Hid (All 52 #[.int .u64 x] (.bool false))) (H1 : Hid (All 83 #[.int .u64 x] (.bool false))) (H2 : Hid (All 54 #[.int .u64 x] (.int .u64 a))) (H3 : Hid (All 55 #[.int .i64 1073741824] (.int .u64 c))) (H4 : Hid (All 53 #[.int .u64 a, .int .u64 c] (.bool false))) (H5 : Hid (All 60 #[.int .u64 x, .int .u64 4603909380684499075] (.int .u64 f0))) (H6 : Hid (All 71 #[.int .u64 f0] (.int .u64 f))) (H7 : Hid (All 60 #[.int .u64 f, .int .u64 4609753056853098496] (.int .u64 a1))) (H8 : Hid (All 72 #[.int .u64 x, .int .u64 a1] (.int .u64 a2))) (H9 : Hid (All 60 #[.int .u64 f, .int .u64 4490388670355865600] (.int .u64 a3))) (H10 : Hid (All 72 #[.int .u64 a2, .int .u64 a3] (.int .u64 a4))) (H11 : Hid (All 60 #[.int .u64 f, .int .u64 4364452196894661639] (.int .u64 a5))) (H12 : Hid (All 72 #[.int .u64 a4, .int .u64 a5] (.int .u64 r))) (H13 : Hid (All 57 #[.int .u64 f] (.int .i64 n))) (H14 : Hid (All 60 #[.int .u64 r, .int .u64 r] (.int .u64 z))) : All 90 #[.int .u64 x] (.tuple #[.int .i64 k, .int .u64 r, .int .u64 z, .bool true]) := by
  intro w
  have hk := kp_start w
  go_enter Tryz.func90, Tryz.ntmps90
  go_wp2_with (first
    | (go_at_call 52; (with_reducible refine (in_of H0.out (by assumption)).mono ?_); rintro e1 w5 ⟨rfl, hk⟩)
    | (go_at_call 83; (with_reducible refine (in_of H1.out (by assumption)).mono ?_); rintro e1 w5 ⟨rfl, hk⟩)
    | (go_at_call 54; (with_reducible refine (in_of H2.out (by assumption)).mono ?_); rintro e1 w5 ⟨rfl, hk⟩)
    | (go_at_call 55; (with_reducible refine (in_of H3.out (by assumption)).mono ?_); rintro e1 w5 ⟨rfl, hk⟩)
    | (go_at_call 53; (with_reducible refine (in_of H4.out (by assumption)).mono ?_); rintro e1 w5 ⟨rfl, hk⟩)
    | (go_at_call 60; (with_reducible refine (in_of H5.out (by assumption)).mono ?_); rintro e1 w5 ⟨rfl, hk⟩)
    | (go_at_call 71; (with_reducible refine (in_of H6.out (by assumption)).mono ?_); rintro e1 w5 ⟨rfl, hk⟩)
    | (go_at_call 60; (with_reducible refine (in_of H7.out (by assumption)).mono ?_); rintro e1 w5 ⟨rfl, hk⟩)
    | (go_at_call 72; (with_reducible refine (in_of H8.out (by assumption)).mono ?_); rintro e1 w5 ⟨rfl, hk⟩)
    | (go_at_call 60; (with_reducible refine (in_of H9.out (by assumption)).mono ?_); rintro e1 w5 ⟨rfl, hk⟩)
    | (go_at_call 72; (with_reducible refine (in_of H10.out (by assumption)).mono ?_); rintro e1 w5 ⟨rfl, hk⟩)
    | (go_at_call 60; (with_reducible refine (in_of H11.out (by assumption)).mono ?_); rintro e1 w5 ⟨rfl, hk⟩)
    | (go_at_call 72; (with_reducible refine (in_of H12.out (by assumption)).mono ?_); rintro e1 w5 ⟨rfl, hk⟩)
    | (go_at_call 57; (with_reducible refine (in_of H13.out (by assumption)).mono ?_); rintro e1 w5 ⟨rfl, hk⟩)
    | (go_at_call 60; (with_reducible refine (in_of H14.out (by assumption)).mono ?_); rintro e1 w5 ⟨rfl, hk⟩))
  exact bodyPost_ret (v := .tuple #[.int .i64 k, .int .u64 r, .int .u64 z, .bool true]) (by simp [results, Tryz.results90, go_sem]) rfl ⟨rfl, Kp.b (by assumption)⟩
set_option maxRecDepth 100000 in
set_option maxHeartbeats 1000000 in
theorem sin_z {x : Int} (H0 : Hid (All 51 #[.int .u64 x] (.bool true))) : All 23 #[.int .u64 x] (.int .u64 x) := by
  intro w
  have hk := kp_start w
  go_enter Tryz.func23, Tryz.ntmps23
  go_wp2_with (first
    | (go_at_call 51; (with_reducible refine (in_of H0.out (by assumption)).mono ?_); rintro e1 w5 ⟨rfl, hk⟩))
  go_ret
  exact ⟨rfl, Kp.b (by assumption)⟩
set_option maxRecDepth 100000 in
set_option maxHeartbeats 1000000 in
theorem sin_n {x k r z : Int} (H0 : Hid (All 51 #[.int .u64 x] (.bool false))) (H1 : Hid (All 90 #[.int .u64 x] (.tuple #[.int .i64 k, .int .u64 r, .int .u64 z, .bool false]))) : All 23 #[.int .u64 x] (.int .u64 9221120237041090560) := by
  intro w
  have hk := kp_start w
  go_enter Tryz.func23, Tryz.ntmps23
  go_wp2_with (first
    | (go_at_call 51; (with_reducible refine (in_of H0.out (by assumption)).mono ?_); rintro e1 w5 ⟨rfl, hk⟩)
    | (go_at_call 90; (with_reducible refine (in_of H1.out (by assumption)).mono ?_); rintro e1 w5 ⟨rfl, hk⟩))
  go_ret
  exact ⟨rfl, Kp.b (by assumption)⟩
set_option maxRecDepth 100000 in
set_option maxHeartbeats 1000000 in
theorem sin_f {x k r z s : Int} (H0 : Hid (All 51 #[.int .u64 x] (.bool false))) (H1 : Hid (All 90 #[.int .u64 x] (.tuple #[.int .i64 k, .int .u64 r, .int .u64 z, .bool true]))) (H2 : Hid (All 91 #[.int .i64 k, .int .u64 r, .int .u64 z] (.int .u64 s))) : All 23 #[.int .u64 x] (.int .u64 s) := by
  intro w
  have hk := kp_start w
  go_enter Tryz.func23, Tryz.ntmps23
  go_wp2_with (first
    | (go_at_call 51; (with_reducible refine (in_of H0.out (by assumption)).mono ?_); rintro e1 w5 ⟨rfl, hk⟩)
    | (go_at_call 90; (with_reducible refine (in_of H1.out (by assumption)).mono ?_); rintro e1 w5 ⟨rfl, hk⟩)
    | (go_at_call 91; (with_reducible refine (in_of H2.out (by assumption)).mono ?_); rintro e1 w5 ⟨rfl, hk⟩))
  go_ret
  exact ⟨rfl, Kp.b (by assumption)⟩
set_option maxRecDepth 100000 in
set_option maxHeartbeats 1000000 in
theorem cos_n {x k r z : Int} (H0 : Hid (All 90 #[.int .u64 x] (.tuple #[.int .i64 k, .int .u64 r, .int .u64 z, .bool false]))) : All 25 #[.int .u64 x] (.int .u64 9221120237041090560) := by
  intro w
  have hk := kp_start w
  go_enter Tryz.func25, Tryz.ntmps25
  go_wp2_with (first
    | (go_at_call 90; (with_reducible refine (in_of H0.out (by assumption)).mono ?_); rintro e1 w5 ⟨rfl, hk⟩))
  go_ret
  exact ⟨rfl, Kp.b (by assumption)⟩
set_option maxRecDepth 100000 in
set_option maxHeartbeats 1000000 in
theorem cos_f {x k r z s : Int} (k1 : 0 ≤ k) (k2 : k ≤ 3) (H0 : Hid (All 90 #[.int .u64 x] (.tuple #[.int .i64 k, .int .u64 r, .int .u64 z, .bool true]))) (H1 : Hid (All 91 #[.int .i64 (k + 1), .int .u64 r, .int .u64 z] (.int .u64 s))) : All 25 #[.int .u64 x] (.int .u64 s) := by
  intro w
  have hk := kp_start w
  go_enter Tryz.func25, Tryz.ntmps25
  go_wp2_with (first
    | (go_at_call 90; (with_reducible refine (in_of H0.out (by assumption)).mono ?_); rintro e1 w5 ⟨rfl, hk⟩)
    | (go_at_call 91; (with_reducible refine (in_of H1.out (by assumption)).mono ?_); rintro e1 w5 ⟨rfl, hk⟩))
  go_ret
  exact ⟨rfl, Kp.b (by assumption)⟩
set_option maxRecDepth 100000 in
set_option maxHeartbeats 1000000 in
theorem tan_s {x a b q : Int} (H0 : Hid (All 23 #[.int .u64 x] (.int .u64 a))) (H1 : Hid (All 25 #[.int .u64 x] (.int .u64 b))) (H2 : Hid (All 59 #[.int .u64 a, .int .u64 b] (.int .u64 q))) : All 27 #[.int .u64 x] (.int .u64 q) := by
  intro w
  have hk := kp_start w
  go_enter Tryz.func27, Tryz.ntmps27
  go_wp2_with (first
    | (go_at_call 23; (with_reducible refine (in_of H0.out (by assumption)).mono ?_); rintro e1 w5 ⟨rfl, hk⟩)
    | (go_at_call 25; (with_reducible refine (in_of H1.out (by assumption)).mono ?_); rintro e1 w5 ⟨rfl, hk⟩)
    | (go_at_call 59; (with_reducible refine (in_of H2.out (by assumption)).mono ?_); rintro e1 w5 ⟨rfl, hk⟩))
  go_ret
  exact ⟨rfl, Kp.b (by assumption)⟩
