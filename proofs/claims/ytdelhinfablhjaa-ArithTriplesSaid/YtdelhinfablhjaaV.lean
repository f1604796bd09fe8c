/- Contracts of bobbinref1's scale, sums, differences, orders; back; the walks of six laws. -/
import Derived.Test.YtdelhinfablhjaaT2
namespace Go.Proofs.Ytdelhinfablhjaa
set_option linter.unusedVariables false
set_option linter.unusedSimpArgs false
open Go.RowKit Go.Shelf
theorem rscale_c (a b d : Int) (ha : Cell a) (hb : Cell b) (hd : Cell d) (w : World) : Calls Try.prog 33 #[.int .i64 a, .int .i64 b, .int .i64 d] w fun e w' =>
    e = .returned (.tuple #[.int .i64 (n1 (floorV (dlo (a * b)) (dhi (a * b)) d)), .int .i64 (n2 (floorV (dlo (a * b)) (dhi (a * b)) d)), .int .i64 (n3 (floorV (dlo (a * b)) (dhi (a * b)) d))]) ∧ w = w' := by
  go_enter Try.func33, Try.ntmps33
  go_wp2_with (first
    | (go_at_call 31; refine (rmul_c _ _ ha hb _).mono ?_; rintro e w' ⟨rfl, rfl⟩)
    | (go_at_call 19; refine (rfloor_c _ _ _ (cell_dlo _) (cell_dhi _) hd _).mono ?_; rintro e w' ⟨rfl, rfl⟩))
  go_ret3
  exact ⟨rfl, rfl⟩
theorem radd_c (alo ahi blo bhi : Int) (w : World) : Calls Try.prog 21 #[.int .i64 alo, .int .i64 ahi, .int .i64 blo, .int .i64 bhi] w fun e w' =>
    e = .returned (.tuple #[.int .i64 (dlo (D alo ahi + D blo bhi)), .int .i64 (dhi (D alo ahi + D blo bhi))]) ∧ w = w' := by
  unfold dlo dhi D
  go_enter Try.func21, Try.ntmps21
  go_wp2
  all_goals
    have h1 : (alo + blo) % 18446744073709551616 < alo % 18446744073709551616 ∨ ¬ (alo + blo) % 18446744073709551616 < alo % 18446744073709551616 := by omega
    go_ret2
    refine ⟨ret2 ?_ ?_, rfl⟩
    · simp only [IntKind.wrap_u64] at *
      unfold wrap64
      omega
    · simp only [IntKind.wrap_u64] at *
      unfold wrap64
      omega
theorem rsub_c (alo ahi blo bhi : Int) (w : World) : Calls Try.prog 23 #[.int .i64 alo, .int .i64 ahi, .int .i64 blo, .int .i64 bhi] w fun e w' =>
    e = .returned (.tuple #[.int .i64 (dlo (D alo ahi - D blo bhi)), .int .i64 (dhi (D alo ahi - D blo bhi))]) ∧ w = w' := by
  unfold dlo dhi D
  go_enter Try.func23, Try.ntmps23
  go_wp2
  all_goals
    go_ret2
    refine ⟨ret2 ?_ ?_, rfl⟩
    · simp only [IntKind.wrap_u64] at *
      unfold wrap64
      omega
    · simp only [IntKind.wrap_u64] at *
      unfold wrap64
      omega
theorem rless_c (alo ahi blo bhi : Int) (w : World) : Calls Try.prog 25 #[.int .i64 alo, .int .i64 ahi, .int .i64 blo, .int .i64 bhi] w fun e w' => e = .returned (.bool (lessB alo ahi blo bhi)) ∧ w = w' := by
  unfold lessB D
  by_cases h1 : ahi < bhi
  · go_enter Try.func25, Try.ntmps25
    go_wp2
    go_ret
    exact ⟨retb (by simp; omega), rfl⟩
  · by_cases h2 : ahi = bhi
    · subst h2
      go_enter Try.func25, Try.ntmps25
      go_wp2
      go_ret
      exact ⟨retb (by simp [IntKind.wrap_u64]), rfl⟩
    · have h3 : (ahi == bhi) = false := by simpa using h2
      go_enter Try.func25, Try.ntmps25
      go_wp2
      go_ret
      exact ⟨retb (by simp; omega), rfl⟩
theorem ruless_c (alo ahi blo bhi : Int) (ha : Cell ahi) (hb : Cell bhi) (w : World) : Calls Try.prog 27 #[.int .i64 alo, .int .i64 ahi, .int .i64 blo, .int .i64 bhi] w fun e w' => e = .returned (.bool (ulessB alo ahi blo bhi)) ∧ w = w' := by
  unfold ulessB UD
  obtain ⟨a1, a2⟩ := ha
  obtain ⟨b1, b2⟩ := hb
  by_cases h1 : IntKind.u64.wrap ahi < IntKind.u64.wrap bhi
  · have h1' := h1
    simp only [IntKind.wrap_u64] at h1'
    have H := Lib.hid h1'
    clear h1'
    go_enter Try.func27, Try.ntmps27
    go_wp2
    go_ret
    exact ⟨retb (by have := H.out; simp; omega), rfl⟩
  · by_cases h2 : ahi = bhi
    · subst h2
      go_enter Try.func27, Try.ntmps27
      go_wp2
      go_ret
      exact ⟨retb (by simp [IntKind.wrap_u64]), rfl⟩
    · have h3 : (ahi == bhi) = false := by simpa using h2
      have h1' := h1
      simp only [IntKind.wrap_u64] at h1'
      have H := Lib.hid h1'
      have H2 := Lib.hid h2
      clear h1' h2
      go_enter Try.func27, Try.ntmps27
      go_wp2
      go_ret
      exact ⟨retb (by have := H.out; have := H2.out; simp; omega), rfl⟩

/-! ### The laws' walks -/
theorem products_walk (a b : Int) (ha : Cell a) (hb : Cell b) (w : World) : Calls Try.prog 6 #[.int .i64 a, .int .i64 b] w fun e w' => e = .returned (.bool true) ∧ ∃ n, w' = w.drewN n := by
  go_enter Try.func6, Try.ntmps6
  go_wp2_with (first
    | (go_at_call 28; refine (umul_c _ _ _).mono ?_; rintro e w' ⟨rfl, rfl⟩)
    | (go_at_call 29; refine (rumul_c _ _ _).mono ?_; rintro e w' ⟨rfl, rfl⟩)
    | (go_at_call 30; refine (mul_c _ _ ha hb _).mono ?_; rintro e w' ⟨rfl, rfl⟩)
    | (go_at_call 31; refine (rmul_c _ _ ha hb _).mono ?_; rintro e w' ⟨rfl, rfl⟩)
    | (go_at_call 13; refine (awake_c _).mono ?_; rintro e w' ⟨rfl, n, rfl⟩))
  go_ret
  exact ⟨rfl, _, rfl⟩
theorem divides_walk (lo hi d : Int) (hl : Cell lo) (hh : Cell hi) (hd : Cell d) (w : World) : Calls Try.prog 4 #[.int .i64 lo, .int .i64 hi, .int .i64 d] w fun e w' => e = .returned (.bool true) ∧ ∃ n, w' = w.drewN n := by
  go_enter Try.func4, Try.ntmps4
  go_wp2_with (first
    | (go_at_call 14; refine (udiv_c3 _ _ _ _).mono ?_; rintro e w' ⟨rfl, n, rfl⟩)
    | (go_at_call 15; refine (rudiv_c _ _ _ hd _).mono ?_; rintro e w' ⟨rfl, rfl⟩)
    | (go_at_call 16; refine (sym_c _ _ _ hh hd _).mono ?_; rintro e w' ⟨rfl, n, rfl⟩)
    | (go_at_call 17; refine (rsym_c _ _ _ hl hh hd _).mono ?_; rintro e w' ⟨rfl, rfl⟩)
    | (go_at_call 18; refine (floor_c _ _ _ hh hd _).mono ?_; rintro e w' ⟨rfl, n, rfl⟩)
    | (go_at_call 19; refine (rfloor_c _ _ _ hl hh hd _).mono ?_; rintro e w' ⟨rfl, rfl⟩)
    | (go_at_call 13; refine (awake_c _).mono ?_; rintro e w' ⟨rfl, n, rfl⟩))
  go_ret
  exact ⟨rfl, _, rfl⟩
theorem scales_walk (a b d : Int) (ha : Cell a) (hb : Cell b) (hd : Cell d) (w : World) : Calls Try.prog 7 #[.int .i64 a, .int .i64 b, .int .i64 d] w fun e w' => e = .returned (.bool true) ∧ ∃ n, w' = w.drewN n := by
  go_enter Try.func7, Try.ntmps7
  go_wp2_with (first
    | (go_at_call 32; refine (scale_c _ _ _ ha hb hd _).mono ?_; rintro e w' ⟨rfl, n, rfl⟩)
    | (go_at_call 33; refine (rscale_c _ _ _ ha hb hd _).mono ?_; rintro e w' ⟨rfl, rfl⟩)
    | (go_at_call 13; refine (awake_c _).mono ?_; rintro e w' ⟨rfl, n, rfl⟩))
  go_ret
  exact ⟨rfl, _, rfl⟩
theorem doubles_walk (alo ahi blo bhi : Int) (ha : Cell ahi) (hb : Cell bhi) (w : World) : Calls Try.prog 5 #[.int .i64 alo, .int .i64 ahi, .int .i64 blo, .int .i64 bhi] w fun e w' => e = .returned (.bool true) ∧ ∃ n, w' = w.drewN n := by
  go_enter Try.func5, Try.ntmps5
  go_wp2_with (first
    | (go_at_call 20; refine (add_c _ _ _ _ _).mono ?_; rintro e w' ⟨rfl, rfl⟩)
    | (go_at_call 21; refine (radd_c _ _ _ _ _).mono ?_; rintro e w' ⟨rfl, rfl⟩)
    | (go_at_call 22; refine (sub_c _ _ _ _ _).mono ?_; rintro e w' ⟨rfl, rfl⟩)
    | (go_at_call 23; refine (rsub_c _ _ _ _ _).mono ?_; rintro e w' ⟨rfl, rfl⟩)
    | (go_at_call 24; refine (less_c _ _ _ _ _).mono ?_; rintro e w' ⟨rfl, rfl⟩)
    | (go_at_call 25; refine (rless_c _ _ _ _ _).mono ?_; rintro e w' ⟨rfl, rfl⟩)
    | (go_at_call 26; refine (uless_c _ _ _ _ ha hb _).mono ?_; rintro e w' ⟨rfl, rfl⟩)
    | (go_at_call 27; refine (ruless_c _ _ _ _ ha hb _).mono ?_; rintro e w' ⟨rfl, rfl⟩)
    | (go_at_call 13; refine (awake_c _).mono ?_; rintro e w' ⟨rfl, n, rfl⟩))
  go_ret
  exact ⟨rfl, _, rfl⟩
end Go.Proofs.Ytdelhinfablhjaa
