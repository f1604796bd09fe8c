/- Contracts of the rest of bobbin/arith, triples aside. -/
import Derived.Test.YtdelhinfablhjaaD
namespace Go.Proofs.Ytdelhinfablhjaa
set_option linter.unusedVariables false
open Go.RowKit Go.Shelf

/-- Does a size with a sign fit a signed cell? -/
def cellOk (b : Bool) (n : Int) : Bool := if b then decide (n ≤ 9223372036854775808) else decide (n < 9223372036854775808)
def trip (r q t : Int) : Value := .tuple #[.int .i64 r, .int .i64 q, .int .i64 t]
def udivV (lo hi d : Int) : Value :=
  if d = 0 then trip 0 0 (-10) else if U d ≤ U hi then trip 0 0 (-11) else trip (wrap64 (UD lo hi % U d)) (wrap64 (UD lo hi / U d)) 0
/-- Towards 0. -/
def symV (lo hi d : Int) : Value :=
  if d = 0 then trip 0 0 (-10)
  else if cellOk (!(decide (hi < 0) == decide (d < 0))) (aD lo hi / aC d) then trip (sg (decide (hi < 0)) (aD lo hi % aC d)) (sg (!(decide (hi < 0) == decide (d < 0))) (aD lo hi / aC d)) 0
  else trip 0 0 (-11)
/-- Does the quotient go down by one? -/
def goes (lo hi d : Int) : Bool := decide (0 < aD lo hi % aC d) && !(decide (hi < 0) == decide (d < 0))
def flQ (lo hi d : Int) : Int := if goes lo hi d then aD lo hi / aC d + 1 else aD lo hi / aC d
def flR (lo hi d : Int) : Int := if goes lo hi d then aC d - aD lo hi % aC d else aD lo hi % aC d
/-- To the one below. -/
def floorV (lo hi d : Int) : Value :=
  if d = 0 then trip 0 0 (-10)
  else if cellOk (!(decide (hi < 0) == decide (d < 0))) (flQ lo hi d) then trip (sg (decide (d < 0)) (flR lo hi d)) (sg (!(decide (hi < 0) == decide (d < 0))) (flQ lo hi d)) 0
  else trip 0 0 (-11)

theorem cell_c (n : Int) (b : Bool) (h : Word n) (w : World) : Calls Try.prog 52 #[.int .u64 n, .bool b] w fun e w' =>
    e = .returned (.tuple #[.int .i64 (wrap64 (sg b n)), .bool (cellOk b n)]) ∧ w = w' := by
  obtain ⟨h0, h1⟩ := h
  unfold sg cellOk
  cases b
  · go_enter Try.func52, Try.ntmps52
    go_wp2
    go_ret2
    exact ⟨ret1b (by simp) (by simp), rfl⟩
  · go_enter Try.func52, Try.ntmps52
    go_wp2
    go_ret2
    exact ⟨ret1b (by simp only [IntKind.wrap_u64]; unfold wrap64; simp <;> omega) (by simp), rfl⟩

theorem add_c (alo ahi blo bhi : Int) (w : World) : Calls Try.prog 20 #[.int .i64 alo, .int .i64 ahi, .int .i64 blo, .int .i64 bhi] w fun e w' =>
    e = .returned (.tuple #[.int .i64 (dlo (D alo ahi + D blo bhi)), .int .i64 (dhi (D alo ahi + D blo bhi))]) ∧ w = w' := by
  have a := word_wrap alo
  have b := word_wrap blo
  have c := word_wrap ahi
  have d := word_wrap bhi
  have k : 0 ≤ (IntKind.u64.wrap alo + IntKind.u64.wrap blo) / 18446744073709551616 := by have := a.1; have := b.1; omega
  have k1 : (IntKind.u64.wrap alo + IntKind.u64.wrap blo) / 18446744073709551616 ≤ 1 := by have := a.2; have := b.2; omega
  go_enter Try.func20, Try.ntmps20
  go_wp2_with (first | simp only [add64_0 _ _ a.1 b.1] | simp only [add64 _ _ _ c.1 d.1 k k1])
  go_ret2
  refine ⟨ret2 ?_ ?_, rfl⟩
  · unfold dlo D wrap64
    simp only [IntKind.wrap_u64]
    omega
  · unfold dhi D wrap64
    simp only [IntKind.wrap_u64]
    omega

theorem sub_c (alo ahi blo bhi : Int) (w : World) : Calls Try.prog 22 #[.int .i64 alo, .int .i64 ahi, .int .i64 blo, .int .i64 bhi] w fun e w' =>
    e = .returned (.tuple #[.int .i64 (dlo (D alo ahi - D blo bhi)), .int .i64 (dhi (D alo ahi - D blo bhi))]) ∧ w = w' := by
  have a := word_wrap alo
  have b := word_wrap blo
  have c := word_wrap ahi
  have d := word_wrap bhi
  have k := bor_01 (IntKind.u64.wrap alo) (IntKind.u64.wrap blo)
  go_enter Try.func22, Try.ntmps22
  go_wp2_with (first | simp only [sub64_0 _ _ a.1 b.1 b.2] | simp only [sub64 _ _ _ c.1 d.1 d.2 k.1 k.2])
  go_ret2
  refine ⟨ret2 ?_ ?_, rfl⟩
  · unfold dlo D wrap64
    simp only [IntKind.wrap_u64]
    omega
  · unfold dhi D wrap64 bor
    simp only [IntKind.wrap_u64]
    split <;> omega

theorem udiv_c (lo hi d : Int) (w : World) : Calls Try.prog 14 #[.int .i64 lo, .int .i64 hi, .int .i64 d] w fun e w' =>
    e = .returned (udivV lo hi d) ∧ ∃ n, w' = w.drewN n := by
  unfold udivV
  by_cases h : d = 0
  · subst h
    go_enter Try.func14, Try.ntmps14
    go_wp2
    go_ret3
    exact ⟨rfl, 0, rfl⟩
  · have hd : (d == 0) = false := by simpa using h
    rw [if_neg h]
    by_cases h1 : U d ≤ U hi
    · rw [if_pos h1]
      unfold U at h1
      simp only [← IntKind.wrap_u64] at h1
      go_enter Try.func14, Try.ntmps14
      go_wp2
      go_ret3
      exact ⟨rfl, 0, rfl⟩
    · rw [if_neg h1]
      unfold U UD at *
      simp only [← IntKind.wrap_u64] at *
      have a := word_wrap hi
      have k := a.1
      have hlt : IntKind.u64.wrap hi < IntKind.u64.wrap d := by omega
      go_enter Try.func14, Try.ntmps14
      go_wp2_with (go_at_call 37; refine (div64 _ _ _ _ k hlt (word_wrap _) (word_wrap _)).mono ?_; rintro e w' ⟨rfl, n, rfl⟩)
      go_ret3
      exact ⟨rfl, _, rfl⟩

theorem rtrip {a b c d e f : Int} (h : a = b) (g : c = d) (i : e = f) : Ending.returned (.tuple #[.int .i64 a, .int .i64 c, .int .i64 e]) = .returned (trip b d f) := by rw [h, g, i]; rfl

theorem aD_bounds (lo : Int) {hi : Int} (h : Cell hi) : 0 ≤ aD lo hi ∧ aD lo hi ≤ 170141183460469231731687303715884105728 := by
  obtain ⟨h0, h1⟩ := h
  unfold aD D
  split <;> exact ⟨by omega, by omega⟩
theorem aC_pos {d : Int} (h : Cell d) (h0 : ¬ d = 0) : 1 ≤ aC d ∧ aC d ≤ 9223372036854775808 := by
  obtain ⟨h1, h2⟩ := h
  unfold aC
  split <;> exact ⟨by omega, by omega⟩
theorem quo_big {n d : Int} (hd : 0 < d) (h : d ≤ n / 18446744073709551616) : 18446744073709551616 ≤ n / d := by
  have := Int.mul_le_mul_of_nonneg_right (show d ≤ n / 18446744073709551616 from h) (show (0 : Int) ≤ 18446744073709551616 by decide)
  have e := Int.ediv_mul_le n (show (18446744073709551616 : Int) ≠ 0 by decide)
  exact Int.le_ediv_of_mul_le hd (by rw [Int.mul_comm]; omega)
theorem quo_small {n d : Int} (hd : 0 < d) (h : n / 18446744073709551616 < d) : n / d < 18446744073709551616 := by
  exact Int.ediv_lt_of_lt_mul hd (by omega)
theorem cellOk_big (b : Bool) {n : Int} (h : 9223372036854775808 < n) : cellOk b n = false := by
  unfold cellOk
  cases b <;> simp <;> omega
theorem wrap_sg {b : Bool} {n : Int} (h0 : 0 ≤ n) (h : cellOk b n = true) : wrap64 (sg b n) = sg b n := by
  unfold cellOk at h
  unfold sg wrap64
  cases b <;> simp at h ⊢ <;> omega
theorem wrap_sg' (b : Bool) {n : Int} (h0 : 0 ≤ n) (h : n < 9223372036854775808) : wrap64 (sg b n) = sg b n := by
  unfold sg wrap64
  cases b <;> simp <;> omega

theorem towards_c (q r d : Int) (a b : Bool) (w : World) : Calls Try.prog 40 #[.int .u64 q, .int .u64 r, .int .u64 d, .bool a, .bool b] w fun e w' =>
    e = .returned (.tuple #[.int .u64 q, .int .u64 r, .bool a]) ∧ w = w' := by
  go_enter Try.func40, Try.ntmps40
  go_wp2
  go_ret3
  exact ⟨rfl, rfl⟩
theorem below_yes (q r d : Int) (a b : Bool) (w : World) (h : (decide (0 < r) && !(a == b)) = true) (hq : 0 ≤ q) (hq1 : q ≤ 9223372036854775808) (hr : r ≤ d) (hr0 : 0 ≤ r) (hd1 : d ≤ 9223372036854775808) :
    Calls Try.prog 42 #[.int .u64 q, .int .u64 r, .int .u64 d, .bool a, .bool b] w fun e w' => e = .returned (.tuple #[.int .u64 (q + 1), .int .u64 (d - r), .bool b]) ∧ w = w' := by
  simp at h
  obtain ⟨h1, h2⟩ := h
  have h3 : (!(a == b)) = true := by simpa using h2
  have h4 : (a == b) = false := by simpa using h2
  go_enter Try.func42, Try.ntmps42
  go_wp2
  go_ret3
  exact ⟨rfl, rfl⟩
theorem below_no (q r d : Int) (a b : Bool) (w : World) (h : (decide (0 < r) && !(a == b)) = false) :
    Calls Try.prog 42 #[.int .u64 q, .int .u64 r, .int .u64 d, .bool a, .bool b] w fun e w' => e = .returned (.tuple #[.int .u64 q, .int .u64 r, .bool b]) ∧ w = w' := by
  by_cases h1 : 0 < r
  · have h4 : (a == b) = true := by simpa [h1] using h
    obtain rfl : a = b := by simpa using h4
    go_enter Try.func42, Try.ntmps42
    go_wp2
    go_ret3
    exact ⟨rfl, rfl⟩
  · go_enter Try.func42, Try.ntmps42
    go_wp2
    go_ret3
    exact ⟨rfl, rfl⟩

/-- The division of sizes, as both directions want it. -/
theorem div64_aD (lo hi d : Int) (w : World) (hh : Cell hi) (hd : Cell d) (h0 : ¬ d = 0) (h1 : aD lo hi / 18446744073709551616 < aC d) :
    Calls Try.prog 37 #[.int .u64 (aD lo hi / 18446744073709551616), .int .u64 (aD lo hi % 18446744073709551616), .int .u64 (aC d)] w fun e w' => e = .returned (.tuple #[.int .u64 (aD lo hi / aC d), .int .u64 (aD lo hi % aC d)]) ∧ ∃ n, w' = w.drewN n := by
  have b := aD_bounds lo hh
  have h := div64 (aD lo hi / 18446744073709551616) (aD lo hi % 18446744073709551616) (aC d) w (by omega) h1 (mod_word _) (aC_word hd)
  rwa [Int.ediv_mul_add_emod] at h

theorem divide_sym (lo hi d : Int) (hh : Cell hi) (hd : Cell d) (w : World) : Calls Try.prog 39 #[.int .i64 lo, .int .i64 hi, .int .i64 d, .func (.func 40) #[] #[]] w fun e w' =>
    e = .returned (symV lo hi d) ∧ ∃ n, w' = w.drewN n := by
  unfold symV
  by_cases h0 : d = 0
  · subst h0
    go_enter Try.func39, Try.ntmps39
    go_wp2
    go_ret3
    exact ⟨rfl, 0, rfl⟩
  · rw [if_neg h0]
    have k0 : (d == 0) = false := by simpa using h0
    have c := aC_pos hd h0
    have b := aD_bounds lo hh
    by_cases h1 : aC d ≤ aD lo hi / 18446744073709551616
    · have q := quo_big (by omega) h1
      rw [cellOk_big _ (show 9223372036854775808 < aD lo hi / aC d by omega)]
      go_enter Try.func39, Try.ntmps39
      go_wp2_with (first
        | (go_at_call 48; refine (size_c _ _ hh _).mono ?_; rintro e w' ⟨rfl, rfl⟩)
        | (go_at_call 46; refine (abs_c _ hd _).mono ?_; rintro e w' ⟨rfl, rfl⟩))
      go_ret3
      exact ⟨rfl, 0, rfl⟩
    · have h1' : aD lo hi / 18446744073709551616 < aC d := by omega
      have q1 := quo_small (by omega) h1'
      have q0 : 0 ≤ aD lo hi / aC d := Int.ediv_nonneg b.1 (by omega)
      have r0 := Int.emod_nonneg (aD lo hi) (show aC d ≠ 0 by omega)
      have r1 := Int.emod_lt_of_pos (aD lo hi) (show 0 < aC d by omega)
      by_cases h2 : 9223372036854775808 < aD lo hi / aC d
      · rw [cellOk_big _ h2]
        go_enter Try.func39, Try.ntmps39
        go_wp2_with (first
          | (go_at_call 48; refine (size_c _ _ hh _).mono ?_; rintro e w' ⟨rfl, rfl⟩)
          | (go_at_call 46; refine (abs_c _ hd _).mono ?_; rintro e w' ⟨rfl, rfl⟩)
          | (go_at_call 37; refine (div64_aD _ _ _ _ hh hd h0 h1').mono ?_; rintro e w' ⟨rfl, n, rfl⟩))
        go_ret3
        exact ⟨rfl, _, rfl⟩
      · have W1 : Word (aD lo hi / aC d) := ⟨q0, q1⟩
        have W2 : Word (aD lo hi % aC d) := ⟨r0, by omega⟩
        have e2 := Lib.hid (wrap_sg' (decide (hi < 0)) r0 (show aD lo hi % aC d < 9223372036854775808 by omega))
        cases hok : cellOk (!(decide (hi < 0) == decide (d < 0))) (aD lo hi / aC d)
        · go_enter Try.func39, Try.ntmps39
          go_wp2_with (first
            | (go_at_call 48; refine (size_c _ _ hh _).mono ?_; rintro e w' ⟨rfl, rfl⟩)
            | (go_at_call 46; refine (abs_c _ hd _).mono ?_; rintro e w' ⟨rfl, rfl⟩)
            | (go_at_call 37; refine (div64_aD _ _ _ _ hh hd h0 h1').mono ?_; rintro e w' ⟨rfl, n, rfl⟩)
            | (go_at_call 40; refine (towards_c _ _ _ _ _ _).mono ?_; rintro e w' ⟨rfl, rfl⟩)
            | (go_at_call 52; refine (cell_c _ _ W1 _).mono ?_; rintro e w' ⟨rfl, rfl⟩))
          go_ret3
          exact ⟨rfl, _, rfl⟩
        · have e1 := Lib.hid (wrap_sg q0 hok)
          go_enter Try.func39, Try.ntmps39
          go_wp2_with (first
            | (go_at_call 48; refine (size_c _ _ hh _).mono ?_; rintro e w' ⟨rfl, rfl⟩)
            | (go_at_call 46; refine (abs_c _ hd _).mono ?_; rintro e w' ⟨rfl, rfl⟩)
            | (go_at_call 37; refine (div64_aD _ _ _ _ hh hd h0 h1').mono ?_; rintro e w' ⟨rfl, n, rfl⟩)
            | (go_at_call 40; refine (towards_c _ _ _ _ _ _).mono ?_; rintro e w' ⟨rfl, rfl⟩)
            | (go_at_call 52; with_reducible refine (cell_c _ _ W1 _).mono ?_; rintro e w' ⟨rfl, rfl⟩)
            | (go_at_call 52; with_reducible refine (cell_c _ _ W2 _).mono ?_; rintro e w' ⟨rfl, rfl⟩))
          go_ret3
          exact ⟨rtrip e2.out e1.out rfl, _, rfl⟩
end Go.Proofs.Ytdelhinfablhjaa
