/- Contracts of bobbin/arith's divisions, scales, orders, shifts. -/
import Derived.Test.YtdelhinfablhjaaB
namespace Go.Proofs.Ytdelhinfablhjaa
set_option linter.unusedVariables false
open Go.RowKit Go.Shelf

theorem divide_floor (lo hi d : Int) (hh : Cell hi) (hd : Cell d) (w : World) : Calls Try.prog 39 #[.int .i64 lo, .int .i64 hi, .int .i64 d, .func (.func 42) #[] #[]] w fun e w' =>
    e = .returned (floorV lo hi d) ∧ ∃ n, w' = w.drewN n := by
  unfold floorV
  by_cases h0 : d = 0
  · subst h0
    go_enter Try.func39, Try.ntmps39
    go_wp2
    go_ret3
    exact ⟨rfl, 0, rfl⟩
  · rw [if_neg h0]
    have k0 : (d == 0) = false := by simpa using h0
    have c := aC_pos hd h0
    have b := aD_bounds lo hh
    have fq : aD lo hi / aC d ≤ flQ lo hi d := by unfold flQ; split <;> omega
    by_cases h1 : aC d ≤ aD lo hi / 18446744073709551616
    · have q := quo_big (by omega) h1
      rw [cellOk_big _ (show 9223372036854775808 < flQ lo hi d by omega)]
      clear fq
      go_enter Try.func39, Try.ntmps39
      go_wp2_with (first
        | (go_at_call 48; refine (size_c _ _ hh _).mono ?_; rintro e w' ⟨rfl, rfl⟩)
        | (go_at_call 46; refine (abs_c _ hd _).mono ?_; rintro e w' ⟨rfl, rfl⟩))
      go_ret3
      exact ⟨rfl, 0, rfl⟩
    · have h1' : aD lo hi / 18446744073709551616 < aC d := by omega
      have q1 := quo_small (by omega) h1'
      have q0 : 0 ≤ aD lo hi / aC d := Int.ediv_nonneg b.1 (by omega)
      have r0 := Int.emod_nonneg (aD lo hi) (show aC d ≠ 0 by omega)
      have r1 := Int.emod_lt_of_pos (aD lo hi) (show 0 < aC d by omega)
      by_cases h2 : 9223372036854775808 < aD lo hi / aC d
      · rw [cellOk_big _ (show 9223372036854775808 < flQ lo hi d by omega)]
        clear fq
        go_enter Try.func39, Try.ntmps39
        go_wp2_with (first
          | (go_at_call 48; refine (size_c _ _ hh _).mono ?_; rintro e w' ⟨rfl, rfl⟩)
          | (go_at_call 46; refine (abs_c _ hd _).mono ?_; rintro e w' ⟨rfl, rfl⟩)
          | (go_at_call 37; refine (div64_aD _ _ _ _ hh hd h0 h1').mono ?_; rintro e w' ⟨rfl, n, rfl⟩))
        go_ret3
        exact ⟨rfl, _, rfl⟩
      · clear fq
        have h2' : aD lo hi / aC d ≤ 9223372036854775808 := by omega
        have bq : 0 ≤ flQ lo hi d ∧ flQ lo hi d ≤ 9223372036854775809 := by unfold flQ; split <;> omega
        have br : 0 ≤ flR lo hi d ∧ flR lo hi d < 9223372036854775808 := by
          unfold flR
          by_cases hg : goes lo hi d = true
          · rw [if_pos hg]
            unfold goes at hg
            simp at hg
            omega
          · rw [if_neg hg]
            omega
        have W1 : Word (flQ lo hi d) := ⟨bq.1, by omega⟩
        have W2 : Word (flR lo hi d) := ⟨br.1, by omega⟩
        have e2 := Lib.hid (wrap_sg' (decide (d < 0)) br.1 br.2)
        have C42 : ∀ W : World, Calls Try.prog 42 #[.int .u64 (aD lo hi / aC d), .int .u64 (aD lo hi % aC d), .int .u64 (aC d), .bool (decide (hi < 0)), .bool (decide (d < 0))] W fun e w' => e = .returned (.tuple #[.int .u64 (flQ lo hi d), .int .u64 (flR lo hi d), .bool (decide (d < 0))]) ∧ W = w' := by
          intro W
          unfold flQ flR goes
          by_cases hg : (decide (0 < aD lo hi % aC d) && !(decide (hi < 0) == decide (d < 0))) = true
          · rw [if_pos hg, if_pos hg]
            exact below_yes _ _ _ _ _ W hg q0 h2' (by omega) r0 c.2
          · rw [if_neg hg, if_neg hg]
            exact below_no _ _ _ _ _ W (by simpa using hg)
        have H42 := Lib.hid C42
        clear C42 bq br
        cases hok : cellOk (!(decide (hi < 0) == decide (d < 0))) (flQ lo hi d)
        · go_enter Try.func39, Try.ntmps39
          go_wp2_with (first
            | (go_at_call 48; refine (size_c _ _ hh _).mono ?_; rintro e w' ⟨rfl, rfl⟩)
            | (go_at_call 46; refine (abs_c _ hd _).mono ?_; rintro e w' ⟨rfl, rfl⟩)
            | (go_at_call 37; refine (div64_aD _ _ _ _ hh hd h0 h1').mono ?_; rintro e w' ⟨rfl, n, rfl⟩)
            | (go_at_call 42; refine (H42.out _).mono ?_; rintro e w' ⟨rfl, rfl⟩)
            | (go_at_call 52; refine (cell_c _ _ W1 _).mono ?_; rintro e w' ⟨rfl, rfl⟩))
          go_ret3
          exact ⟨rfl, _, rfl⟩
        · have e1 := Lib.hid (wrap_sg W1.1 hok)
          go_enter Try.func39, Try.ntmps39
          go_wp2_with (first
            | (go_at_call 48; refine (size_c _ _ hh _).mono ?_; rintro e w' ⟨rfl, rfl⟩)
            | (go_at_call 46; refine (abs_c _ hd _).mono ?_; rintro e w' ⟨rfl, rfl⟩)
            | (go_at_call 37; refine (div64_aD _ _ _ _ hh hd h0 h1').mono ?_; rintro e w' ⟨rfl, n, rfl⟩)
            | (go_at_call 42; refine (H42.out _).mono ?_; rintro e w' ⟨rfl, rfl⟩)
            | (go_at_call 52; with_reducible refine (cell_c _ _ W1 _).mono ?_; rintro e w' ⟨rfl, rfl⟩)
            | (go_at_call 52; with_reducible refine (cell_c _ _ W2 _).mono ?_; rintro e w' ⟨rfl, rfl⟩))
          go_ret3
          exact ⟨rtrip e2.out e1.out rfl, _, rfl⟩

/-- The three results, as numbers: so that a caller's walk sees them. -/
def n1 : Value → Int | .tuple #[.int _ a, _, _] => a | _ => 0
def n2 : Value → Int | .tuple #[_, .int _ a, _] => a | _ => 0
def n3 : Value → Int | .tuple #[_, _, .int _ a] => a | _ => 0
def T3 (v : Value) : Value := .tuple #[.int .i64 (n1 v), .int .i64 (n2 v), .int .i64 (n3 v)]
theorem T3_trip (a b c : Int) : T3 (trip a b c) = trip a b c := rfl
theorem T3_sym (lo hi d : Int) : T3 (symV lo hi d) = symV lo hi d := by unfold symV; (repeat' split) <;> rfl
theorem T3_floor (lo hi d : Int) : T3 (floorV lo hi d) = floorV lo hi d := by unfold floorV; (repeat' split) <;> rfl
theorem T3_udiv (lo hi d : Int) : T3 (udivV lo hi d) = udivV lo hi d := by unfold udivV; (repeat' split) <;> rfl

theorem sym_c (lo hi d : Int) (hh : Cell hi) (hd : Cell d) (w : World) : Calls Try.prog 16 #[.int .i64 lo, .int .i64 hi, .int .i64 d] w fun e w' =>
    e = .returned (.tuple #[.int .i64 (n1 (symV lo hi d)), .int .i64 (n2 (symV lo hi d)), .int .i64 (n3 (symV lo hi d))]) ∧ ∃ n, w' = w.drewN n := by
  have C : ∀ W : World, Calls Try.prog 39 #[.int .i64 lo, .int .i64 hi, .int .i64 d, .func (.func 40) #[] #[]] W fun e w' =>
    e = .returned (.tuple #[.int .i64 (n1 (symV lo hi d)), .int .i64 (n2 (symV lo hi d)), .int .i64 (n3 (symV lo hi d))]) ∧ ∃ n, w' = W.drewN n := by
    intro W
    refine (divide_sym lo hi d hh hd W).mono ?_
    rintro e w' ⟨rfl, h⟩
    exact ⟨by rw [← T3_sym]; rfl, h⟩
  have H := Lib.hid C
  clear C
  go_enter Try.func16, Try.ntmps16
  go_wp2_with (go_at_call 39; refine (H.out _).mono ?_; rintro e w' ⟨rfl, n, rfl⟩)
  go_ret3
  exact ⟨rfl, _, rfl⟩
theorem floor_c (lo hi d : Int) (hh : Cell hi) (hd : Cell d) (w : World) : Calls Try.prog 18 #[.int .i64 lo, .int .i64 hi, .int .i64 d] w fun e w' =>
    e = .returned (.tuple #[.int .i64 (n1 (floorV lo hi d)), .int .i64 (n2 (floorV lo hi d)), .int .i64 (n3 (floorV lo hi d))]) ∧ ∃ n, w' = w.drewN n := by
  have C : ∀ W : World, Calls Try.prog 39 #[.int .i64 lo, .int .i64 hi, .int .i64 d, .func (.func 42) #[] #[]] W fun e w' =>
    e = .returned (.tuple #[.int .i64 (n1 (floorV lo hi d)), .int .i64 (n2 (floorV lo hi d)), .int .i64 (n3 (floorV lo hi d))]) ∧ ∃ n, w' = W.drewN n := by
    intro W
    refine (divide_floor lo hi d hh hd W).mono ?_
    rintro e w' ⟨rfl, h⟩
    exact ⟨by rw [← T3_floor]; rfl, h⟩
  have H := Lib.hid C
  clear C
  go_enter Try.func18, Try.ntmps18
  go_wp2_with (go_at_call 39; refine (H.out _).mono ?_; rintro e w' ⟨rfl, n, rfl⟩)
  go_ret3
  exact ⟨rfl, _, rfl⟩
theorem udiv_c3 (lo hi d : Int) (w : World) : Calls Try.prog 14 #[.int .i64 lo, .int .i64 hi, .int .i64 d] w fun e w' =>
    e = .returned (.tuple #[.int .i64 (n1 (udivV lo hi d)), .int .i64 (n2 (udivV lo hi d)), .int .i64 (n3 (udivV lo hi d))]) ∧ ∃ n, w' = w.drewN n := by
  refine (udiv_c lo hi d w).mono ?_
  rintro e w' ⟨rfl, h⟩
  exact ⟨by rw [← T3_udiv]; rfl, h⟩
theorem cell_dhi (v : Int) : Cell (dhi v) := by unfold dhi wrap64; exact ⟨by omega, by omega⟩
theorem cell_dlo (v : Int) : Cell (dlo v) := by unfold dlo wrap64; exact ⟨by omega, by omega⟩
theorem scale_c (a b d : Int) (ha : Cell a) (hb : Cell b) (hd : Cell d) (w : World) : Calls Try.prog 32 #[.int .i64 a, .int .i64 b, .int .i64 d] w fun e w' =>
    e = .returned (.tuple #[.int .i64 (n1 (floorV (dlo (a * b)) (dhi (a * b)) d)), .int .i64 (n2 (floorV (dlo (a * b)) (dhi (a * b)) d)), .int .i64 (n3 (floorV (dlo (a * b)) (dhi (a * b)) d))]) ∧ ∃ n, w' = w.drewN n := by
  go_enter Try.func32, Try.ntmps32
  go_wp2_with (first
    | (go_at_call 30; refine (mul_c _ _ ha hb _).mono ?_; rintro e w' ⟨rfl, rfl⟩)
    | (go_at_call 18; refine (floor_c _ _ _ (cell_dhi _) hd _).mono ?_; rintro e w' ⟨rfl, n, rfl⟩))
  go_ret3
  exact ⟨rfl, _, rfl⟩
/-- The order of doubles. -/
def lessB (alo ahi blo bhi : Int) : Bool := decide (D alo ahi < D blo bhi)
def ulessB (alo ahi blo bhi : Int) : Bool := decide (UD alo ahi < UD blo bhi)
theorem less_c (alo ahi blo bhi : Int) (w : World) : Calls Try.prog 24 #[.int .i64 alo, .int .i64 ahi, .int .i64 blo, .int .i64 bhi] w fun e w' => e = .returned (.bool (lessB alo ahi blo bhi)) ∧ w = w' := by
  unfold lessB D
  by_cases h1 : ahi < bhi
  · go_enter Try.func24, Try.ntmps24
    go_wp2
    go_ret
    exact ⟨retb (by simp; omega), rfl⟩
  · by_cases h2 : ahi = bhi
    · subst h2
      go_enter Try.func24, Try.ntmps24
      go_wp2
      go_ret
      exact ⟨retb (by simp [IntKind.wrap_u64]), rfl⟩
    · have h3 : (ahi == bhi) = false := by simpa using h2
      go_enter Try.func24, Try.ntmps24
      go_wp2
      go_ret
      exact ⟨retb (by simp; omega), rfl⟩
theorem uless_c (alo ahi blo bhi : Int) (ha : Cell ahi) (hb : Cell bhi) (w : World) : Calls Try.prog 26 #[.int .i64 alo, .int .i64 ahi, .int .i64 blo, .int .i64 bhi] w fun e w' => e = .returned (.bool (ulessB alo ahi blo bhi)) ∧ w = w' := by
  unfold ulessB UD
  obtain ⟨a1, a2⟩ := ha
  obtain ⟨b1, b2⟩ := hb
  by_cases h1 : IntKind.u64.wrap ahi < IntKind.u64.wrap bhi
  · have h1' := h1
    simp only [IntKind.wrap_u64] at h1'
    have H := Lib.hid h1'
    clear h1'
    go_enter Try.func26, Try.ntmps26
    go_wp2
    go_ret
    exact ⟨retb (by have := H.out; simp; omega), rfl⟩
  · by_cases h2 : ahi = bhi
    · subst h2
      go_enter Try.func26, Try.ntmps26
      go_wp2
      go_ret
      exact ⟨retb (by simp [IntKind.wrap_u64]), rfl⟩
    · have h3 : (ahi == bhi) = false := by simpa using h2
      have h1' := h1
      simp only [IntKind.wrap_u64] at h1'
      have H := Lib.hid h1'
      have H2 := Lib.hid h2
      clear h1' h2
      go_enter Try.func26, Try.ntmps26
      go_wp2
      go_ret
      exact ⟨retb (by have := H.out; have := H2.out; simp; omega), rfl⟩
def sh1 (a n : Int) (left : Bool) : Int := if n < 0 ∨ 63 < n then 0 else if left then wrap64 (a * 2 ^ n.toNat) else wrap64 (U a / 2 ^ n.toNat)
def sh2 (n : Int) : Int := if n < 0 ∨ 63 < n then -24 else 0
theorem wrap_mul (a p : Int) : wrap64 (IntKind.u64.wrap (IntKind.u64.wrap a * p)) = wrap64 (a * p) := by
  have e : a * p = 18446744073709551616 * (a / 18446744073709551616 * p) + a % 18446744073709551616 * p := by
    rw [← Int.mul_assoc, ← Int.add_mul, Int.mul_ediv_add_emod]
  simp only [IntKind.wrap_u64]
  unfold wrap64
  omega
theorem shift_c (a n : Int) (l : Bool) (w : World) : Calls Try.prog 11 #[.int .i64 a, .int .i64 n, .bool l] w fun e w' => e = .returned (.tuple #[.int .i64 (sh1 a n l), .int .i64 (sh2 n)]) ∧ w = w' := by
  unfold sh1 sh2
  by_cases h0 : n < 0
  · rw [if_pos (.inl h0), if_pos (.inl h0)]
    go_enter Try.func11, Try.ntmps11
    go_wp2
    go_ret2
    exact ⟨rfl, rfl⟩
  · by_cases h1 : 63 < n
    · rw [if_pos (.inr h1), if_pos (.inr h1)]
      go_enter Try.func11, Try.ntmps11
      go_wp2
      go_ret2
      exact ⟨rfl, rfl⟩
    · have hc : ¬ (n < 0 ∨ 63 < n) := by omega
      rw [if_neg hc, if_neg hc]
      clear hc
      cases l
      · go_enter Try.func11, Try.ntmps11
        go_wp2
        go_ret2
        exact ⟨ret2 (by simp [U, IntKind.wrap_u64]) rfl, rfl⟩
      · go_enter Try.func11, Try.ntmps11
        go_wp2
        go_ret2
        exact ⟨ret2 (by simp [wrap_mul]) rfl, rfl⟩
theorem rshift_c (a n : Int) (l : Bool) (w : World) : Calls Try.prog 12 #[.int .i64 a, .int .i64 n, .bool l] w fun e w' => e = .returned (.tuple #[.int .i64 (sh1 a n l), .int .i64 (sh2 n)]) ∧ w = w' := by
  unfold sh1 sh2
  by_cases h0 : n < 0
  · rw [if_pos (.inl h0), if_pos (.inl h0)]
    go_enter Try.func12, Try.ntmps12
    go_wp2
    go_ret2
    exact ⟨rfl, rfl⟩
  · by_cases h1 : 63 < n
    · rw [if_pos (.inr h1), if_pos (.inr h1)]
      go_enter Try.func12, Try.ntmps12
      go_wp2
      go_ret2
      exact ⟨rfl, rfl⟩
    · have hc : ¬ (n < 0 ∨ 63 < n) := by omega
      rw [if_neg hc, if_neg hc]
      clear hc
      cases l
      · go_enter Try.func12, Try.ntmps12
        go_wp2
        go_ret2
        exact ⟨ret2 (by simp [U, IntKind.wrap_u64]) rfl, rfl⟩
      · go_enter Try.func12, Try.ntmps12
        go_wp2
        go_ret2
        exact ⟨ret2 (by simp) rfl, rfl⟩
theorem awake_c (w : World) : Calls Try.prog 13 #[] w fun e w' => e = .returned (.bool true) ∧ ∃ n, w' = w.drewN n := by
  have e1 : n1 (floorV (-7) (-1) 2) = 1 := by decide
  have e2 : n2 (floorV (-7) (-1) 2) = -4 := by decide
  have e3 : n3 (floorV (-7) (-1) 2) = 0 := by decide
  have C := floor_c (-7) (-1) 2 ⟨by decide, by decide⟩ ⟨by decide, by decide⟩
  simp only [e1, e2, e3] at C
  have H := Lib.hid C
  clear C e1 e2 e3
  go_enter Try.func13, Try.ntmps13
  go_wp2_with (go_at_call 18; refine (H.out _).mono ?_; rintro e w' ⟨rfl, n, rfl⟩)
  go_ret
  exact ⟨rfl, _, rfl⟩
theorem grown_drewN (w : World) (n : Nat) : Grown w (w.drewN n) := by
  induction n with
  | zero => exact Grown.refl _
  | succ n ih => rw [← World.drew_drewN]; exact Grown.drew ih
theorem cell_wf {x : Int} (h : (Lit.int .i64 x).wf = true) : Cell x := by
  simp [Lit.wf, IntKind.min, IntKind.max, IntKind.signed, IntKind.bits] at h
  exact ⟨by omega, by omega⟩
theorem law_end {P : Program} {f : FuncId} {args : Array Value} {w : World} (h : Calls P f args w fun e w' => e = .returned (.bool true) ∧ ∃ n, w' = w.drewN n) :
    Calls P f args w fun e w' => e = .returned (.bool true) ∧ Grown w w' :=
  h.mono fun _ _ ⟨he, n, hw⟩ => ⟨he, by rw [hw]; exact grown_drewN w n⟩
theorem shifts_walk (a n : Int) (l : Bool) (w : World) : Calls Try.prog 3 #[.int .i64 a, .int .i64 n, .bool l] w fun e w' => e = .returned (.bool true) ∧ ∃ n, w' = w.drewN n := by
  go_enter Try.func3, Try.ntmps3
  go_wp2_with (first
    | (go_at_call 11; refine (shift_c _ _ _ _).mono ?_; rintro e w' ⟨rfl, rfl⟩)
    | (go_at_call 12; refine (rshift_c _ _ _ _).mono ?_; rintro e w' ⟨rfl, rfl⟩)
    | (go_at_call 13; refine (awake_c _).mono ?_; rintro e w' ⟨rfl, n, rfl⟩))
  go_ret
  exact ⟨rfl, _, rfl⟩
end Go.Proofs.Ytdelhinfablhjaa
