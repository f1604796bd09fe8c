/- isChar. -/
import Derived.Test.YthigimmlhgdchaaD
import Derived.BigRegion
namespace Go.Proofs.Ythigimmlhgdchaa
set_option linter.unusedVariables false
set_option linter.unusedSimpArgs false
open Go.RowKit

/-- Is a number a character? -/
def isC (u : Int) : Bool := decide (0 ≤ u ∧ u ≤ 1114111 ∧ ¬ (55296 ≤ u ∧ u ≤ 57343))
theorem isC_yes {u : Int} (h : 0 ≤ u ∧ u ≤ 1114111 ∧ ¬ (55296 ≤ u ∧ u ≤ 57343)) : isC u = true := decide_eq_true h
theorem isC_no {u : Int} (h : ¬ (0 ≤ u ∧ u ≤ 1114111 ∧ ¬ (55296 ≤ u ∧ u ≤ 57343))) : isC u = false := decide_eq_false h
theorem valid_c (u : Int) (w : World) (h0 : 0 ≤ u) (h1 : u ≤ 1114111) : Calls Try.prog 35 #[.int .i32 u] w fun e w' => e = .returned (.bool (isC u)) ∧ w = w' := by
  by_cases h2 : u < 55296
  · have hv := Lib.hid (isC_yes (u := u) ⟨h0, h1, by omega⟩)
    go_enter Try.func35, Try.ntmps35
    go_wp2_with fail
    go_ret
    exact ⟨by rw [hv.out]; rfl, rfl⟩
  · by_cases h3 : 57343 < u
    · have hv := Lib.hid (isC_yes (u := u) ⟨h0, h1, by omega⟩)
      go_enter Try.func35, Try.ntmps35
      go_wp2_with fail
      go_ret
      exact ⟨by rw [hv.out]; rfl, rfl⟩
    · have hv := Lib.hid (isC_no (u := u) (by omega))
      go_enter Try.func35, Try.ntmps35
      go_wp2_with fail
      go_ret
      exact ⟨by rw [hv.out]; rfl, rfl⟩
theorem rlen_c (u : Int) (w : World) (h0 : 0 ≤ u) (h1 : u ≤ 1114111) (h2 : ¬ (55296 ≤ u ∧ u ≤ 57343)) : Calls Try.prog 34 #[.int .i32 u] w fun e w' => ∃ n : Int, 0 < n ∧ e = .returned (.int .i64 n) ∧ w = w' := by
  by_cases a : u ≤ 127
  · go_enter Try.func34, Try.ntmps34
    go_wp2_with fail
    go_ret
    exact ⟨1, by decide, rfl, rfl⟩
  · by_cases b : u ≤ 2047
    · go_enter Try.func34, Try.ntmps34
      go_wp2_with fail
      go_ret
      exact ⟨2, by decide, rfl, rfl⟩
    · by_cases c : u ≤ 65535
      · have d : u < 55296 ∨ 57343 < u := by omega
        rcases d with d | d
        · have d1 : ¬ 55296 ≤ u := by omega
          clear h2
          go_enter Try.func34, Try.ntmps34
          go_wp2_with fail
          go_ret
          exact ⟨3, by decide, rfl, rfl⟩
        · have d1 : 55296 ≤ u := by omega
          clear h2
          go_enter Try.func34, Try.ntmps34
          go_wp2_with fail
          go_ret
          exact ⟨3, by decide, rfl, rfl⟩
      · have d1 : 55296 ≤ u := by omega
        have d2 : ¬ u ≤ 57343 := by omega
        clear h2
        go_enter Try.func34, Try.ntmps34
        go_wp2_with fail
        go_ret
        exact ⟨4, by decide, rfl, rfl⟩
theorem xis_c (u : Int) (w : World) : Calls Try.prog 33 #[.int .i64 u] w fun e w' => e = .returned (.bool (isC u)) ∧ w = w' := by
  by_cases h0 : 0 ≤ u
  · by_cases h1 : u ≤ 1114111
    · have i : IntKind.i32.wrap u = u := by simp only [IntKind.wrap_i32]; omega
      have V := Lib.hid (fun w => valid_c u w h0 h1)
      go_enter Try.func33, Try.ntmps33
      go_wp2_with (go_at_call 35; (with_reducible refine (V.out _).mono ?_); rintro e w' ⟨rfl, rfl⟩)
      go_ret
      exact ⟨rfl, rfl⟩
    · have hv := Lib.hid (isC_no (u := u) (by omega))
      go_enter Try.func33, Try.ntmps33
      go_wp2_with fail
      go_ret
      exact ⟨by rw [hv.out]; rfl, rfl⟩
  · have hv := Lib.hid (isC_no (u := u) (by omega))
    go_enter Try.func33, Try.ntmps33
    go_wp2_with fail
    go_ret
    exact ⟨by rw [hv.out]; rfl, rfl⟩
theorem width_c (u : Int) (w : World) : Calls Try.prog 28 #[.int .i64 u] w fun e w' => ∃ n : Int, decide (0 < n) = isC u ∧ e = .returned (.int .i64 n) ∧ w = w' := by
  have X := Lib.hid (fun w => xis_c u w)
  cases hc : isC u
  · rw [hc] at X
    go_enter Try.func28, Try.ntmps28
    go_wp2_with (go_at_call 33; (with_reducible refine (X.out _).mono ?_); rintro e w' ⟨rfl, rfl⟩)
    go_ret
    exact ⟨0, rfl, rfl, rfl⟩
  · have hu := of_decide_eq_true hc
    have i : IntKind.i32.wrap u = u := by simp only [IntKind.wrap_i32]; omega
    have R := Lib.hid (fun w => rlen_c u w hu.1 hu.2.1 hu.2.2)
    rw [hc] at X
    clear hc hu
    go_enter Try.func28, Try.ntmps28
    go_wp2_with (first
      | (go_at_call 33; (with_reducible refine (X.out _).mono ?_); rintro e w' ⟨rfl, rfl⟩)
      | (go_at_call 34; (with_reducible refine (R.out _).mono ?_); rintro e w' ⟨n, n0, rfl, rfl⟩))
    go_ret
    exact ⟨_, decide_eq_true n0, rfl, rfl⟩
theorem is_c (u : Int) (w : World) : Calls Try.prog 19 #[.int .i64 u] w fun e w' => e = .returned (.bool (isC u)) ∧ w = w' := by
  have X := Lib.hid (fun w => width_c u w)
  go_enter Try.func19, Try.ntmps19
  go_wp2_with (go_at_call 28; (with_reducible refine (X.out _).mono ?_); rintro e w' ⟨n, hn, rfl, rfl⟩)
  go_ret
  exact ⟨by rw [← hn]; rfl, rfl⟩
end Go.Proofs.Ythigimmlhgdchaa
