/- Dates: the program's and the reference's walks. -/
import Derived.Test.YthigimmlhgdchaaK
import Derived.Test.YthigimmlhgdchaaP
import Derived.BigQuiet
import Derived.WalkLawsBesides
namespace Go.Proofs.Ythigimmlhgdchaa
set_option linter.unusedVariables false
set_option linter.unusedSimpArgs false
open Go.RowKit

theorem leap_c (y : Int) (h0 : 0 ≤ y) (h1 : y ≤ 1000000) (w : World) : Calls Try.prog 31 #[.int .i64 y] w fun e w' => e = .returned (.bool (leapV y)) ∧ w = w' := by
  have t1 : y.tmod 4 = y % 4 := Int.tmod_eq_emod_of_nonneg h0
  have t2 : y.tmod 100 = y % 100 := Int.tmod_eq_emod_of_nonneg h0
  have t3 : y.tmod 400 = y % 400 := Int.tmod_eq_emod_of_nonneg h0
  by_cases a : y % 4 = 0
  · have A := Lib.hid a
    have a' : (y % 4 == 0) = true := beq_of a
    clear a
    by_cases b : y % 100 = 0
    · have B := Lib.hid b
      have b' : (y % 100 != 0) = false := bne_of b
      clear b
      by_cases c : y % 400 = 0
      · have E := Lib.hid (show leapV y = true by unfold leapV; rw [decide_eq_true A.out, decide_eq_true c, Bool.or_true]; rfl)
        have c' : (y % 400 == 0) = true := beq_of c
        clear c
        go_enter Try.func31, Try.ntmps31
        go_wp2
        go_ret
        exact ⟨retb E.out.symm, rfl⟩
      · have E := Lib.hid (show leapV y = false by unfold leapV; rw [decide_eq_false c, decide_eq_false (show ¬ (y % 100 ≠ 0) from fun h => h B.out)]; simp)
        have c' : (y % 400 == 0) = false := beq_no c
        clear c
        go_enter Try.func31, Try.ntmps31
        go_wp2
        go_ret
        exact ⟨retb E.out.symm, rfl⟩
    · have E := Lib.hid (show leapV y = true by unfold leapV; rw [decide_eq_true A.out, decide_eq_true (show y % 100 ≠ 0 from b)]; rfl)
      have b' : (y % 100 != 0) = true := bne_no b
      clear b
      go_enter Try.func31, Try.ntmps31
      go_wp2
      go_ret
      exact ⟨retb E.out.symm, rfl⟩
  · have E := Lib.hid (show leapV y = false by unfold leapV; rw [decide_eq_false a]; rfl)
    have a' : (y % 4 == 0) = false := beq_no a
    clear a
    go_enter Try.func31, Try.ntmps31
    go_wp2
    go_ret
    exact ⟨retb E.out.symm, rfl⟩
theorem days_c (y m : Int) (h0 : 0 ≤ y) (h1 : y ≤ 1000000) (m0 : 0 ≤ m) (m1 : m ≤ 11) (w : World) : Calls Try.prog 22 #[.int .i64 y, .int .i64 m] w fun e w' => e = .returned (.int .i64 (daysV y m)) ∧ w = w' := by
  have L := Lib.hid (leap_c y h0 h1)
  have hm : m = 0 ∨ m = 1 ∨ m = 2 ∨ m = 3 ∨ m = 4 ∨ m = 5 ∨ m = 6 ∨ m = 7 ∨ m = 8 ∨ m = 9 ∨ m = 10 ∨ m = 11 := by omega
  cases hl : leapV y
  · rw [hl] at L
    have e1 : daysV y 1 = 28 := by unfold daysV; rw [if_pos rfl, hl]; rfl
    have HL := Lib.hid e1
    clear hl e1
    rcases hm with rfl | rfl | rfl | rfl | rfl | rfl | rfl | rfl | rfl | rfl | rfl | rfl
    all_goals
      go_enter Try.func22, Try.ntmps22
      go_wp2_with (go_at_call 31; (with_reducible refine (L.out _).mono ?_); rintro e w' ⟨rfl, rfl⟩)
      go_ret
      first
        | exact ⟨ret1 HL.out.symm, rfl⟩
        | exact ⟨ret1 rfl, rfl⟩
  · rw [hl] at L
    have e1 : daysV y 1 = 29 := by unfold daysV; rw [if_pos rfl, hl]; rfl
    have HL := Lib.hid e1
    clear hl e1
    rcases hm with rfl | rfl | rfl | rfl | rfl | rfl | rfl | rfl | rfl | rfl | rfl | rfl
    all_goals
      go_enter Try.func22, Try.ntmps22
      go_wp2_with (go_at_call 31; (with_reducible refine (L.out _).mono ?_); rintro e w' ⟨rfl, rfl⟩)
      go_ret
      first
        | exact ⟨ret1 HL.out.symm, rfl⟩
        | exact ⟨ret1 rfl, rfl⟩
theorem rdays_c (y m : Int) (h0 : 0 ≤ y) (h1 : y ≤ 1000000) (m0 : 0 ≤ m) (m1 : m ≤ 11) (w : World) : Calls Try.prog 32 #[.int .i64 (m + 1), .int .i64 y] w fun e w' => e = .returned (.int .i64 (daysV y m)) ∧ w = w' := by
  have t1 : y.tmod 4 = y % 4 := Int.tmod_eq_emod_of_nonneg h0
  have t2 : y.tmod 100 = y % 100 := Int.tmod_eq_emod_of_nonneg h0
  have t3 : y.tmod 400 = y % 400 := Int.tmod_eq_emod_of_nonneg h0
  have hm : m = 1 ∨ (m = 0 ∨ m = 2 ∨ m = 3 ∨ m = 4 ∨ m = 5 ∨ m = 6 ∨ m = 7 ∨ m = 8 ∨ m = 9 ∨ m = 10 ∨ m = 11) := by omega
  rcases hm with rfl | hm
  · have l29 : leapV y = true → daysV y 1 = 29 := fun hl => by unfold daysV; rw [if_pos rfl, hl]; rfl
    have l28 : leapV y = false → daysV y 1 = 28 := fun hl => by unfold daysV; rw [if_pos rfl, hl]; rfl
    have H29 := Lib.hid l29
    have H28 := Lib.hid l28
    clear l29 l28
    by_cases a : y % 4 = 0
    · have A := Lib.hid a
      have a' : (y % 4 == 0) = true := beq_of a
      clear a
      by_cases b : y % 100 = 0
      · have B := Lib.hid b
        have b' : (y % 100 != 0) = false := bne_of b
        clear b
        by_cases c : y % 400 = 0
        · have E := Lib.hid (H29.out (by unfold leapV; rw [decide_eq_true A.out, decide_eq_true c, Bool.or_true]; rfl))
          have c' : (y % 400 == 0) = true := beq_of c
          clear c H28 H29
          go_enter Try.func32, Try.ntmps32
          go_wp2
          go_ret
          exact ⟨ret1 E.out.symm, rfl⟩
        · have E := Lib.hid (H28.out (by unfold leapV; rw [decide_eq_false c, decide_eq_false (show ¬ (y % 100 ≠ 0) from fun h => h B.out)]; simp))
          have c' : (y % 400 == 0) = false := beq_no c
          clear c H28 H29
          go_enter Try.func32, Try.ntmps32
          go_wp2
          go_ret
          exact ⟨ret1 E.out.symm, rfl⟩
      · have E := Lib.hid (H29.out (by unfold leapV; rw [decide_eq_true A.out, decide_eq_true (show y % 100 ≠ 0 from b)]; rfl))
        have b' : (y % 100 != 0) = true := bne_no b
        clear b H28 H29
        go_enter Try.func32, Try.ntmps32
        go_wp2
        go_ret
        exact ⟨ret1 E.out.symm, rfl⟩
    · have E := Lib.hid (H28.out (by unfold leapV; rw [decide_eq_false a]; rfl))
      have a' : (y % 4 == 0) = false := beq_no a
      clear a H28 H29
      go_enter Try.func32, Try.ntmps32
      go_wp2
      go_ret
      exact ⟨ret1 E.out.symm, rfl⟩
  · clear t1 t2 t3
    rcases hm with rfl | rfl | rfl | rfl | rfl | rfl | rfl | rfl | rfl | rfl | rfl
    all_goals
      go_enter Try.func32, Try.ntmps32
      go_wp2
      go_ret
      exact ⟨ret1 rfl, rfl⟩
end Go.Proofs.Ythigimmlhgdchaa
