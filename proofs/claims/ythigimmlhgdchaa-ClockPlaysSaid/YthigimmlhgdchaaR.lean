/- The heap's order: Less. -/
import Derived.Test.YthigimmlhgdchaaI
import Derived.Test.YthigimmlhgdchaaQ
import Derived.StillTailTactics
namespace Go.Proofs.Ythigimmlhgdchaa
set_option linter.unusedVariables false
set_option linter.unusedSimpArgs false
open Go.RowKit

/-- -1, 0, 1. -/
def sgn3 (x y : Int) : Int := if x < y then -1 else if y < x then 1 else 0
theorem nan_c (x : Int) (w : World) : Calls Try.prog 57 #[.int .i64 x] w fun e w' => e = .returned (.bool false) ∧ w = w' := by
  go_enter Try.func57, Try.ntmps57
  go_wp2_with fail
  go_ret
  exact ⟨by simp, rfl⟩
theorem cmpi_c (x y : Int) (w : World) : Calls Try.prog 56 #[.int .i64 x, .int .i64 y] w fun e w' => e = .returned (.int .i64 (sgn3 x y)) ∧ w = w' := by
  have N := Lib.hid (fun x w => nan_c x w)
  rcases Int.lt_trichotomy x y with h | h | h
  · have e : sgn3 x y = -1 := by unfold sgn3; rw [if_pos h]
    rw [e]
    go_enter Try.func56, Try.ntmps56
    go_wp2_with (go_at_call 57; (with_reducible refine (N.out _ _).mono ?_); rintro e w' ⟨rfl, rfl⟩)
    go_ret
    exact ⟨rfl, rfl⟩
  · subst h
    have e : sgn3 x x = 0 := by unfold sgn3; simp
    rw [e]
    go_enter Try.func56, Try.ntmps56
    go_wp2_with (go_at_call 57; (with_reducible refine (N.out _ _).mono ?_); rintro e w' ⟨rfl, rfl⟩)
    go_ret
    exact ⟨rfl, rfl⟩
  · have h2 : ¬ x < y := by omega
    have e : sgn3 x y = 1 := by unfold sgn3; rw [if_neg h2, if_pos h]
    rw [e]
    go_enter Try.func56, Try.ntmps56
    go_wp2_with (go_at_call 57; (with_reducible refine (N.out _ _).mono ?_); rintro e w' ⟨rfl, rfl⟩)
    go_ret
    exact ⟨rfl, rfl⟩
theorem or_c (g : Nat) (x y : Int) (w : World) (h0 : w.cell? ⟨g, 0, none⟩ = some (.int .i64 x)) (h1 : w.cell? ⟨g, 1, none⟩ = some (.int .i64 y)) : Calls Try.prog 55 #[.slice (some ⟨g, 0, none⟩) 2 2] w fun e w' => e = .returned (.int .i64 (if x = 0 then y else x)) ∧ w = w' := by
  by_cases hx : x = 0
  · subst hx
    rw [if_pos rfl]
    by_cases hy : y = 0
    · subst hy
      go_enter Try.func55, Try.ntmps55
      go_wp2_with fail
      go_loop [8] (fun v8 => ∃ i : Nat, i ≤ 2 ∧ v8 = .int .i64 i) (fun v8 => 2 - (intOf v8).toNat)
      case atStart => exact ⟨0, by decide, rfl⟩
      case round =>
        obtain ⟨i, hi, rfl⟩ := hrel
        have hc : i = 0 ∨ i = 1 ∨ i = 2 := by omega
        rcases hc with rfl | rfl | rfl
        · go_wp2_with fail
          go_round
          case rel => exact ⟨1, by decide, rfl⟩
          case measure => simp [intOf]
        · go_wp2_with fail
          go_round
          case rel => exact ⟨2, by decide, rfl⟩
          case measure => simp [intOf]
        · go_wp2_with fail
          go_ret
          exact ⟨rfl, rfl⟩
    · go_enter Try.func55, Try.ntmps55
      go_wp2_with fail
      go_loop [8] (fun v8 => ∃ i : Nat, i ≤ 1 ∧ v8 = .int .i64 i) (fun v8 => 2 - (intOf v8).toNat)
      case atStart => exact ⟨0, by decide, rfl⟩
      case round =>
        obtain ⟨i, hi, rfl⟩ := hrel
        have hc : i = 0 ∨ i = 1 := by omega
        rcases hc with rfl | rfl
        · go_wp2_with fail
          go_round
          case rel => exact ⟨1, by decide, rfl⟩
          case measure => simp [intOf]
        · go_wp2_with fail
          go_ret
          exact ⟨rfl, rfl⟩
  · rw [if_neg hx]
    go_enter Try.func55, Try.ntmps55
    go_wp2_with fail
    go_loop [8] (fun v8 => v8 = .int .i64 0) (fun _ => 0)
    case atStart => rfl
    case round =>
      subst hrel
      go_wp2_with fail
      go_ret
      exact ⟨rfl, rfl⟩
end Go.Proofs.Ythigimmlhgdchaa
