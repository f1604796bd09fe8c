/- Calendar. -/
import Derived.Test.YthigimmlhgdchaaL
namespace Go.Proofs.Ythigimmlhgdchaa
set_option linter.unusedVariables false
set_option linter.unusedSimpArgs false
open Go.RowKit

theorem dt_up {d m y : Int} {R : Int × Int × Int} (h : Dt d m y R) : 0 ≤ d → R.2.2 ≤ y + d := by
  induction h with
  | done h => intro h0; show _ ≤ _; simp only; omega
  | @step d m y R h k ih =>
    intro h0
    have g := daysV_ge y m
    have := ih (by omega)
    have e : nextY m y ≤ y + 1 := by unfold nextY; split <;> omega
    omega
/-- The next day's date. -/
theorem day_more {D : Int} {d m y d2 m2 y2 : Int} (h0 : 0 ≤ D) (h : Dt D 0 2000 (d, m, y)) (g : Dt (D + 1) 0 2000 (d2, m2, y2)) :
    (0 ≤ d ∧ d ≤ 30 ∧ 0 ≤ m ∧ m ≤ 11 ∧ 2000 ≤ y ∧ y ≤ 2000 + D) ∧ ((d2 = d + 1 ∧ m2 = m ∧ y2 = y) ∨ (d2 = 0 ∧ m2 = m + 1 ∧ y2 = y ∧ 27 ≤ d ∧ m ≤ 10) ∨ (d2 = 0 ∧ m2 = 0 ∧ y2 = y + 1 ∧ d = 30 ∧ m = 11)) := by
  have f := h.facts h0 ⟨by decide, by decide⟩
  have u := dt_up h h0
  simp only at f u
  have r := daysV_ge y m
  refine ⟨⟨f.1, by omega, f.2.2.1, f.2.2.2.1, f.2.2.2.2, u⟩, ?_⟩
  rcases h.more h0 with ⟨g1, g2⟩ | ⟨g1, g2⟩
  · have e := g.one g2
    simp only [Prod.mk.injEq] at e
    exact .inl e
  · have e := g.one g2
    simp only [Prod.mk.injEq] at e g1
    by_cases h11 : m = 11
    · subst h11
      rw [show nextM 11 = 0 from rfl, show nextY 11 y = y + 1 from rfl] at e
      rw [show daysV y 11 = 31 from rfl] at g1
      exact .inr (.inr ⟨e.1, e.2.1, e.2.2, by omega, rfl⟩)
    · rw [show nextM m = m + 1 by unfold nextM; rw [if_neg (by omega)], show nextY m y = y by unfold nextY; rw [if_neg (by omega)]] at e
      exact .inr (.inl ⟨e.1, e.2.1, e.2.2, by omega, by omega⟩)
set_option maxHeartbeats 4000000 in
set_option maxRecDepth 100000 in
theorem cal_run (s : Int) (w : World) (s0 : 0 ≤ s) (s1 : s + 86400 ≤ 8589934592) (q1 q2 q3 A O y P Q z : Int) (hq : s.tmod 60 = q1) (a0 : 1 ≤ A) (a1 : A ≤ 31) (o0 : 1 ≤ O) (o1 : O ≤ 12) (y0 : 2000 ≤ y) (y1 : y ≤ 200000)
    (hc : (P = A + 1 ∧ Q = O ∧ z = y) ∨ (P = 1 ∧ Q = O + 1 ∧ z = y ∧ 28 ≤ A ∧ O ≤ 11) ∨ (P = 1 ∧ Q = 1 ∧ z = y + 1 ∧ A = 31 ∧ O = 12))
    (DA : Hid (∀ b w, Clk 54 w b s 0 (.slice none 0 0) → Calls Try.prog 12 #[.pointer (some ⟨b, 0, none⟩)] w fun e w' => e = .returned (.tuple #[.int .i64 q1, .int .i64 q2, .int .i64 q3, .int .i64 A, .int .i64 O, .int .i64 y]) ∧ Below w.heap.size w w'))
    (DB : Hid (∀ b w, Clk 54 w b (s + 86400) 0 (.slice none 0 0) → Calls Try.prog 12 #[.pointer (some ⟨b, 0, none⟩)] w fun e w' => e = .returned (.tuple #[.int .i64 q1, .int .i64 q2, .int .i64 q3, .int .i64 P, .int .i64 Q, .int .i64 z]) ∧ Below w.heap.size w w')) :
    Calls Try.prog 4 #[.int .i64 s] w fun e w' => e = .returned (.bool true) ∧ Below w.heap.size w w' := by
  have AW := Lib.hid (fun w => awake_c w)
  have NA := Lib.hid (fun w => new_c s w s0 (by omega))
  have NB := Lib.hid (fun w => new_c (s + 86400) w (by omega) s1)
  have i0 : IntKind.i64.wrap (s + 86400) = s + 86400 := by simp only [IntKind.wrap_i64]; omega
  have i1 : IntKind.i64.wrap (A + 1) = A + 1 := by simp only [IntKind.wrap_i64]; omega
  have i2 : IntKind.i64.wrap (O + 1) = O + 1 := by simp only [IntKind.wrap_i64]; omega
  have i3 : IntKind.i64.wrap (y + 1) = y + 1 := by simp only [IntKind.wrap_i64]; omega
  rcases hc with ⟨rfl, rfl, rfl⟩ | ⟨rfl, rfl, rfl, h28, h11⟩ | ⟨rfl, rfl, rfl, rfl, rfl⟩
  all_goals
    go_enter Try.func4, Try.ntmps4
    go_wp2_with (first
      | (go_at_call 9; (with_reducible refine (NA.out _).mono ?_); rintro e w1 ⟨rfl, ka, hb1, hz1⟩)
      | (go_at_call 9; (with_reducible refine (NB.out _).mono ?_); rintro e w2 ⟨rfl, kb, hb2, hz2⟩)
      | (go_at_call 12; (with_reducible refine (DA.out _ w2 (ka.below hb2)).mono ?_); rintro e w3 ⟨rfl, hb3⟩)
      | (go_at_call 12; (with_reducible refine (DB.out _ w3 (kb.below hb3)).mono ?_); rintro e w4 ⟨rfl, hb4⟩)
      | (go_at_call 8; (with_reducible refine (AW.out _).mono ?_); rintro e w6 ⟨rfl, hb6⟩))
    go_ret
    have b1 : Below w.heap.size w w2 := below_then hb1 hb1.size hb2
    have b2 : Below w.heap.size w w3 := below_then b1 b1.size hb3
    have b3 : Below w.heap.size w w4 := below_then b2 b2.size hb4
    exact ⟨rfl, below_then b3 b3.size hb6⟩
theorem cal_bad (s Y : Int) (w : World) (hY : IntKind.i64.wrap (s + 86400) = Y) (h : (s < 0 ∨ 8589934592 < s) ∨ (Y < 0 ∨ 8589934592 < Y)) :
    Calls Try.prog 4 #[.int .i64 s] w fun e w' => e = .returned (.bool true) ∧ Below w.heap.size w w' := by
  have AW := Lib.hid (fun w => awake_c w)
  by_cases h1 : s < 0 ∨ 8589934592 < s
  · have NA := Lib.hid (fun w => new_bad s w h1)
    by_cases h2 : Y < 0 ∨ 8589934592 < Y
    · have NB := Lib.hid (fun w => new_bad Y w h2)
      clear h h1 h2
      go_enter Try.func4, Try.ntmps4
      go_wp2_with (first
        | (go_at_call 9; (with_reducible refine (NA.out _).mono ?_); rintro e w' ⟨rfl, rfl⟩)
        | (go_at_call 9; (with_reducible refine (NB.out _).mono ?_); rintro e w' ⟨rfl, rfl⟩)
        | (go_at_call 8; (with_reducible refine (AW.out _).mono ?_); rintro e w6 ⟨rfl, hb6⟩))
      go_ret
      exact ⟨rfl, hb6⟩
    · have NB := Lib.hid (fun w => new_c Y w (by omega) (by omega))
      clear h h1 h2
      go_enter Try.func4, Try.ntmps4
      go_wp2_with (first
        | (go_at_call 9; (with_reducible refine (NA.out _).mono ?_); rintro e w' ⟨rfl, rfl⟩)
        | (go_at_call 9; (with_reducible refine (NB.out _).mono ?_); rintro e w2 ⟨rfl, kb, hb2, hz2⟩)
        | (go_at_call 8; (with_reducible refine (AW.out _).mono ?_); rintro e w6 ⟨rfl, hb6⟩))
      go_ret
      exact ⟨rfl, below_then hb2 hb2.size hb6⟩
  · have h2 : Y < 0 ∨ 8589934592 < Y := by omega
    have NA := Lib.hid (fun w => new_c s w (by omega) (by omega))
    have NB := Lib.hid (fun w => new_bad Y w h2)
    clear h h1 h2
    go_enter Try.func4, Try.ntmps4
    go_wp2_with (first
      | (go_at_call 9; (with_reducible refine (NA.out _).mono ?_); rintro e w2 ⟨rfl, kb, hb2, hz2⟩)
      | (go_at_call 9; (with_reducible refine (NB.out _).mono ?_); rintro e w' ⟨rfl, rfl⟩)
      | (go_at_call 8; (with_reducible refine (AW.out _).mono ?_); rintro e w6 ⟨rfl, hb6⟩))
    go_ret
    exact ⟨rfl, below_then hb2 hb2.size hb6⟩
theorem lcal_walk (s : Int) (w : World) (hs : -9223372036854775808 ≤ s ∧ s ≤ 9223372036854775807) :
    Calls Try.prog 4 #[.int .i64 s] w fun e w' => e = .returned (.bool true) ∧ Below w.heap.size w w' := by
  by_cases h : 0 ≤ s ∧ s + 86400 ≤ 8589934592
  · obtain ⟨s0, s1⟩ := h
    obtain ⟨⟨d, m, y⟩, hR⟩ := dt_total (s / 86400).toNat (s / 86400) 0 2000 (Nat.le_refl _)
    obtain ⟨⟨d2, m2, y2⟩, hR2⟩ := dt_total (s / 86400 + 1).toNat (s / 86400 + 1) 0 2000 (Nat.le_refl _)
    obtain ⟨⟨d0, d1, m0, m1, y0, y1⟩, hc⟩ := day_more (by omega) hR hR2
    refine cal_run s w s0 s1 (s % 60) (s / 60 % 60) (s / 3600 % 24) (d + 1) (m + 1) y (d2 + 1) (m2 + 1) y2 (Int.tmod_eq_emod_of_nonneg s0) (by omega) (by omega) (by omega) (by omega) y0 (by omega) (by omega) ?_ ?_
    · exact Lib.hid fun b w hC => date_c b s 0 w hC.c0 hC.c1 s0 (by omega) (by decide) (by decide) s (by simp) d m y hR
    · refine Lib.hid fun b w hC => ?_
      have e1 : (s + 86400) % 60 = s % 60 := by omega
      have e2 : (s + 86400) / 60 % 60 = s / 60 % 60 := by omega
      have e3 : (s + 86400) / 3600 % 24 = s / 3600 % 24 := by omega
      have e4 : (s + 86400) / 86400 = s / 86400 + 1 := by omega
      have := date_c b (s + 86400) 0 w hC.c0 hC.c1 (by omega) s1 (by decide) (by decide) (s + 86400) (by simp) d2 m2 y2 (by rw [e4]; exact hR2)
      rw [e1, e2, e3] at this
      exact this
  · refine cal_bad s _ w rfl ?_
    rw [IntKind.wrap_i64]
    omega
end Go.Proofs.Ythigimmlhgdchaa
