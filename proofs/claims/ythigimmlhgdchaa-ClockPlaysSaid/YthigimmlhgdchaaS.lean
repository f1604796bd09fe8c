/- Less. -/
import Derived.Test.YthigimmlhgdchaaR
namespace Go.Proofs.Ythigimmlhgdchaa
set_option linter.unusedVariables false
set_option linter.unusedSimpArgs false
open Go.RowKit

theorem lt3_sgn (a b : Ev) : decide ((if sgn3 a.1 b.1 = 0 then sgn3 a.2.2 b.2.2 else sgn3 a.1 b.1) < 0) = lt3 a b := by
  rw [Bool.eq_iff_iff, decide_eq_true_iff, lt3_iff]
  unfold sgn3
  by_cases h1 : a.1 < b.1
  · simp [h1]
  · by_cases h2 : b.1 < a.1
    · simp [h1, h2]; omega
    · by_cases h3 : a.2.2 < b.2.2
      · simp [h1, h2, h3]; omega
      · by_cases h4 : b.2.2 < a.2.2
        · simp [h1, h2, h3, h4]
        · simp [h1, h2, h3, h4]
set_option maxHeartbeats 4000000 in
theorem less_c (B g c i j n : Nat) (l : List Ev) (w : World) (h : Rw w B (.slice (some ⟨g, 0, none⟩) n c) l) (hn : l.length = n) (hi : i < n) (hj : j < n) :
    Calls Try.prog 53 #[.slice (some ⟨g, 0, none⟩) n c, .int .i64 i, .int .i64 j] w fun e w' => e = .returned (.bool (lt3 (ix l i) (ix l j))) ∧ Below w.heap.size w w' := by
  have ha := cells3_get l i _ (getD_get (by omega))
  have hb := cells3_get l j _ (getD_get (by omega))
  have hr : w.ownsRow B 58 3 (.slice (some ⟨g, 0, none⟩) n c) n (cells3 l) := by rw [← hn]; rw [← hn] at h; exact h
  have T := Lib.hid (lt3_sgn (ix l i) (ix l j))
  obtain ⟨⟨x0, x1, x2⟩, hx⟩ : ∃ x, ix l i = x := ⟨_, rfl⟩
  obtain ⟨⟨y0, y1, y2⟩, hy⟩ : ∃ y, ix l j = y := ⟨_, rfl⟩
  rw [hx, hy] at T ⊢
  rw [show l.getD i e0 = (x0, x1, x2) from hx] at ha
  rw [show l.getD j e0 = (y0, y1, y2) from hy] at hb
  have a0 := row_get hr ha.1
  have a2 := row_get hr ha.2.2
  have b0 := row_get hr hb.1
  have b2 := row_get hr hb.2.2
  obtain ⟨p, hp⟩ : ∃ p, sgn3 x0 y0 = p := ⟨_, rfl⟩
  obtain ⟨q, hq⟩ : ∃ q, sgn3 x2 y2 = q := ⟨_, rfl⟩
  have C1 : Hid (∀ w, Calls Try.prog 56 #[.int .i64 x0, .int .i64 y0] w fun e w' => e = .returned (.int .i64 p) ∧ w' = w) := Lib.hid fun w => hp ▸ (cmpi_c x0 y0 w).mono fun e w' k => ⟨k.1, k.2.symm⟩
  have C2 : Hid (∀ w, Calls Try.prog 56 #[.int .i64 x2, .int .i64 y2] w fun e w' => e = .returned (.int .i64 q) ∧ w' = w) := Lib.hid fun w => hq ▸ (cmpi_c x2 y2 w).mono fun e w' k => ⟨k.1, k.2.symm⟩
  simp only [hp, hq] at T
  have O1 : Hid (Calls Try.prog 55 #[.slice (some ⟨w.heap.size, 0, none⟩) 2 2] ((w.alloc (.cells #[.int .i64 p, .int .i64 q] 3)).drew) fun e w' => e = .returned (.int .i64 (if p = 0 then q else p)) ∧ ((w.alloc (.cells #[.int .i64 p, .int .i64 q] 3)).drew) = w') := by
    have hk := heap_alloc_new w (.cells #[.int .i64 p, .int .i64 q] 3)
    exact Lib.hid (or_c w.heap.size p q _ ((cell_of_row (w.alloc (.cells #[.int .i64 p, .int .i64 q] 3)) _ 0 _ _ _ hk).trans rfl) ((cell_of_row (w.alloc (.cells #[.int .i64 p, .int .i64 q] 3)) _ 1 _ _ _ hk).trans rfl))
  obtain ⟨z, hz⟩ : ∃ z, (if p = 0 then q else p) = z := ⟨_, rfl⟩
  rw [hz] at T
  simp only [hz] at O1
  have hi' : (i : Int) < n := by omega
  have hj' : (j : Int) < n := by omega
  clear hr ha hb hx hy hp hq h hn hi hj hz
  go_enter Try.func53, Try.ntmps53
  go_wp2_with fail
  go_still_tail 24, (by kernel_rfl)
  still_call (C1.out _)
  repeat still_step
  still_call (C2.out _)
  repeat still_step
  refine wpStill_nil ?_
  change wpList _ _ _ _ _ w.drew
  go_wp2_with (go_at_call 55; (with_reducible refine (O1.out).mono ?_); rintro e w' ⟨rfl, rfl⟩)
  go_ret
  exact ⟨by rw [← T.out]; rfl, below_drewN ((Below.refl _ _).alloc (Nat.le_refl _) _) 1⟩
end Go.Proofs.Ythigimmlhgdchaa
