/- awake. -/
import Derived.Test.YthigimmlhgdchaaI
namespace Go.Proofs.Ythigimmlhgdchaa
set_option linter.unusedVariables false
set_option linter.unusedSimpArgs false
open Go.RowKit

theorem dt_awake : Dt (68173261 / 86400) 0 2000 (27, 1, 2002) := by
  rw [show (68173261 : Int) / 86400 = 789 by decide]
  have st : ∀ {x m y x' m' y' : Int} {R : Int × Int × Int}, daysV y m ≤ x → x - daysV y m = x' → nextM m = m' → nextY m y = y' → Dt x' m' y' R → Dt x m y R := by
    intro x m y x' m' y' R h1 h2 h3 h4 h5
    subst h2 h3 h4
    exact .step h1 h5
  refine st (x' := 758) (m' := 1) (y' := 2000) (by decide) (by decide) (by decide) (by decide) ?_
  refine st (x' := 729) (m' := 2) (y' := 2000) (by decide) (by decide) (by decide) (by decide) ?_
  refine st (x' := 698) (m' := 3) (y' := 2000) (by decide) (by decide) (by decide) (by decide) ?_
  refine st (x' := 668) (m' := 4) (y' := 2000) (by decide) (by decide) (by decide) (by decide) ?_
  refine st (x' := 637) (m' := 5) (y' := 2000) (by decide) (by decide) (by decide) (by decide) ?_
  refine st (x' := 607) (m' := 6) (y' := 2000) (by decide) (by decide) (by decide) (by decide) ?_
  refine st (x' := 576) (m' := 7) (y' := 2000) (by decide) (by decide) (by decide) (by decide) ?_
  refine st (x' := 545) (m' := 8) (y' := 2000) (by decide) (by decide) (by decide) (by decide) ?_
  refine st (x' := 515) (m' := 9) (y' := 2000) (by decide) (by decide) (by decide) (by decide) ?_
  refine st (x' := 484) (m' := 10) (y' := 2000) (by decide) (by decide) (by decide) (by decide) ?_
  refine st (x' := 454) (m' := 11) (y' := 2000) (by decide) (by decide) (by decide) (by decide) ?_
  refine st (x' := 423) (m' := 0) (y' := 2001) (by decide) (by decide) (by decide) (by decide) ?_
  refine st (x' := 392) (m' := 1) (y' := 2001) (by decide) (by decide) (by decide) (by decide) ?_
  refine st (x' := 364) (m' := 2) (y' := 2001) (by decide) (by decide) (by decide) (by decide) ?_
  refine st (x' := 333) (m' := 3) (y' := 2001) (by decide) (by decide) (by decide) (by decide) ?_
  refine st (x' := 303) (m' := 4) (y' := 2001) (by decide) (by decide) (by decide) (by decide) ?_
  refine st (x' := 272) (m' := 5) (y' := 2001) (by decide) (by decide) (by decide) (by decide) ?_
  refine st (x' := 242) (m' := 6) (y' := 2001) (by decide) (by decide) (by decide) (by decide) ?_
  refine st (x' := 211) (m' := 7) (y' := 2001) (by decide) (by decide) (by decide) (by decide) ?_
  refine st (x' := 180) (m' := 8) (y' := 2001) (by decide) (by decide) (by decide) (by decide) ?_
  refine st (x' := 150) (m' := 9) (y' := 2001) (by decide) (by decide) (by decide) (by decide) ?_
  refine st (x' := 119) (m' := 10) (y' := 2001) (by decide) (by decide) (by decide) (by decide) ?_
  refine st (x' := 89) (m' := 11) (y' := 2001) (by decide) (by decide) (by decide) (by decide) ?_
  refine st (x' := 58) (m' := 0) (y' := 2002) (by decide) (by decide) (by decide) (by decide) ?_
  refine st (x' := 27) (m' := 1) (y' := 2002) (by decide) (by decide) (by decide) (by decide) ?_
  exact .done (by decide)
theorem date_awake (b : Nat) (v : Value) (w : World) (h : Clk 54 w b 68173261 5 v) :
    Calls Try.prog 12 #[.pointer (some ⟨b, 0, none⟩)] w fun e w' => e = .returned (.tuple #[.int .i64 1, .int .i64 1, .int .i64 1, .int .i64 28, .int .i64 2, .int .i64 2002]) ∧ Below w.heap.size w w' :=
  date_c b 68173261 5 w h.c0 h.c1 (by decide) (by decide) (by decide) (by decide) 68173261 (by decide) 27 1 2002 dt_awake
theorem row_form {w : World} {B e k n : Nat} {v : Value} {xs : List Value} (h : w.ownsRow B e k v (n + 1) xs) : ∃ g c, v = .slice (some ⟨g, 0, none⟩) (n + 1) c ∧ B ≤ g := by
  rcases h.2 with ⟨_, h0⟩ | ⟨g, c, cur, rfl, hb, _⟩
  · omega
  · exact ⟨g, c, rfl, hb⟩
theorem awake_c (w : World) : Calls Try.prog 8 #[] w fun e w' => e = .returned (.bool true) ∧ Below w.heap.size w w' := by
  have bA : Below w.heap.size w (w.alloc (.cells #[.int .i64 5, .int .i64 97] 32)) := (Below.refl _ _).alloc (Nat.le_refl _) _
  have hk := heap_alloc_new w (.cells #[.int .i64 5, .int .i64 97] 32)
  have NW : Hid (Calls Try.prog 9 #[.int .i64 68173261, .slice (some ⟨w.heap.size, 0, none⟩) 1 1] (w.alloc (.cells #[.int .i64 5, .int .i64 97] 32)) fun e w' => e = .returned (.tuple #[.pointer (some ⟨w.heap.size + 1, 0, none⟩), .int .i64 0]) ∧
      ∃ g c, w.heap.size + 2 ≤ g ∧ Clk 54 w' (w.heap.size + 1) 68173261 0 (.slice (some ⟨g, 0, none⟩) 1 c) ∧ Rw w' (w.heap.size + 2) (.slice (some ⟨g, 0, none⟩) 1 c) [(5, 97, 0)] ∧ Below w.heap.size w w') := by
    refine Lib.hid ((new_one w.heap.size _ (by rw [cell_of_row _ _ _ _ _ _ hk]; rfl) (by rw [cell_of_row _ _ _ _ _ _ hk]; rfl)).mono ?_)
    rintro e w' ⟨rfl, v', h1, h2, h3⟩
    obtain ⟨g, c, rfl, hg⟩ := row_form h2
    have e : (w.alloc (.cells #[.int .i64 5, .int .i64 97] 32)).heap.size = w.heap.size + 1 := by simp
    rw [e] at h1 h2 h3 hg ⊢
    exact ⟨rfl, g, c, hg, h1, h2, below_then bA (by simp) (by rw [e]; exact h3)⟩
  clear hk bA
  go_enter Try.func8, Try.ntmps8
  go_wp2_with (first
    | (go_at_call 9; (with_reducible refine (NW.out).mono ?_); rintro e w1 ⟨rfl, g, c, hg, h1, h2, h3⟩)
    | (go_at_call 10; (with_reducible refine (next_one _ _ g c _ _ h1 h2 (by omega)).mono ?_); rintro e w2 ⟨rfl, k1, k2⟩)
    | (go_at_call 12; (with_reducible refine (date_awake _ _ _ k1).mono ?_); rintro e w3 ⟨rfl, k3⟩)
    | (go_at_call 11; (with_reducible refine (now_c _ _ _ _ _ (k1.below k3)).mono ?_); rintro e w4 ⟨rfl, rfl⟩))
  go_ret
  have b2 : Below w.heap.size w w2 := h3.trans (k2.below (by omega) (by omega) h3.size)
  exact ⟨rfl, below_then b2 b2.size k3⟩
end Go.Proofs.Ythigimmlhgdchaa
