/- The reference's escapes. -/
import Derived.Test.YtocmgdolinajmaaDoorQ
namespace Go.Proofs.YtocmgdolinajmaaDoor
set_option linter.unusedVariables false
set_option linter.unusedSimpArgs false
open Go.RowKit

/-- An escape is read by the reference. -/
def REscOk (s : List Int) (w : World) (e : Ending) (w' : World) : Prop :=
  Below w.heap.size w w' ∧ ∃ v, e = .returned (.tuple #[v, .int .i64 ((oneV s).2 : Nat)]) ∧ Rd w' .u8 v (oneV s).1
theorem resc_letter (x : Int) (s : List Int) (w : World) (h : oneV s = ([x], 1)) : REscOk s w (.returned (.tuple #[.slice (some ⟨w.heap.size, 0, none⟩) 1 1, .int .i64 1])) (w.alloc (.cells #[.int .u8 x] 5)) := by
  unfold REscOk
  rw [h]
  exact ⟨(Below.refl _ _).alloc (Nat.le_refl _) _, _, rfl, Rd.made1 _ _ _⟩
theorem resc_two (x y : Int) (s : List Int) (w : World) (h : oneV s = ([x, y], 1)) : REscOk s w (.returned (.tuple #[.slice (some ⟨w.heap.size, 0, none⟩) 2 2, .int .i64 1])) (w.alloc (.cells #[.int .u8 x, .int .u8 y] 5)) := by
  unfold REscOk
  rw [h]
  exact ⟨(Below.refl _ _).alloc (Nat.le_refl _) _, _, rfl, Rd.made2 _ _ _ _⟩
theorem resc_none (s : List Int) (w w' : World) (h : oneV s = ([], 0)) (hb : Below w.heap.size w w') : REscOk s w (.returned (.tuple #[.slice none 0 0, .int .i64 0])) w' := by
  unfold REscOk
  rw [h]
  exact ⟨hb, _, rfl, Rd.nil _ _ _⟩
end Go.Proofs.YtocmgdolinajmaaDoor
