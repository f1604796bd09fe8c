/- Texts V, for this seat. -/
import Derived.Test.YtkifdppppihjcaaU
import Derived.IntWalk
namespace Go.Proofs.Ytkifdppppihjcaa
set_option linter.unusedVariables false
set_option linter.unusedSimpArgs false
open Go.RowKit Go.ChangeShapes Go.WideShapes SF
theorem Arr.drewN {w : World} {G n : Nat} {o : List Int} (h : Arr w G n o) (k : Nat) : Arr (w.drewN k) G n o := h.below (below_drewN (Below.refl _ _) k)
theorem or_high {x r : Int} (hx : 0 ≤ x ∧ x < 4294967296) (hr : 0 ≤ r ∧ r < 4294967296) : bits .or .u64 (r * 4294967296) x = r * 4294967296 + x := by
  obtain ⟨X, rfl⟩ := Int.eq_ofNat_of_zero_le hx.1
  obtain ⟨Y, rfl⟩ := Int.eq_ofNat_of_zero_le hr.1
  have e : (Y : Int) * 4294967296 = ((Y * 4294967296 : Nat) : Int) := by omega
  rw [e, u64_or_nat _ _ (by omega) (by omega), nat_join 32 (Y * 4294967296) X (by rw [show (2 : Nat) ^ 32 = 4294967296 by decide]; omega) (by rw [show (2 : Nat) ^ 32 = 4294967296 by decide]; omega)]
  omega
theorem Nw.below {w w' : World} {v : Value} {n : Nat} (h : Nw w v n) (hb : Below w.heap.size w w') : Nw w' v n := Rd.below h hb
theorem Nw.slice {w : World} {v : Value} {N : Nat} (h : Nw w v N) : ∃ a n c, v = .slice a n c := by
  obtain ⟨a, c, e⟩ := Rd.len h
  exact ⟨a, _, c, e⟩
variable {w : World} {a b : Option Addr} {n c m d A B : Nat}
/-- One value, new, that reads as a number. -/
def One (w : World) (N : Nat) (e : Ending) (w' : World) : Prop := ∃ a n c, e = .returned (.slice a n c) ∧ Nw w' (.slice a n c) N ∧ Below w.heap.size w w'
theorem Nw.setCell {w0 : World} {j : Nat} {G : Nat} {u : Value} (h : Nw w (.slice a n c) A) (hn : New w0 (.slice a n c)) (hG : G < w0.heap.size) : Nw (w.setCell ⟨G, j, none⟩ u) (.slice a n c) A := by
  obtain ⟨e1, e2, e3⟩ := Rd.parts h
  refine ⟨a, c, by rw [e1], by omega, ?_⟩
  rcases e3 with e3 | ⟨g, off, rfl, hc⟩
  · exact .inl e3
  · refine .inr ⟨g, off, rfl, fun i hi => ?_⟩
    have hg : w0.heap.size ≤ g := hn g rfl
    rw [← hc i (by omega)]
    unfold World.cell?
    rw [Below.heap_setCell _ _ _ _ (show g ≠ G by omega)]
end Go.Proofs.Ytkifdppppihjcaa

namespace Go.Proofs.Ytkifdppppihjcaa
set_option linter.unusedVariables false
set_option linter.unusedSimpArgs false
open Go.RowKit Go.ChangeShapes Go.WideShapes SF

theorem Arr.lt {w : World} {G n : Nat} {o : List Int} (h : Arr w G n o) : G < w.heap.size := (World.ownsRow.lt h G rfl).2
end Go.Proofs.Ytkifdppppihjcaa
