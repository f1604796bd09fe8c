/- Stacks in memory: a struct of a slice and three numbers; contracts of New, Push, All, same. -/
import Derived.Test.YticjepfcgfdmgaaK
import Derived.BigQuiet
namespace Go.Proofs.Yticjepfcgfdmgaa
set_option linter.unusedVariables false
set_option linter.unusedSimpArgs false
open Go.RowKit

/-- A struct of a slice of the call's own and three numbers, behind a pointer. -/
def Stk (T e : TypeId) (w : World) (B b : Nat) (v : Value) (xs : List Value) (most over under : Int) : Prop :=
  w.heap[b]? = some (.cells #[v, .int .i64 most, .int .i64 over, .int .i64 under] T (0, 0)) ∧ B ≤ b ∧ w.ownsRow B e 1 v xs.length xs
/-- Of what was there, the struct and its row alone may have turned. -/
structure Fr (b : Nat) (v : Value) (w w' : World) : Prop where
  os : w'.os = w.os
  tape : w'.tape = w.tape
  output : w'.output = w.output
  size : w.heap.size ≤ w'.heap.size
  block : ∀ k, k < w.heap.size → k ≠ b → v.ownBlock ≠ some k → w'.heap[k]? = w.heap[k]?
/-- The row lies where it lay, or is new. -/
def Old (w : World) (v v' : Value) : Prop := v'.ownBlock = v.ownBlock ∨ ∀ g, v'.ownBlock = some g → w.heap.size ≤ g

section
variable {T e : TypeId} {w w' : World} {B b : Nat} {v : Value} {xs : List Value} {most over under : Int}
theorem Stk.lt (h : Stk T e w B b v xs most over under) : b < w.heap.size := by
  rcases Nat.lt_or_ge b w.heap.size with hlt | hge
  · exact hlt
  · have := h.1; rw [Array.getElem?_eq_none hge] at this; cases this
theorem Stk.cell (h : Stk T e w B b v xs most over under) : w.cell? ⟨b, 0, none⟩ = some v ∧ w.cell? ⟨b, 1, none⟩ = some (.int .i64 most) ∧ w.cell? ⟨b, 2, none⟩ = some (.int .i64 over) ∧ w.cell? ⟨b, 3, none⟩ = some (.int .i64 under) := by
  refine ⟨?_, ?_, ?_, ?_⟩ <;> (rw [cell_of_row w b _ _ T (0, 0) h.1]; rfl)
theorem Stk.frozen (h : Stk T e w B b v xs most over under) (i : Nat) : w.frozen? ⟨b, i, none⟩ = false := by
  have := h.1
  simp [World.frozen?, this]
theorem Stk.ne (h : Stk T e w B b v xs most over under) (hT : e ≠ T) : v.ownBlock ≠ some b := by
  rcases h.2.2.2 with ⟨rfl, _⟩ | ⟨g, cap, cur, rfl, _, hh, _⟩
  · simp [Value.ownBlock]
  · intro he
    have e1 : g = b := by simpa [Value.ownBlock] using he
    subst e1
    have := h.1
    rw [hh] at this
    injection this with this
    injection this with _ ht
    exact hT ht
theorem ownsRow_same {w w' : World} {B e : Nat} {v : Value} {n : Nat} {xs : List Value} (h : w.ownsRow B e 1 v n xs) (hk : ∀ g, v.ownBlock = some g → w'.heap[g]? = w.heap[g]?) : w'.ownsRow B e 1 v n xs := by
  obtain ⟨h1, h2⟩ := h
  refine ⟨h1, ?_⟩
  rcases h2 with h2 | ⟨g, cap, cur, rfl, hb, hh, r⟩
  · exact .inl h2
  · exact .inr ⟨g, cap, cur, rfl, hb, (hk g rfl).trans hh, r⟩
theorem Stk.same (h : Stk T e w B b v xs most over under) (hb : w'.heap[b]? = w.heap[b]?) (hk : ∀ g, v.ownBlock = some g → w'.heap[g]? = w.heap[g]?) : Stk T e w' B b v xs most over under :=
  ⟨hb.trans h.1, h.2.1, ownsRow_same h.2.2 hk⟩
theorem Stk.row_lt (h : Stk T e w B b v xs most over under) : ∀ g, v.ownBlock = some g → B ≤ g ∧ g < w.heap.size := h.2.2.lt
theorem Stk.below (h : Stk T e w B b v xs most over under) (hw : Below w.heap.size w w') : Stk T e w' B b v xs most over under :=
  h.same (hw.block b h.lt) (fun g hg => hw.block g (h.row_lt g hg).2)
theorem Fr.below (h : Stk T e w B b v xs most over under) (f : Fr b v w w') (hB : B ≤ w.heap.size) : Below B w w' :=
  ⟨f.os, f.tape, f.output, f.size, fun k hk => f.block k (by omega) (by have := h.2.1; omega) (fun g => by have := (h.row_lt k g).1; omega)⟩
theorem Fr.refl (b : Nat) (v : Value) (w : World) : Fr b v w w := ⟨rfl, rfl, rfl, Nat.le_refl _, fun _ _ _ _ => rfl⟩
theorem Fr.trans {v1 : Value} {w1 w2 : World} (f : Fr b v w w1) (o : Old w v v1) (g : Fr b v1 w1 w2) : Fr b v w w2 :=
  ⟨g.os.trans f.os, g.tape.trans f.tape, g.output.trans f.output, Nat.le_trans f.size g.size, fun k hk h1 h2 => (g.block k (Nat.lt_of_lt_of_le hk f.size) h1 (fun h3 => by
    rcases o with o | o
    · rw [o] at h3; exact h2 h3
    · have := o k h3; omega)).trans (f.block k hk h1 h2)⟩
theorem Old.trans {v1 v2 : Value} {w1 : World} (o : Old w v v1) (hw : w.heap.size ≤ w1.heap.size) (o2 : Old w1 v1 v2) : Old w v v2 := by
  rcases o2 with o2 | o2
  · rcases o with o | o
    · exact .inl (o2.trans o)
    · exact .inr fun g hg => o g (by rw [← o2]; exact hg)
  · exact .inr fun g hg => Nat.le_trans hw (o2 g hg)
theorem Fr.of_below (hw : Below w.heap.size w w') : Fr b v w w' := ⟨hw.os, hw.tape, hw.output, hw.size, fun k hk _ _ => hw.block k hk⟩
/-- The slice's field is written: a row that the field's old row has become. -/
theorem Stk.put (h : Stk T e w B b v xs most over under) {w1 : World} {v1 : Value} {ys : List Value} (hg : w.grownBy w1 v.ownBlock) (ho : w1.ownsRow B e 1 v1 ys.length ys) (hat : v1.ownBlock = v.ownBlock ∨ ∀ g, v1.ownBlock = some g → w.heap.size ≤ g) (hT : e ≠ T) :
    Stk T e (w1.setCell ⟨b, 0, none⟩ v1) B b v1 ys most over under ∧ Fr b v w (w1.setCell ⟨b, 0, none⟩ v1) ∧ Old w v v1 := by
  have hb : w1.heap[b]? = some (.cells #[v, .int .i64 most, .int .i64 over, .int .i64 under] T (0, 0)) := (hg.block b h.lt (fun g => h.ne hT g.symm)).trans h.1
  have hne : v1.ownBlock ≠ some b := by
    rcases hat with g | g
    · rw [g]; exact h.ne hT
    · intro c; have := g b c; have := h.lt; omega
  refine ⟨⟨?_, h.2.1, ?_⟩, ⟨hg.os, hg.tape, hg.output, ?_, ?_⟩, hat⟩
  · simp [World.setCell, Array.getElem?_modify, hb]
  · exact ownsRow_same ho (fun g hgg => Below.heap_setCell _ _ _ _ (fun c => hne (by rw [hgg, c])))
  · simpa [World.setCell] using hg.size
  · intro k hk h1 h2
    rw [Below.heap_setCell _ _ _ _ h1]
    exact hg.block k hk (fun c => h2 c.symm)
end
theorem info_int : (Try.prog.info? 3).map (fun i => (i.zero, i.size, i.bytes)) = some (some (.int .i64 0), 1, 8) := by kernel_rfl
def IStk := Stk 51 3
theorem new_c (most over under : Int) (w : World) (h0 : 0 ≤ most) (h1 : most ≤ 100000) : Calls Try.prog 8 #[.int .i64 most, .int .i64 over, .int .i64 under] w fun e w' =>
    e = .returned (.tuple #[.pointer (some ⟨w.heap.size, 0, none⟩), .int .i64 0]) ∧ (∀ B, B ≤ w.heap.size → IStk w' B w.heap.size (.slice none 0 0) [] most over under) ∧ Below w.heap.size w w' := by
  go_enter Try.func8, Try.ntmps8
  go_wp2
  go_ret2
  refine ⟨rfl, fun B hB => ⟨?_, hB, World.ownsRow_nil _ _ _ _⟩, (Below.refl _ _).alloc (Nat.le_refl _) _⟩
  exact heap_alloc_new w _
end Go.Proofs.Yticjepfcgfdmgaa
