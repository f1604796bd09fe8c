/- A step on both clocks. -/
import Derived.Test.YthigimmlhgdchaaAD
import Derived.Test.YthigimmlhgdchaaAF
import Derived.Deep.RegionWith
namespace Go.Proofs.Ythigimmlhgdchaa
set_option linter.unusedVariables false
set_option linter.unusedSimpArgs false
open Go.RowKit

theorem dropR_sub (t : Int) : ∀ (R : List Ev), (∀ e ∈ dropR t R, e ∈ R) ∧ (dropR t R).length ≤ R.length
  | [] => ⟨fun e h => h, Nat.le_refl _⟩
  | x :: R => by
    unfold dropR
    split
    · have := dropR_sub t R
      exact ⟨fun e h => List.mem_cons_of_mem _ (this.1 e h), by simp; omega⟩
    · exact ⟨fun e h => h, Nat.le_refl _⟩
theorem dropN_sub : ∀ (R : List Ev), (∀ e ∈ dropN R, e ∈ R) ∧ (dropN R).length ≤ R.length
  | [] => ⟨fun e h => h, Nat.le_refl _⟩
  | x :: R => by
    unfold dropN
    split
    · have := dropN_sub R
      exact ⟨fun e h => List.mem_cons_of_mem _ (this.1 e h), by simp; omega⟩
    · exact ⟨fun e h => h, Nat.le_refl _⟩
/-- Bounds of what is left, and of the time. -/
def Lim (t : Int) (R : List Ev) : Prop := 0 ≤ t ∧ t ≤ 2199023255552 ∧ R.length ≤ 1000 ∧ ∀ e ∈ R, e.1 ≤ 1099511627776
/-- Both clocks hold the same. -/
def DB (w : World) (b b2 : Nat) (s t : Int) (R : List Ev) : Prop := Pk b2 w b s t R ∧ Rc w b2 s t R ∧ b < b2 ∧ Lim t R
theorem Lim.sub {t : Int} {R Z : List Ev} (h : Lim t R) (hs : (∀ e ∈ Z, e ∈ R) ∧ Z.length ≤ R.length) : Lim t Z := ⟨h.1, h.2.1, by have := h.2.2.1; omega, fun e he => h.2.2.2 e (hs.1 e he)⟩
theorem Lim.tail {t : Int} {x : Ev} {R : List Ev} (h : Lim t (x :: R)) : Lim (max t x.1) R := by
  have h1 := h.2.2.2 x (by simp)
  have h2 := h.2.2.1
  simp at h2
  exact ⟨by have := h.1; omega, by have := h.2.1; omega, by omega, fun e he => h.2.2.2 e (by simp [he])⟩
theorem Rc.lt {w : World} {b : Nat} {s t : Int} {R : List Ev} (h : Rc w b s t R) : b < w.heap.size := by
  obtain ⟨a, c, h1, _⟩ := h
  exact h1.lt
theorem Pk.lt {N b : Nat} {w : World} {s t : Int} {R : List Ev} (h : Pk N w b s t R) : b < w.heap.size := by
  obtain ⟨a, c, l', h1, _⟩ := h
  exact h1.lt
theorem Rc.fn {w w' : World} {b b2 : Nat} {s t : Int} {R : List Ev} (h : Rc w b2 s t R) (f : Fn b b2 w w') : Rc w' b2 s t R := by
  obtain ⟨a, c, h1, h2, h3⟩ := h
  refine ⟨a, c, h1.same (f.block b2 h1.lt (.inr (Nat.le_refl _))), ?_, h3⟩
  obtain ⟨a', c', e, hc, hr⟩ := h2
  refine ⟨a', c', e, hc, ?_⟩
  rcases hr with h | ⟨g, o, ha, hcl⟩
  · exact .inl h
  · refine .inr ⟨g, o, ha, fun i hi => ?_⟩
    injection e with e1 e2 e3
    have hg := h3 g o (e1.trans ha)
    have key : ∀ k v, w.cell? ⟨g, k, none⟩ = some v → w'.cell? ⟨g, k, none⟩ = some v := fun k v hv => (World.cell?_of_block (w := w) (f.block g (World.block_lt_of_cell? w _ hv) (.inr (by omega)))).trans hv
    exact ⟨key _ _ (hcl i hi).1, key _ _ (hcl i hi).2⟩
theorem Pk.fb {w w' : World} {b b2 : Nat} {s t : Int} {R : List Ev} (h : Pk b2 w b s t R) (f : Fb b2 w w') (hb : b < b2) : Pk b2 w' b s t R := by
  obtain ⟨a, c, l', h1, h2, h3, h4, h5, h6, h7⟩ := h
  refine ⟨a, c, l', h1.same (f.block b h1.lt (by omega)), ownsRow_same h2 (fun g hg => f.block g (ownsRow_base h2 g hg).2 ?_), h3, h4, h5, h6, h7⟩
  cases a with
  | none => cases hg
  | some ad =>
    obtain ⟨g', c', he, _⟩ : ∃ g' c', (Value.slice (some ad) R.length c) = .slice (some ⟨g', 0, none⟩) R.length c' ∧ True := by
      rcases h2.2 with ⟨hv, _⟩ | ⟨g', cap, cur, hv, _⟩
      · cases hv
      · rw [h3] at hv; exact ⟨g', cap, hv, trivial⟩
    injection he with e1
    have := h7 g' 0 e1
    rw [e1] at hg
    simp [Value.ownBlock] at hg
    omega
/-- The clock's time is turned. -/
theorem Pk.time {w w' : World} {N b : Nat} {s t t2 : Int} {R : List Ev} (h : Pk N w b s t R) (hc : ∀ v, Clk 54 w b s t v → Clk 54 w' b s t2 v) (f : Fb b w w') : Pk N w' b s t2 R := by
  obtain ⟨a, c, l', h1, h2, h3⟩ := h
  exact ⟨a, c, l', hc _ h1, ownsRow_same h2 (fun g hg => f.block g (ownsRow_base h2 g hg).2 (by have := (ownsRow_base h2 g hg).1; omega)), h3⟩
theorem Rc.time {w w' : World} {b : Nat} {s t t2 : Int} {R : List Ev} (h : Rc w b s t R) (hc : ∀ v, Clk 49 w b s t v → Clk 49 w' b s t2 v) (f : Fb b w w') : Rc w' b s t2 R := by
  obtain ⟨a, c, h1, h2, h3⟩ := h
  exact ⟨a, c, hc _ h1, h2.fb f h3, h3⟩
theorem fn_of_fb {b b2 : Nat} {w w' : World} (h : Fb b w w') (hb : b < b2) : Fn b b2 w w' := ⟨h.os, h.tape, h.output, h.size, fun k hk hn => h.block k hk (by omega)⟩
theorem below_two {b b2 : Nat} {w w1 w2 : World} (f : Fn b b2 w w1) (g : Fb b2 w1 w2) (hb : b < b2) (hs : b ≤ w.heap.size) : Below b w w2 := ⟨g.os.trans f.os, g.tape.trans f.tape, g.output.trans f.output, Nat.le_trans f.size g.size, fun k hk => (g.block k (by have := f.size; omega) (by omega)).trans (f.block k (by omega) (.inl hk))⟩
/-- What a step leaves. -/
def Step (w w' : World) (b b2 : Nat) (s : Int) : Prop := Below b w w' ∧ ∃ t R, DB w' b b2 s t R
/-- The step's own struct. -/
def SB (w : World) (N : Nat) (K n : Int) (c : Bool) : Prop := w.cell? ⟨N, 0, none⟩ = some (.int .i64 K) ∧ w.cell? ⟨N, 1, none⟩ = some (.int .i64 n) ∧ w.cell? ⟨N, 2, none⟩ = some (.bool c)
theorem sb_new (w : World) (K n : Int) (c : Bool) : SB (w.alloc (.cells #[.int .i64 K, .int .i64 n, .bool c] 47)) w.heap.size K n c := by
  have h := heap_alloc_new w (.cells #[.int .i64 K, .int .i64 n, .bool c] 47)
  refine ⟨?_, ?_, ?_⟩ <;> (rw [cell_of_row _ _ _ _ _ (0, 0) h]; rfl)
theorem SB.keep {w w' : World} {N : Nat} {K n : Int} {c : Bool} (h : SB w N K n c) (hk : w'.heap[N]? = w.heap[N]?) : SB w' N K n c := ⟨(World.cell?_of_block (w := w) hk).trans h.1, (World.cell?_of_block (w := w) hk).trans h.2.1, (World.cell?_of_block (w := w) hk).trans h.2.2⟩
theorem DB.below {w w' : World} {b b2 : Nat} {s t : Int} {R : List Ev} (h : DB w b b2 s t R) (hb : Below w.heap.size w w') : DB w' b b2 s t R := ⟨h.1.below hb, h.2.1.below hb, h.2.2.1, h.2.2.2⟩
end Go.Proofs.Ythigimmlhgdchaa
