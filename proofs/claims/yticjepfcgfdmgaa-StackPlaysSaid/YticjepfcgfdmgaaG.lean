/- Lists of steps that are read; the law of nothing. -/
import Derived.Test.YticjepfcgfdmgaaE
namespace Go.Proofs.Yticjepfcgfdmgaa
set_option linter.unusedVariables false
set_option linter.unusedSimpArgs false
open Go.RowKit Go.ChangeShapes Go.WideShapes Go.Deep

/-- A list of triples that is read. -/
def Rd3 (w : World) (v : Value) (l : List (Int × Int × Int)) : Prop :=
  ∃ a c, v = .slice a l.length c ∧ l.length ≤ c ∧ (l = [] ∨ ∃ g off, a = some ⟨g, off, none⟩ ∧ ∀ i, i < l.length → w.cell? ⟨g, off + i * 3, none⟩ = some (.int .i64 (l.getD i (0, 0, 0)).1) ∧ w.cell? ⟨g, off + i * 3 + 1, none⟩ = some (.int .i64 (l.getD i (0, 0, 0)).2.1) ∧ w.cell? ⟨g, off + i * 3 + 2, none⟩ = some (.int .i64 (l.getD i (0, 0, 0)).2.2))
theorem Rd3.at_ {w : World} {a : Option Addr} {n c : Nat} {l : List (Int × Int × Int)} (h : Rd3 w (.slice a n c) l) {i : Nat} (hi : i < l.length) : ∃ g off, a = some ⟨g, off, none⟩ ∧ w.cell? ⟨g, off + i * 3, none⟩ = some (.int .i64 (l.getD i (0, 0, 0)).1) ∧ w.cell? ⟨g, off + i * 3 + 1, none⟩ = some (.int .i64 (l.getD i (0, 0, 0)).2.1) ∧ w.cell? ⟨g, off + i * 3 + 2, none⟩ = some (.int .i64 (l.getD i (0, 0, 0)).2.2) := by
  obtain ⟨a', c', e, hc, hr⟩ := h
  injection e with e1 e2 e3
  subst e1
  rcases hr with h | ⟨g, off, ea, hcell⟩
  · rw [h] at hi; simp at hi
  · exact ⟨g, off, ea, hcell i hi⟩
theorem Rd3.below {w w1 : World} {v : Value} {l : List (Int × Int × Int)} (h : Rd3 w v l) (hb : Below w.heap.size w w1) : Rd3 w1 v l := by
  obtain ⟨a, c, e, hc, hr⟩ := h
  refine ⟨a, c, e, hc, ?_⟩
  rcases hr with h | ⟨g, off, ea, hcell⟩
  · exact .inl h
  · exact .inr ⟨g, off, ea, fun i hi => ⟨cell_below hb (hcell i hi).1, cell_below hb (hcell i hi).2.1, cell_below hb (hcell i hi).2.2⟩⟩
/-- A slice of structs of three numbers that is an argument, read. -/
theorem rd3_arg {H : Type} {enc : TypeId × Value → H} {P : Program} {W : World} {t e : TypeId} {f0 f1 f2 : Field} {v : Value} {d : DataW H} {p : List MemPlace} (ht : P.underlying t = some (.slice e)) (he : P.underlying e = some (.struct #[f0, f1, f2]))
    (ho : f0.offset = 0 ∧ f1.offset = 1 ∧ f2.offset = 2) (hk : P.cellsOf f0.type = 1 ∧ P.cellsOf f1.type = 1 ∧ P.cellsOf f2.type = 1) (h0 : P.underlying f0.type = some (.int .i64)) (h1 : P.underlying f1.type = some (.int .i64)) (h2 : P.underlying f2.type = some (.int .i64)) (hC : P.cellsOf e = 3)
    (hv : ∃ a len cap, v = .slice a len cap) (h : DataW.Trod enc P W 0 (fun _ => true) true t v d p) :
    ∃ l, Rd3 W v l ∧ (∀ x ∈ l, (Lit.int .i64 x.1).wf = true ∧ (Lit.int .i64 x.2.1).wf = true ∧ (Lit.int .i64 x.2.2).wf = true) ∧ l.length ≤ maxLen := by
  obtain ⟨a0, len0, cap0, rfl⟩ := hv
  obtain ⟨fuel, hf⟩ := h
  rcases open_slice ht hf with ⟨hcs, hx⟩ | ⟨a, len, cap, m, n, D, Pl, hcs, _, hl, hm, hmm, _, hi⟩
  · simp [Value.cells] at hcs
    obtain ⟨rfl, rfl, rfl⟩ := hcs
    exact ⟨[], ⟨none, 0, rfl, Nat.le_refl _, .inl rfl⟩, fun x hx => by simp at hx, by simp⟩
  · simp [Value.cells] at hcs
    obtain ⟨rfl, rfl, rfl⟩ := hcs
    simp only [if_true] at hmm
    subst hmm
    have each : ∀ i, ∃ x : Int × Int × Int, i < m → (W.cell? (a.add (i * 3)) = some (.int .i64 x.1) ∧ W.cell? ((a.add (i * 3)).add 1) = some (.int .i64 x.2.1) ∧ W.cell? ((a.add (i * 3)).add 2) = some (.int .i64 x.2.2)) ∧ (Lit.int .i64 x.1).wf = true ∧ (Lit.int .i64 x.2.1).wf = true ∧ (Lit.int .i64 x.2.2).wf = true := by
      intro i
      by_cases hic : i < m
      · obtain ⟨cs', hc, htr⟩ := hi i hic
        rw [hC] at hc
        obtain ⟨_, hlen, hat⟩ := World.cells?_some hc
        obtain ⟨y0, y1, y2, k, _, _, g0, g1, g2⟩ := trod_struct3 he htr
        match cs', hlen with
        | [c0, c1, c2], _ =>
          rw [ho.1, hk.1] at g0
          rw [ho.2.1, hk.2.1] at g1
          rw [ho.2.2, hk.2.2] at g2
          obtain ⟨z0, e0, _, w0⟩ := DataW.trod_int h0 g0
          obtain ⟨z1, e1, _, w1⟩ := DataW.trod_int h1 g1
          obtain ⟨z2, e2, _, w2⟩ := DataW.trod_int h2 g2
          simp at e0 e1 e2
          subst e0 e1 e2
          have a0 := hat 0 (by decide)
          have a1 := hat 1 (by decide)
          have a2 := hat 2 (by decide)
          have az : (a.add (i * 3)).add 0 = a.add (i * 3) := by unfold Addr.add; split <;> simp_all
          rw [az] at a0
          exact ⟨(z0, z1, z2), fun _ => ⟨⟨a0, a1, a2⟩, w0, w1, w2⟩⟩
      · exact ⟨(0, 0, 0), fun h => absurd h hic⟩
    obtain ⟨F, hF⟩ : ∃ F : Nat → Int × Int × Int, ∀ i, i < m → (W.cell? (a.add (i * 3)) = some (.int .i64 (F i).1) ∧ W.cell? ((a.add (i * 3)).add 1) = some (.int .i64 (F i).2.1) ∧ W.cell? ((a.add (i * 3)).add 2) = some (.int .i64 (F i).2.2)) ∧ (Lit.int .i64 (F i).1).wf = true ∧ (Lit.int .i64 (F i).2.1).wf = true ∧ (Lit.int .i64 (F i).2.2).wf = true :=
      ⟨fun i => (each i).choose, fun i => (each i).choose_spec⟩
    refine ⟨(List.range len0).map F, ⟨some a, m, by simp, by simpa using hl, ?_⟩, ?_, by simp; omega⟩
    · by_cases hz : len0 = 0
      · exact .inl (by subst hz; rfl)
      · obtain ⟨b, off, spot⟩ := a
        have hspot : spot = none := by
          have := World.cell?_spot (hF 0 (by omega)).1.1
          simpa [Addr.add] using this
        subst hspot
        refine .inr ⟨b, off, rfl, fun i hi => ?_⟩
        simp only [List.length_map, List.length_range] at hi
        have := (hF i (by omega)).1
        have ad : ∀ o j, (⟨b, o, none⟩ : Addr).add j = ⟨b, o + j, none⟩ := by intro o j; unfold Addr.add; split <;> simp_all
        rw [ad, ad, ad] at this
        have e : ((List.range len0).map F).getD i (0, 0, 0) = F i := by simp [List.getD_eq_getElem?_getD, hi]
        rw [e]
        exact this
    · intro x hx
      simp only [List.mem_map, List.mem_range] at hx
      obtain ⟨i, hi, rfl⟩ := hx
      exact (hF i (by omega)).2
theorem x_cells {w : World} {N : Nat} {k x y : Int} {T : TypeId} (h : w.heap[N]? = some (.cells #[.int .i64 k, .int .i64 x, .int .i64 y] T (0, 0))) : w.cell? ⟨N, 1, none⟩ = some (.int .i64 x) ∧ w.cell? ⟨N, 2, none⟩ = some (.int .i64 y) := by
  refine ⟨?_, ?_⟩ <;> (rw [cell_of_row _ _ _ _ _ _ h]; rfl)
end Go.Proofs.Yticjepfcgfdmgaa
