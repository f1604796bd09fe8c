/- A list of events that is an argument. -/
import Derived.Test.YthigimmlhgdchaaZ
import Derived.ChangeSame
import Derived.Deep.Slices
namespace Go.Proofs.Ythigimmlhgdchaa
set_option linter.unusedVariables false
set_option linter.unusedSimpArgs false
open Go.RowKit Go.ChangeShapes Go.WideShapes Go.Deep

/-- A slice of structs of two numbers that is an argument, read. -/
theorem evs_arg {H : Type} {enc : TypeId × Value → H} {P : Program} {W : World} {t e : TypeId} {f0 f1 : Field} {v : Value} {d : DataW H} {p : List MemPlace} (ht : P.underlying t = some (.slice e)) (he : P.underlying e = some (.struct #[f0, f1]))
    (ho : f0.offset = 0 ∧ f1.offset = 1) (hk : P.cellsOf f0.type = 1 ∧ P.cellsOf f1.type = 1) (h0 : P.underlying f0.type = some (.int .i64)) (h1 : P.underlying f1.type = some (.int .i64)) (hC : P.cellsOf e = 2)
    (hv : ∃ a len cap, v = .slice a len cap) (h : DataW.Trod enc P W 0 (fun _ => true) true t v d p) :
    ∃ l, Evs W v l ∧ (∀ x ∈ l, (Lit.int .i64 x.1).wf = true ∧ (Lit.int .i64 x.2).wf = true) ∧ l.length ≤ maxLen := by
  obtain ⟨a0, len0, cap0, rfl⟩ := hv
  obtain ⟨fuel, hf⟩ := h
  rcases open_slice ht hf with ⟨hcs, hx⟩ | ⟨a, len, cap, m, n, D, Pl, hcs, _, hl, hm, hmm, _, hi⟩
  · simp [Value.cells] at hcs
    obtain ⟨rfl, rfl, rfl⟩ := hcs
    exact ⟨[], ⟨none, 0, rfl, Nat.le_refl _, .inl rfl⟩, fun x hx => by simp at hx, by simp⟩
  · simp [Value.cells] at hcs
    obtain ⟨rfl, rfl, rfl⟩ := hcs
    simp only [if_true] at hmm
    subst hmm
    have each : ∀ i, ∃ x : Int × Int, i < m → (W.cell? (a.add (i * 2)) = some (.int .i64 x.1) ∧ W.cell? ((a.add (i * 2)).add 1) = some (.int .i64 x.2)) ∧ (Lit.int .i64 x.1).wf = true ∧ (Lit.int .i64 x.2).wf = true := by
      intro i
      by_cases hic : i < m
      · obtain ⟨cs', hc, htr⟩ := hi i hic
        rw [hC] at hc
        obtain ⟨_, hlen, hat⟩ := World.cells?_some hc
        obtain ⟨y0, y1, k, _, _, g0, g1⟩ := trod_struct2 he htr
        match cs', hlen with
        | [c0, c1], _ =>
          rw [ho.1, hk.1] at g0
          rw [ho.2, hk.2] at g1
          obtain ⟨z0, e0, _, w0⟩ := DataW.trod_int h0 g0
          obtain ⟨z1, e1, _, w1⟩ := DataW.trod_int h1 g1
          simp at e0 e1
          subst e0 e1
          have a0 := hat 0 (by decide)
          have a1 := hat 1 (by decide)
          have az : (a.add (i * 2)).add 0 = a.add (i * 2) := by unfold Addr.add; split <;> simp_all
          rw [az] at a0
          exact ⟨(z0, z1), fun _ => ⟨⟨a0, a1⟩, w0, w1⟩⟩
      · exact ⟨(0, 0), fun h => absurd h hic⟩
    obtain ⟨F, hF⟩ : ∃ F : Nat → Int × Int, ∀ i, i < m → (W.cell? (a.add (i * 2)) = some (.int .i64 (F i).1) ∧ W.cell? ((a.add (i * 2)).add 1) = some (.int .i64 (F i).2)) ∧ (Lit.int .i64 (F i).1).wf = true ∧ (Lit.int .i64 (F i).2).wf = true :=
      ⟨fun i => (each i).choose, fun i => (each i).choose_spec⟩
    refine ⟨(List.range len0).map F, ⟨some a, m, by simp, by simpa using hl, ?_⟩, ?_, by simp; omega⟩
    · by_cases hz : len0 = 0
      · exact .inl (by subst hz; rfl)
      · obtain ⟨b, off, spot⟩ := a
        have hspot : spot = none := by
          have := World.cell?_spot (hF 0 (by omega)).1.1
          simpa [Addr.add] using this
        subst hspot
        refine .inr ⟨b, off, rfl, fun i hi => ?_⟩
        simp only [List.length_map, List.length_range] at hi
        have := (hF i (by omega)).1
        have ad : ∀ o j, (⟨b, o, none⟩ : Addr).add j = ⟨b, o + j, none⟩ := by intro o j; unfold Addr.add; split <;> simp_all
        rw [ad, ad] at this
        have e : ((List.range len0).map F).getD i (0, 0) = F i := by simp [List.getD_eq_getElem?_getD, hi]
        rw [e]
        exact this
    · intro x hx
      simp only [List.mem_map, List.mem_range] at hx
      obtain ⟨i, hi, rfl⟩ := hx
      exact (hF i (by omega)).2
end Go.Proofs.Ythigimmlhgdchaa
