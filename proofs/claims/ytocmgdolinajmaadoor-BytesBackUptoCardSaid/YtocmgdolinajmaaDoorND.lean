/- A list of pairs of byte slices as an argument, read; its bulk. -/
import Derived.Test.YtocmgdolinajmaaDoorNB
import Derived.Test.YtocmgdolinajmaaDoorRows
import Derived.Deep.Slices
namespace Go.Proofs.YtocmgdolinajmaaDoor
set_option linter.unusedVariables false
set_option linter.unusedSimpArgs false
open Go.RowKit Go.ChangeShapes Go.WideShapes Go.Deep

theorem bulk_one {H : Type} (d : DataW H) : 1 ≤ Rows.uptoBulk d := by
  cases d with
  | lit l => cases l <;> simp [Rows.uptoBulk]
  | nil => simp [Rows.uptoBulk]
  | ptr d => simp [Rows.uptoBulk]
  | slice elems spare => simp [Rows.uptoBulk]
  | agg parts => simp [Rows.uptoBulk]
  | iface t d => simp [Rows.uptoBulk]
  | map entries => simp [Rows.uptoBulk]
  | held h => simp [Rows.uptoBulk]
theorem bulk_len {H : Type} (l : List (DataW H)) : l.length ≤ Rows.uptoBulkAll l := by
  induction l with
  | nil => simp [Rows.uptoBulkAll]
  | cons x r ih => have := bulk_one x; simp only [Rows.uptoBulkAll, List.length_cons]; omega
theorem bulk_mem {H : Type} {d : DataW H} {l : List (DataW H)} (h : d ∈ l) : Rows.uptoBulk d ≤ Rows.uptoBulkAll l := by
  induction l with
  | nil => cases h
  | cons x r ih =>
    simp only [Rows.uptoBulkAll]
    rcases List.mem_cons.1 h with e | e
    · subst e; omega
    · have := ih e; omega
theorem bulk_tot {H : Type} (F : Nat → List Int × List Int) (D : Nat → DataW H) : ∀ l : List Nat, (∀ i ∈ l, 1 + (F i).1.length + (F i).2.length ≤ Rows.uptoBulk (D i)) → tot (l.map F) ≤ Rows.uptoBulkAll (l.map D)
  | [], _ => by simp [tot, Rows.uptoBulkAll]
  | i :: l, h => by
    have ih := bulk_tot F D l (fun j hj => h j (List.mem_cons_of_mem _ hj))
    have h0 := h i (List.mem_cons_self ..)
    simp only [List.map_cons, Rows.uptoBulkAll]
    unfold tot at ih ⊢
    simp only [List.map_cons, List.sum_cons]
    omega
theorem rd_field {H : Type} {enc : TypeId × Value → H} {P : Program} {W : World} {t e : TypeId} {c : Value} {y : DataW H × List MemPlace} {n : Nat} (ht : P.underlying t = some (.slice e)) (he : P.underlying e = some (.int .u8)) (hc : P.cellsOf e = 1)
    (h : DataW.trod enc P W 0 (fun _ => true) true n t [c] = some y) : ∃ l, Rd W .u8 c l ∧ Byt l ∧ l.length + 1 ≤ Rows.uptoBulk y.1 := by
  rcases open_ints ht he hc h with ⟨hcs, hx⟩ | ⟨a, len, cap, zs, hcs, _, hl, hm, hz, hx, hcell, hwz⟩
  · injection hcs with hcs
    subst hcs hx
    exact ⟨[], Rd.nil _ _ _, fun x hx => by simp at hx, by simp [Rows.uptoBulk]⟩
  · injection hcs with hcs
    subst hcs
    simp only [if_true] at hz
    have hlen : (zs.take len).length = len := by rw [List.length_take]; omega
    refine ⟨zs.take len, ⟨some a, cap, by rw [hlen], by omega, ?_⟩, byt_wf (fun x hx => hwz x (List.mem_of_mem_take hx)), ?_⟩
    · by_cases h0 : len = 0
      · exact .inl (by subst h0; simp)
      · obtain ⟨b, off, spot⟩ := a
        have hspot : spot = none := by simpa [Addr.add] using World.cell?_spot (hcell 0 (by omega))
        subst hspot
        refine .inr ⟨b, off, rfl, fun i hi => ?_⟩
        rw [hlen] at hi
        have := hcell i (by omega)
        rw [← add_plain, this]
        simp [List.getD_eq_getElem?_getD, List.getElem?_take, hi]
    · rw [hx]
      simp only [Rows.uptoBulk]
      have := bulk_len (lits (H := H) .u8 (zs.take len))
      simp only [lits, List.length_map] at this
      simp only [lits]
      omega
/-- A slice of pairs of byte slices that is an argument, read. -/
theorem prs_arg {H : Type} {enc : TypeId × Value → H} {P : Program} {W : World} {t e b : TypeId} {f0 f1 : Field} {v : Value} {d : DataW H} {p : List MemPlace} (ht : P.underlying t = some (.slice e)) (he : P.underlying e = some (.struct #[f0, f1]))
    (ho : f0.offset = 0 ∧ f1.offset = 1) (hk : P.cellsOf f0.type = 1 ∧ P.cellsOf f1.type = 1) (h0 : P.underlying f0.type = some (.slice b)) (h1 : P.underlying f1.type = some (.slice b)) (hb : P.underlying b = some (.int .u8)) (hb1 : P.cellsOf b = 1) (hC : P.cellsOf e = 2)
    (hv : ∃ a len cap, v = .slice a len cap) (h : DataW.Trod enc P W 0 (fun _ => true) true t v d p) :
    ∃ l, Pm W v l ∧ (∀ x ∈ l, Byt x.1 ∧ Byt x.2) ∧ tot l ≤ Rows.uptoBulk d := by
  obtain ⟨a0, len0, cap0, rfl⟩ := hv
  obtain ⟨fuel, hf⟩ := h
  rcases open_slice ht hf with ⟨hcs, hx⟩ | ⟨a, len, cap, m, n, D, Pl, hcs, _, hl, hm, hmm, hxd, hi⟩
  · simp [Value.cells] at hcs
    obtain ⟨rfl, rfl, rfl⟩ := hcs
    exact ⟨[], ⟨none, 0, rfl, Nat.le_refl _, .inl rfl⟩, fun x hx => by simp at hx, by simp [tot]⟩
  · simp [Value.cells] at hcs
    obtain ⟨rfl, rfl, rfl⟩ := hcs
    simp only [if_true] at hmm
    subst hmm
    have hd : d = .slice ((List.range len0).map D) ((List.range (m - len0)).map fun j => D (len0 + j)) := congrArg Prod.fst hxd
    have each : ∀ i, ∃ x : List Int × List Int, i < m → (∃ nv tv, W.cell? (a.add (i * 2)) = some nv ∧ W.cell? ((a.add (i * 2)).add 1) = some tv ∧ Rd W .u8 nv x.1 ∧ Rd W .u8 tv x.2) ∧ Byt x.1 ∧ Byt x.2 ∧ 1 + x.1.length + x.2.length ≤ Rows.uptoBulk (D i) := by
      intro i
      by_cases hic : i < m
      · obtain ⟨cs', hc, htr⟩ := hi i hic
        rw [hC] at hc
        obtain ⟨_, hlen, hat⟩ := World.cells?_some hc
        obtain ⟨y0, y1, k, hxx, _, g0, g1⟩ := trod_struct2 he htr
        match cs', hlen with
        | [c0, c1], _ =>
          rw [ho.1, hk.1] at g0
          rw [ho.2, hk.2] at g1
          obtain ⟨z0, r0, w0, u0⟩ := rd_field h0 hb hb1 g0
          obtain ⟨z1, r1, w1, u1⟩ := rd_field h1 hb hb1 g1
          have a0 := hat 0 (by decide)
          have a1 := hat 1 (by decide)
          have az : (a.add (i * 2)).add 0 = a.add (i * 2) := by unfold Addr.add; split <;> simp_all
          rw [az] at a0
          refine ⟨(z0, z1), fun _ => ⟨⟨c0, c1, a0, a1, r0, r1⟩, w0, w1, ?_⟩⟩
          have hdi : D i = .agg [y0.1, y1.1] := congrArg Prod.fst hxx
          rw [hdi]
          simp only [Rows.uptoBulk, Rows.uptoBulkAll]
          omega
      · exact ⟨([], []), fun h => absurd h hic⟩
    obtain ⟨F, hF⟩ : ∃ F : Nat → List Int × List Int, ∀ i, i < m → (∃ nv tv, W.cell? (a.add (i * 2)) = some nv ∧ W.cell? ((a.add (i * 2)).add 1) = some tv ∧ Rd W .u8 nv (F i).1 ∧ Rd W .u8 tv (F i).2) ∧ Byt (F i).1 ∧ Byt (F i).2 ∧ 1 + (F i).1.length + (F i).2.length ≤ Rows.uptoBulk (D i) :=
      ⟨fun i => (each i).choose, fun i => (each i).choose_spec⟩
    refine ⟨(List.range len0).map F, ⟨some a, m, by simp, by simpa using hl, ?_⟩, ?_, ?_⟩
    · by_cases hz : len0 = 0
      · exact .inl (by subst hz; rfl)
      · obtain ⟨b, off, spot⟩ := a
        have hspot : spot = none := by
          obtain ⟨nv, tv, h, _⟩ := (hF 0 (by omega)).1
          have := World.cell?_spot h
          simpa [Addr.add] using this
        subst hspot
        refine .inr ⟨b, off, rfl, fun i hi => ?_⟩
        simp only [List.length_map, List.length_range] at hi
        have := (hF i (by omega)).1
        have ad : ∀ o j, (⟨b, o, none⟩ : Addr).add j = ⟨b, o + j, none⟩ := by intro o j; unfold Addr.add; split <;> simp_all
        rw [ad, ad] at this
        have e : ((List.range len0).map F).getD i ([], []) = F i := by simp [List.getD_eq_getElem?_getD, hi]
        rw [e]
        exact this
    · intro x hx
      simp only [List.mem_map, List.mem_range] at hx
      obtain ⟨i, hi, rfl⟩ := hx
      exact ⟨(hF i (by omega)).2.1, (hF i (by omega)).2.2.1⟩
    · rw [hd]
      have := bulk_tot F D (List.range len0) (fun i hi => (hF i (by have := List.mem_range.1 hi; omega)).2.2.2)
      simp only [Rows.uptoBulk]
      omega
end Go.Proofs.YtocmgdolinajmaaDoor
