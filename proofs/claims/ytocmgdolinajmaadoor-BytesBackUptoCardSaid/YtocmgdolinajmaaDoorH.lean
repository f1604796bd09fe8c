/- A slice of numbers that is an argument: nil is nil. -/
import Derived.Test.YtocmgdolinajmaaDoorF
import Derived.Test.YtocmgdolinajmaaDoorShelf
namespace Go.Proofs.YtocmgdolinajmaaDoor
set_option linter.unusedVariables false
set_option linter.unusedSimpArgs false
open Go.RowKit Go.Shelf Go.ChangeShapes Go.WideShapes

theorem Rd.capge {w : World} {k : IntKind} {a : Option Addr} {n c : Nat} {l : List Int} (h : Rd w k (.slice a n c) l) : n ≤ c := by
  obtain ⟨a', d, e, h1, h2⟩ := h
  injection e with e1 e2 e3
  omega
theorem rd_cells {w : World} {k : IntKind} {a : Addr} {n c : Nat} {l : List Int} (h : Rd w k (.slice (some a) n c) l) : ∀ j v, (l.map (Value.int k))[j]? = some v → w.cell? (a.add j) = some v := by
  obtain ⟨a', c', e, hc, hr⟩ := h
  injection e with e1 e2 e3
  subst e1
  intro j v hj
  rcases hr with h | ⟨g, off, h, hcl⟩
  · subst h; simp at hj
  · injection h with h
    subst h
    have hjl : j < l.length := by have := (List.getElem?_eq_some_iff.1 hj).1; simpa using this
    have := hcl j hjl
    rw [List.getElem?_map, List.getElem?_eq_getElem hjl] at hj
    simp at hj
    rw [← hj]
    have e1 : (⟨g, off, none⟩ : Addr).add j = ⟨g, off + j, none⟩ := by
      unfold Addr.add
      by_cases hj0 : j = 0
      · subst hj0; simp
      · simp [hj0]
    rw [e1, this]
    simp [List.getD_eq_getElem?_getD, List.getElem?_eq_getElem hjl]
def Sl (v : Value) : Prop := v = .slice none 0 0 ∨ ∃ ad n c, v = .slice (some ad) n c
theorem rd_arg2 {H : Type} {enc : TypeId × Value → H} {P : Program} {W : World} {t e : TypeId} {k : IntKind} {v : Value} {d : DataW H} {p : List MemPlace} (ht : P.underlying t = some (.slice e)) (he : P.underlying e = some (.int k)) (hc : P.cellsOf e = 1)
    (hv : ∃ a len cap, v = .slice a len cap) (h : DataW.Trod enc P W 0 (fun _ => true) true t v d p) : ∃ l, Sl v ∧ Rd W k v l ∧ (∀ x ∈ l, (Lit.int k x).wf = true) ∧ l.length ≤ maxLen := by
  obtain ⟨l, h1, h2, h3⟩ := rd_arg ht he hc hv h
  refine ⟨l, ?_, h1, h2, h3⟩
  obtain ⟨a0, len0, cap0, rfl⟩ := hv
  obtain ⟨fuel, hf⟩ := h
  rcases open_ints ht he hc hf with ⟨hcs, hx⟩ | ⟨a, len, cap, zs, hcs, _⟩
  · simp [Value.cells] at hcs
    obtain ⟨rfl, rfl, rfl⟩ := hcs
    exact .inl rfl
  · simp [Value.cells] at hcs
    obtain ⟨rfl, rfl, rfl⟩ := hcs
    exact .inr ⟨_, _, _, rfl⟩
theorem bindex_c (va vb : Value) (la lb : List Int) (w : World) (hsh : w.ShapedOpen Tryd.prog) (ha : Rd w .u8 va la) (hb : Rd w .u8 vb lb) (sa : Sl va) (sb : Sl vb) (ba : Byt la) (bb : Byt lb) (hla : la.length ≤ 400) (hlb : lb.length ≤ 400) :
    Calls Tryd.prog 24 #[va, vb] w fun e w' => e = .returned (.int .i64 (idxI la lb)) ∧ Below w.heap.size w w' := by
  obtain ⟨aa, ca, rfl⟩ := ha.len
  obtain ⟨ab, cb, rfl⟩ := hb.len
  have ecell : ∀ {a : Addr} {n c : Nat} {l : List Int}, Rd w .u8 (.slice (some a) n c) l → ∀ i, i < n → w.cell? (a.add i) = some (.int .u8 (l.getD i 0)) := by
    intro a n c l h i hi
    have hn : l.length = n := by obtain ⟨_, _, e, _⟩ := h; injection e with e1 e2 e3; exact e2.symm
    exact rd_cells h i _ (by rw [List.getElem?_map, List.getElem?_eq_getElem (by omega)]; simp [List.getD_eq_getElem?_getD, List.getElem?_eq_getElem (show i < l.length by omega)])
  cases ab with
  | none =>
    have hl : lb = [] := by
      obtain ⟨_, _, e, _, h⟩ := hb
      rcases h with h | ⟨g, off, h, _⟩
      · exact h
      · injection e with e1; rw [h] at e1; cases e1
    subst hl
    refine (Tryd.bytes_Index_none aa none la.length ca cb w).mono ?_
    rintro e w' ⟨rfl, rfl⟩
    exact ⟨by cases la <;> rfl, Below.refl _ _⟩
  | some ab =>
    cases aa with
    | none =>
      have hl : la = [] := by
        obtain ⟨_, _, e, _, h⟩ := ha
        rcases h with h | ⟨g, off, h, _⟩
        · exact h
        · injection e with e1; rw [h] at e1; cases e1
      subst hl
      have hca : ca = 0 := by
        rcases sa with h | ⟨ad, n, c, h⟩
        · injection h
        · injection h with h1; cases h1
      subst hca
      refine (Tryd.bytes_Index_nil (some ab) lb.length cb w (by omega) (fun h1 => ?_)).mono ?_
      · obtain ⟨g, off, e, hc⟩ := hb.at8 (i := 0) (by omega)
        exact ⟨g, off, _, e, by simpa using hc⟩
      · rintro e w' ⟨rfl, rfl⟩
        refine ⟨?_, Below.refl _ _⟩
        cases lb <;> rfl
    | some aa =>
      refine (Tryd.bytes_Index_at_shaped aa ab la.length ca lb.length cb la lb w rfl rfl ba bb (ecell ha) (ecell hb) ha.capge (by omega) (by omega) hsh).mono ?_
      rintro e w' ⟨rfl, q, rfl⟩
      exact ⟨by rw [idx_bytes la lb ba bb], below_drewN (Below.refl _ _) q⟩
theorem search_c (va vb : Value) (la lb : List Int) (w : World) (hsh : w.ShapedOpen Tryd.prog) (ha : Rd w .u8 va la) (hb : Rd w .u8 vb lb) (sa : Sl va) (sb : Sl vb) (ba : Byt la) (bb : Byt lb) (hla : la.length ≤ 400) (hlb : lb.length ≤ 400) :
    Calls Tryd.prog 12 #[va, vb] w fun e w' => e = .returned (.tuple #[.int .i64 (idxAt la lb), .bool (decide (0 ≤ idxI la lb))]) ∧ Below w.heap.size w w' := by
  have B := Lib.hid (bindex_c va vb la lb w hsh ha hb sa sb ba bb hla hlb)
  have G := idxI_ge la lb
  unfold idxAt
  obtain ⟨aa, ca, rfl⟩ := ha.len
  obtain ⟨ab, cb, rfl⟩ := hb.len
  obtain ⟨X, hX⟩ : ∃ X, idxI la lb = X := ⟨_, rfl⟩
  rw [hX] at B G ⊢
  clear ha hb sa sb ba bb hla hlb hX hsh
  rcases G with G | G
  · rw [if_pos (show X < 0 by omega), decide_eq_false (show ¬ 0 ≤ X by omega)]
    subst G
    go_enter Tryd.func12, Tryd.ntmps12
    go_wp2_with (go_at_call 24; (with_reducible refine (B.out).mono ?_); rintro e w1 ⟨rfl, hb1⟩)
    go_ret2
    exact ⟨rfl, hb1⟩
  · rw [if_neg (show ¬ X < 0 by omega), decide_eq_true (show 0 ≤ X by omega)]
    go_enter Tryd.func12, Tryd.ntmps12
    go_wp2_with (go_at_call 24; (with_reducible refine (B.out).mono ?_); rintro e w1 ⟨rfl, hb1⟩)
    go_ret2
    exact ⟨rfl, hb1⟩
end Go.Proofs.YtocmgdolinajmaaDoor
