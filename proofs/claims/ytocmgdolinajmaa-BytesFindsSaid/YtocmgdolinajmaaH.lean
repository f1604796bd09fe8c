/- A slice of numbers that is an argument: nil is nil. -/
import Derived.Test.YtocmgdolinajmaaG
import Derived.Test.YtocmgdolinajmaaShelf
namespace Go.Proofs.Ytocmgdolinajmaa
set_option linter.unusedVariables false
set_option linter.unusedSimpArgs false
open Go.RowKit Go.Shelf Go.ChangeShapes Go.WideShapes

def Sl (v : Value) : Prop := v = .slice none 0 0 ∨ ∃ ad n c, v = .slice (some ad) n c
theorem rd_arg2 {H : Type} {enc : TypeId × Value → H} {P : Program} {W : World} {t e : TypeId} {k : IntKind} {v : Value} {d : DataW H} {p : List MemPlace} (ht : P.underlying t = some (.slice e)) (he : P.underlying e = some (.int k)) (hc : P.cellsOf e = 1)
    (hv : ∃ a len cap, v = .slice a len cap) (h : DataW.Trod enc P W 0 (fun _ => true) true t v d p) : ∃ l, Sl v ∧ Rd W k v l ∧ (∀ x ∈ l, (Lit.int k x).wf = true) ∧ l.length ≤ maxLen := by
  obtain ⟨l, h1, h2, h3⟩ := rd_arg ht he hc hv h
  refine ⟨l, ?_, h1, h2, h3⟩
  obtain ⟨a0, len0, cap0, rfl⟩ := hv
  obtain ⟨fuel, hf⟩ := h
  rcases open_ints ht he hc hf with ⟨hcs, hx⟩ | ⟨a, len, cap, zs, hcs, _⟩
  · simp [Value.cells] at hcs
    obtain ⟨rfl, rfl, rfl⟩ := hcs
    exact .inl rfl
  · simp [Value.cells] at hcs
    obtain ⟨rfl, rfl, rfl⟩ := hcs
    exact .inr ⟨_, _, _, rfl⟩
theorem bindex_c (va vb : Value) (la lb : List Int) (w : World) (hsh : w.ShapedOpen Try.prog) (ha : Rd w .u8 va la) (hb : Rd w .u8 vb lb) (sa : Sl va) (sb : Sl vb) (ba : Byt la) (bb : Byt lb) (hla : la.length ≤ 400) (hlb : lb.length ≤ 400) :
    Calls Try.prog 27 #[va, vb] w fun e w' => e = .returned (.int .i64 (idxI la lb)) ∧ Below w.heap.size w w' := by
  obtain ⟨aa, ca, rfl⟩ := ha.len
  obtain ⟨ab, cb, rfl⟩ := hb.len
  have ecell : ∀ {a : Addr} {n c : Nat} {l : List Int}, Rd w .u8 (.slice (some a) n c) l → ∀ i, i < n → w.cell? (a.add i) = some (.int .u8 (l.getD i 0)) := by
    intro a n c l h i hi
    have hn : l.length = n := by obtain ⟨_, _, e, _⟩ := h; injection e with e1 e2 e3; exact e2.symm
    exact rd_cells h i _ (by rw [List.getElem?_map, List.getElem?_eq_getElem (by omega)]; simp [List.getD_eq_getElem?_getD, List.getElem?_eq_getElem (show i < l.length by omega)])
  cases ab with
  | none =>
    have hl : lb = [] := by
      obtain ⟨_, _, e, _, h⟩ := hb
      rcases h with h | ⟨g, off, h, _⟩
      · exact h
      · injection e with e1; rw [h] at e1; cases e1
    subst hl
    refine (Try.bytes_Index_none aa none la.length ca cb w).mono ?_
    rintro e w' ⟨rfl, rfl⟩
    exact ⟨by cases la <;> rfl, Below.refl _ _⟩
  | some ab =>
    cases aa with
    | none =>
      have hl : la = [] := by
        obtain ⟨_, _, e, _, h⟩ := ha
        rcases h with h | ⟨g, off, h, _⟩
        · exact h
        · injection e with e1; rw [h] at e1; cases e1
      subst hl
      have hca : ca = 0 := by
        rcases sa with h | ⟨ad, n, c, h⟩
        · injection h
        · injection h with h1; cases h1
      subst hca
      refine (Try.bytes_Index_nil (some ab) lb.length cb w (by omega) (fun h1 => ?_)).mono ?_
      · obtain ⟨g, off, e, hc⟩ := hb.at8 (i := 0) (by omega)
        exact ⟨g, off, _, e, by simpa using hc⟩
      · rintro e w' ⟨rfl, rfl⟩
        refine ⟨?_, Below.refl _ _⟩
        cases lb <;> rfl
    | some aa =>
      refine (Try.bytes_Index_at_shaped aa ab la.length ca lb.length cb la lb w rfl rfl ba bb (ecell ha) (ecell hb) ha.capge (by omega) (by omega) hsh).mono ?_
      rintro e w' ⟨rfl, q, rfl⟩
      exact ⟨by rw [idx_bytes la lb ba bb], below_drewN (Below.refl _ _) q⟩
theorem search_c (va vb : Value) (la lb : List Int) (w : World) (hsh : w.ShapedOpen Try.prog) (ha : Rd w .u8 va la) (hb : Rd w .u8 vb lb) (sa : Sl va) (sb : Sl vb) (ba : Byt la) (bb : Byt lb) (hla : la.length ≤ 400) (hlb : lb.length ≤ 400) :
    Calls Try.prog 18 #[va, vb] w fun e w' => e = .returned (.tuple #[.int .i64 (idxAt la lb), .bool (decide (0 ≤ idxI la lb))]) ∧ Below w.heap.size w w' := by
  have B := Lib.hid (bindex_c va vb la lb w hsh ha hb sa sb ba bb hla hlb)
  have G := idxI_ge la lb
  unfold idxAt
  obtain ⟨aa, ca, rfl⟩ := ha.len
  obtain ⟨ab, cb, rfl⟩ := hb.len
  obtain ⟨X, hX⟩ : ∃ X, idxI la lb = X := ⟨_, rfl⟩
  rw [hX] at B G ⊢
  clear ha hb sa sb ba bb hla hlb hX hsh
  rcases G with G | G
  · rw [if_pos (show X < 0 by omega), decide_eq_false (show ¬ 0 ≤ X by omega)]
    subst G
    go_enter Try.func18, Try.ntmps18
    go_wp2_with (go_at_call 27; (with_reducible refine (B.out).mono ?_); rintro e w1 ⟨rfl, hb1⟩)
    go_ret2
    exact ⟨rfl, hb1⟩
  · rw [if_neg (show ¬ X < 0 by omega), decide_eq_true (show 0 ≤ X by omega)]
    go_enter Try.func18, Try.ntmps18
    go_wp2_with (go_at_call 27; (with_reducible refine (B.out).mono ?_); rintro e w1 ⟨rfl, hb1⟩)
    go_ret2
    exact ⟨rfl, hb1⟩
theorem lfinds_walk (va vb : Value) (la lb : List Int) (w : World) (hsh : w.ShapedOpen Try.prog) (ha : Rd w .u8 va la) (hb : Rd w .u8 vb lb) (sa : Sl va) (sb : Sl vb) (ba : Byt la) (bb : Byt lb) :
    Calls Try.prog 7 #[va, vb] w fun e w' => e = .returned (.bool true) ∧ Below w.heap.size w w' := by
  by_cases hl : la.length ≤ 400 ∧ lb.length ≤ 400
  · have SE := search_c va vb la lb w hsh ha hb sa sb ba bb hl.1 hl.2
    by_cases h0 : 0 < lb.length
    · by_cases h1 : 0 < la.length
      · exact lfinds_s va vb la lb w ha hb ba bb hl.1 hl.2 h0 h1 (Lib.hid SE)
      · have e : la = [] := List.eq_nil_of_length_eq_zero (by omega)
        subst e
        obtain ⟨aa, ca, rfl⟩ := ha.len
        have i1 : idxI [] lb = -1 := by cases lb with
          | nil => cases h0
          | cons => rfl
        unfold idxAt at SE
        rw [i1] at SE
        exact lfinds_none aa ca vb lb w hb hl.2 h0 (Lib.hid SE)
    · have e : lb = [] := List.eq_nil_of_length_eq_zero (by omega)
      subst e
      have i1 : idxI la [] = 0 := by cases la <;> rfl
      unfold idxAt at SE
      rw [i1] at SE
      have hcap : ∃ aa ca, va = .slice aa la.length ca ∧ la.length ≤ ca := by
        obtain ⟨a, c, e, h, _⟩ := ha; exact ⟨a, c, e, h⟩
      obtain ⟨aa, ca, rfl, hca⟩ := hcap
      obtain ⟨ab, cb, rfl⟩ := hb.len
      refine lfinds_all aa la.length ca ab cb w hl.1 hca (fun h => ?_) (Lib.hid SE)
      rcases sa with h' | ⟨ad, n, c, h'⟩
      · injection h' with _ h2 h3; exact ⟨h2, h3⟩
      · injection h' with h1; rw [h] at h1; cases h1
  · obtain ⟨aa, ca, rfl⟩ := ha.len
    obtain ⟨ab, cb, rfl⟩ := hb.len
    exact lfinds_long _ _ aa ab ca cb w (by omega)
end Go.Proofs.Ytocmgdolinajmaa
