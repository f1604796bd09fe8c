/- A text with escapes, what it says: as a relation; the reference's Escape. -/
import Derived.Test.YtocmgdolinajmaaDoorR
namespace Go.Proofs.YtocmgdolinajmaaDoor
set_option linter.unusedVariables false
set_option linter.unusedSimpArgs false
open Go.RowKit

/-- From the i-th byte on, with what was said before: the end. -/
inductive Esc (l : List Int) : Nat → List Int → Option (List Int × Nat) → Prop
  | done {i : Nat} {out : List Int} (h : l.length ≤ i) : Esc l i out (some (out, i))
  | quote {i : Nat} {out : List Int} (h : i < l.length) (hc : l.getD i 0 = 34) : Esc l i out (some (out, i + 1))
  | char {i : Nat} {out : List Int} {R : Option (List Int × Nat)} (h : i < l.length) (h1 : l.getD i 0 ≠ 34) (h2 : l.getD i 0 ≠ 92) (k : Esc l (i + 1) (out ++ [l.getD i 0]) R) : Esc l i out R
  | bad {i : Nat} {out : List Int} (h : i < l.length) (hc : l.getD i 0 = 92) (ho : (oneV (l.drop (i + 1))).2 = 0) : Esc l i out none
  | esc {i : Nat} {out : List Int} {R : Option (List Int × Nat)} (h : i < l.length) (hc : l.getD i 0 = 92) (ho : (oneV (l.drop (i + 1))).2 ≠ 0) (k : Esc l (i + 1 + (oneV (l.drop (i + 1))).2) (out ++ (oneV (l.drop (i + 1))).1) R) : Esc l i out R
section
variable {l : List Int} {i : Nat} {out : List Int} {R : Option (List Int × Nat)}
theorem Esc.at_end (h : Esc l i out R) (hi : l.length ≤ i) : R = some (out, i) := by cases h <;> first | rfl | omega
theorem Esc.at_quote (h : Esc l i out R) (hi : i < l.length) (hc : l.getD i 0 = 34) : R = some (out, i + 1) := by
  cases h <;> first | rfl | omega | (exfalso; simp_all; done)
theorem Esc.at_char (h : Esc l i out R) (hi : i < l.length) (h1 : l.getD i 0 ≠ 34) (h2 : l.getD i 0 ≠ 92) : Esc l (i + 1) (out ++ [l.getD i 0]) R := by
  cases h <;> first | assumption | omega
theorem Esc.at_bad (h : Esc l i out R) (hi : i < l.length) (hc : l.getD i 0 = 92) (ho : (oneV (l.drop (i + 1))).2 = 0) : R = none := by
  cases h <;> first | rfl | omega
theorem Esc.at_esc (h : Esc l i out R) (hi : i < l.length) (hc : l.getD i 0 = 92) (ho : (oneV (l.drop (i + 1))).2 ≠ 0) : Esc l (i + 1 + (oneV (l.drop (i + 1))).2) (out ++ (oneV (l.drop (i + 1))).1) R := by
  cases h <;> first | assumption | omega
end
theorem one_120 (t : List Int) : oneV (120 :: t) = if 3 ≤ (120 :: t).length ∧ 0 ≤ hexV (t.getD 0 0) ∧ 0 ≤ hexV (t.getD 1 0) then ([16 * hexV (t.getD 0 0) + hexV (t.getD 1 0)], 3) else ([], 0) := rfl
def OneIs (s : List Int) (o : List Int × Nat) : Prop := o = ([], 0) ∨ (∃ x, 0 ≤ x ∧ x < 256 ∧ o = ([x], 1) ∧ 1 ≤ s.length) ∨ (o = ([13, 10], 1) ∧ 1 ≤ s.length) ∨ (∃ x, 0 ≤ x ∧ x < 256 ∧ o = ([x], 3) ∧ 3 ≤ s.length)
theorem one_is (s : List Int) : OneIs s (oneV s) := by
  cases s with
  | nil => exact .inl rfl
  | cons c t =>
    have hl : 1 ≤ (c :: t).length := by simp
    rcases one_letter c with rfl | rfl | rfl | rfl | rfl | rfl | rfl | rfl | rfl | rfl | rfl | rfl | rfl | rfl | rfl | h
    all_goals first
      | exact .inr (.inl ⟨_, by decide, by decide, rfl, hl⟩)
      | exact .inr (.inr (.inl ⟨rfl, hl⟩))
      | exact .inl (one_none h)
      | (rw [one_120]
         have r1 := hexV_range (t.getD 0 0)
         have r2 := hexV_range (t.getD 1 0)
         split
         · rename_i g; exact .inr (.inr (.inr ⟨_, by omega, by omega, rfl, g.1⟩))
         · exact .inl rfl)
theorem oneV_len (s : List Int) : (oneV s).2 ≤ s.length ∧ (oneV s).1.length ≤ 1 + (oneV s).2 ∧ (oneV s).2 ≤ 3 := by
  rcases one_is s with h | ⟨x, _, _, h, g⟩ | ⟨h, g⟩ | ⟨x, _, _, h, g⟩ <;> rw [h] <;> simp <;> omega
theorem oneV_byt (s : List Int) : Byt (oneV s).1 := by
  rcases one_is s with h | ⟨x, h1, h2, h, g⟩ | ⟨h, g⟩ | ⟨x, h1, h2, h, g⟩ <;> rw [h] <;> intro y hy <;> simp at hy <;> omega
theorem esc_total (l : List Int) : ∀ (d i : Nat) (out : List Int), l.length - i ≤ d → ∃ R, Esc l i out R := by
  intro d
  induction d with
  | zero => intro i out h; exact ⟨_, .done (by omega)⟩
  | succ d ih =>
    intro i out h
    by_cases hi : i < l.length
    · by_cases h1 : l.getD i 0 = 34
      · exact ⟨_, .quote hi h1⟩
      · by_cases h2 : l.getD i 0 = 92
        · by_cases ho : (oneV (l.drop (i + 1))).2 = 0
          · exact ⟨_, .bad hi h2 ho⟩
          · obtain ⟨R, hR⟩ := ih (i + 1 + (oneV (l.drop (i + 1))).2) (out ++ (oneV (l.drop (i + 1))).1) (by omega)
            exact ⟨R, .esc hi h2 ho hR⟩
        · obtain ⟨R, hR⟩ := ih (i + 1) (out ++ [l.getD i 0]) (by omega)
          exact ⟨R, .char hi h1 h2 hR⟩
    · exact ⟨_, .done (by omega)⟩
theorem byt_getD {l : List Int} (h : Byt l) (i : Nat) : 0 ≤ l.getD i 0 ∧ l.getD i 0 < 256 := by
  by_cases hi : i < l.length
  · rw [List.getD_eq_getElem?_getD, List.getElem?_eq_getElem hi]; exact h _ (List.getElem_mem hi)
  · rw [List.getD_eq_getElem?_getD, List.getElem?_eq_none (by omega)]; decide
theorem byt_snoc {l : List Int} {x : Int} (h : Byt l) (hx : 0 ≤ x ∧ x < 256) : Byt (l ++ [x]) := by
  intro y hy; rw [List.mem_append] at hy
  rcases hy with hy | hy
  · exact h y hy
  · rw [List.mem_singleton] at hy; rw [hy]; exact hx
theorem byt_app {a b : List Int} (ha : Byt a) (hb : Byt b) : Byt (a ++ b) := by
  intro y hy; rw [List.mem_append] at hy
  rcases hy with hy | hy
  · exact ha y hy
  · exact hb y hy
theorem Esc.facts {l : List Int} (hb : Byt l) {i : Nat} {out : List Int} {R : Option (List Int × Nat)} (h : Esc l i out R) (ho : Byt out) (hi : i ≤ l.length) (hl : out.length ≤ i) : ∀ o u, R = some (o, u) → Byt o ∧ u ≤ l.length ∧ o.length ≤ u := by
  induction h with
  | done h => intro o u e; simp at e; rw [← e.1, ← e.2]; exact ⟨ho, hi, hl⟩
  | quote h hc => intro o u e; simp at e; rw [← e.1, ← e.2]; exact ⟨ho, h, by omega⟩
  | char h h1 h2 k ih => exact ih (byt_snoc ho (byt_getD hb _)) h (by simp; exact hl)
  | bad h hc ho => intro o u e; cases e
  | @esc i out R h hc ho' k ih =>
    have a1 := oneV_len (l.drop (i + 1))
    rw [List.length_drop] at a1
    exact ih (byt_app ho (oneV_byt _)) (by omega) (by rw [List.length_append]; omega)
theorem ownsRow_same {w w' : World} {B e : Nat} {v : Value} {n : Nat} {xs : List Value} (h : w.ownsRow B e 1 v n xs) (hk : ∀ g, v.ownBlock = some g → w'.heap[g]? = w.heap[g]?) : w'.ownsRow B e 1 v n xs := by
  obtain ⟨h1, h2⟩ := h
  refine ⟨h1, ?_⟩
  rcases h2 with h2 | ⟨g, cap, cur, rfl, hb, hh, r⟩
  · exact .inl h2
  · exact .inr ⟨g, cap, cur, rfl, hb, (hk g rfl).trans hh, r⟩
theorem info_byte : (Tryd.prog.info? 5).map (fun i => (i.zero, i.size, i.bytes)) = some (some (.int .u8 0), 1, 1) := by kernel_rfl
/-- What Escape hands back. -/
def EscRes (R : Option (List Int × Nat)) (w : World) (e : Ending) (w' : World) : Prop :=
  Below w.heap.size w w' ∧ match R with
  | none => e = .returned (.tuple #[.slice none 0 0, .int .i64 0, .int .i64 (-24)])
  | some (o, u) => ∃ v, e = .returned (.tuple #[v, .int .i64 (u : Int), .int .i64 0]) ∧ Rd w' .u8 v o
theorem Rd.at8 {w : World} {k : IntKind} {a : Option Addr} {n c : Nat} {l : List Int} (h : Rd w k (.slice a n c) l) {i : Nat} (hi : i < l.length) : ∃ g off, a = some ⟨g, off, none⟩ ∧ w.cell? ⟨g, off + i, none⟩ = some (.int k (l.getD i 0)) := by
  obtain ⟨_, _, e, _, h⟩ := h
  injection e with e1 e2 e3
  rcases h with h | ⟨g, off, ea, hcl⟩
  · rw [h] at hi; simp at hi
  · exact ⟨g, off, e1.trans ea, hcl i hi⟩
/-- s[m:]. -/
theorem Rd.from_ {w : World} {k : IntKind} {a : Option Addr} {n c : Nat} {l : List Int} (h : Rd w k (.slice a n c) l) {m : Nat} (hm : m ≤ n) (g off : Nat) (ha : a = some ⟨g, off, none⟩) (a' : Option Addr) (ha' : m < c → a' = some ⟨g, off + m, none⟩) : Rd w k (.slice a' (n - m) (c - m)) (l.drop m) := by
  obtain ⟨a0, c0, e, hc, hr⟩ := h
  injection e with e1 e2 e3
  subst e1 e2 e3
  refine ⟨_, _, by rw [List.length_drop], by rw [List.length_drop]; omega, ?_⟩
  by_cases h0 : m < l.length
  · right
    rcases hr with h | ⟨g', off', h, hcl⟩
    · rw [h] at h0; cases h0
    · rw [ha] at h; injection h with h; injection h with h1 h2
      subst h1 h2
      refine ⟨g, off + m, ha' (by omega), fun i hi => ?_⟩
      rw [List.length_drop] at hi
      rw [Nat.add_assoc, hcl (m + i) (by omega)]
      simp [List.getD_eq_getElem?_getD]
  · left; exact List.drop_eq_nil_of_le (by omega)
end Go.Proofs.YtocmgdolinajmaaDoor
