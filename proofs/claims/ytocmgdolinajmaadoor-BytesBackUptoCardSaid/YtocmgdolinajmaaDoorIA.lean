/- Same: the plain part. -/
import Derived.Test.YtocmgdolinajmaaDoorV
namespace Go.Proofs.YtocmgdolinajmaaDoor
set_option linter.unusedVariables false
set_option linter.unusedSimpArgs false
open Go.RowKit

def foldV (c : Int) : Int := if 97 ≤ c ∧ c ≤ 122 then c - 32 else c
def sameV (a b : List Int) : Bool := a.map lowV == b.map lowV
theorem low_fold (x y : Int) : lowV x = lowV y ↔ foldV x = foldV y := by
  unfold lowV foldV
  split <;> split <;> split <;> split <;> omega
theorem same_len {a b : List Int} (h : a.length ≠ b.length) : sameV a b = false := by
  unfold sameV
  rw [beq_eq_false_iff_ne]
  intro e
  have := congrArg List.length e
  simp at this
  exact h this
theorem same_diff {a b : List Int} {i : Nat} (ha : i < a.length) (hb : i < b.length) (h : lowV (a.getD i 0) ≠ lowV (b.getD i 0)) : sameV a b = false := by
  unfold sameV
  rw [beq_eq_false_iff_ne]
  intro e
  have := congrArg (fun l : List Int => l[i]?) e
  simp [List.getElem?_map, List.getElem?_eq_getElem ha, List.getElem?_eq_getElem hb] at this
  apply h
  simpa [List.getD_eq_getElem?_getD, List.getElem?_eq_getElem ha, List.getElem?_eq_getElem hb] using this
theorem same_all {a b : List Int} (hl : a.length = b.length) (h : ∀ i, i < a.length → lowV (a.getD i 0) = lowV (b.getD i 0)) : sameV a b = true := by
  unfold sameV
  rw [beq_iff_eq]
  apply List.ext_getElem (by simpa using hl)
  intro i h1 h2
  simp at h1 h2
  have := h i h1
  simpa [List.getD_eq_getElem?_getD, List.getElem?_eq_getElem h1, List.getElem?_eq_getElem h2] using this
theorem fold_c (c : Int) (h0 : 0 ≤ c) (h1 : c < 256) (w : World) : Calls Tryd.prog 27 #[.int .u8 c] w fun e w' => e = .returned (.int .u8 (foldV c)) ∧ w = w' := by
  by_cases h2 : 97 ≤ c
  · by_cases h3 : c ≤ 122
    · have e : foldV c = c - 32 := by unfold foldV; rw [if_pos ⟨h2, h3⟩]
      rw [e]
      go_enter Tryd.func27, Tryd.ntmps27
      go_wp2
      go_ret
      exact ⟨ret1 (by omega), rfl⟩
    · have e : foldV c = c := by unfold foldV; rw [if_neg (fun h => h3 h.2)]
      rw [e]
      go_enter Tryd.func27, Tryd.ntmps27
      go_wp2
      go_ret
      exact ⟨rfl, rfl⟩
  · have e : foldV c = c := by unfold foldV; rw [if_neg (fun h => h2 h.1)]
    rw [e]
    go_enter Tryd.func27, Tryd.ntmps27
    go_wp2
    go_ret
    exact ⟨rfl, rfl⟩
theorem quiet_left {P : Program} {f : FuncId} {args : Array Value} {w : World} {n : Nat} {v : Value}
    (h : Calls P f args (w.drewN n) fun e w' => e = .returned v ∧ w.drewN n = w') : Calls P f args (w.drewN n) fun e w' => e = .returned v ∧ ∃ m, w' = w.drewN m :=
  h.mono fun _ _ ⟨h1, h2⟩ => ⟨h1, n, h2.symm⟩
theorem quiet_more {P : Program} {f : FuncId} {args : Array Value} {w : World} {d n : Nat} {v : Value}
    (h : Calls P f args (w.drewN (d + n)) fun e w' => e = .returned v ∧ w.drewN (d + n) = w') : Calls P f args (w.drewN (d + n)) fun e w' => e = .returned v ∧ ∃ m, w' = w.drewN (d + m) :=
  h.mono fun _ _ ⟨h1, h2⟩ => ⟨h1, n, h2.symm⟩
theorem Rd.at_ {w : World} {k : IntKind} {a : Option Addr} {n c : Nat} {l : List Int} (h : Rd w k (.slice a n c) l) {i : Nat} (hi : i < l.length) : ∃ g off, a = some ⟨g, off, none⟩ ∧ w.cell? ⟨g, off + i, none⟩ = some (.int k (l.getD i 0)) := by
  obtain ⟨_, _, e, _, h⟩ := h
  injection e with e1 e2 e3
  rcases h with h | ⟨g, off, ea, hcl⟩
  · rw [h] at hi; simp at hi
  · exact ⟨g, off, e1.trans ea, hcl i hi⟩
theorem byt_at {l : List Int} (h : Byt l) {i : Nat} (hi : i < l.length) : 0 ≤ l.getD i 0 ∧ l.getD i 0 < 256 := by
  have := h l[i] (List.getElem_mem hi)
  simpa [List.getD_eq_getElem?_getD, List.getElem?_eq_getElem hi] using this
end Go.Proofs.YtocmgdolinajmaaDoor
