/- Heaps: plain. -/
namespace Go.Proofs.Ythigimmlhgdchaa
set_option linter.unusedVariables false
set_option linter.unusedSimpArgs false

abbrev Ev := Int × Int × Int
def lt3 (a b : Ev) : Bool := decide (a.1 < b.1) || (decide (a.1 = b.1) && decide (a.2.2 < b.2.2))
theorem lt3_iff (a b : Ev) : lt3 a b = true ↔ a.1 < b.1 ∨ (a.1 = b.1 ∧ a.2.2 < b.2.2) := by unfold lt3; simp
def le3 (a b : Ev) : Prop := a.1 < b.1 ∨ (a.1 = b.1 ∧ a.2.2 ≤ b.2.2)
theorem le3_of_not {a b : Ev} (h : lt3 b a = false) : le3 a b := by
  have : ¬ (lt3 b a = true) := by simp [h]
  rw [lt3_iff] at this
  unfold le3; omega
theorem le3_of {a b : Ev} (h : lt3 a b = true) : le3 a b := by rw [lt3_iff] at h; unfold le3; omega
theorem le3_refl (a : Ev) : le3 a a := by unfold le3; omega
theorem le3_trans {a b c : Ev} (h : le3 a b) (k : le3 b c) : le3 a c := by unfold le3 at *; omega
def ee : Ev := (0, 0, 0)
def ix (l : List Ev) (i : Nat) : Ev := l.getD i ee
def sw (l : List Ev) (i j : Nat) : List Ev := (l.set i (ix l j)).set j (ix l i)
theorem sw_len (l : List Ev) (i j : Nat) : (sw l i j).length = l.length := by simp [sw]
theorem ix_sw {l : List Ev} {i j : Nat} (hi : i < l.length) (hj : j < l.length) (k : Nat) : ix (sw l i j) k = if k = j then ix l i else if k = i then ix l j else ix l k := by
  unfold sw ix
  simp only [List.getD_eq_getElem?_getD, List.getElem?_set, List.length_set]
  by_cases h1 : k = j
  · subst h1; simp [hj]
  · by_cases h2 : k = i
    · subst h2; simp [h1, hi, Ne.symm h1]
    · simp [h1, h2, Ne.symm h1, Ne.symm h2]
/-- The lesser of an element's two beneath. -/
def kid (l : List Ev) (n i : Nat) : Nat := if 2 * i + 2 < n ∧ lt3 (ix l (2 * i + 2)) (ix l (2 * i + 1)) = true then 2 * i + 2 else 2 * i + 1
inductive Dn (n : Nat) : List Ev → Nat → List Ev → Prop
  | leaf {l : List Ev} {i : Nat} (h : n ≤ 2 * i + 1) : Dn n l i l
  | stay {l : List Ev} {i : Nat} (h : 2 * i + 1 < n) (k : lt3 (ix l (kid l n i)) (ix l i) = false) : Dn n l i l
  | step {l R : List Ev} {i : Nat} (h : 2 * i + 1 < n) (k : lt3 (ix l (kid l n i)) (ix l i) = true) (d : Dn n (sw l i (kid l n i)) (kid l n i) R) : Dn n l i R
theorem kid_cases (l : List Ev) (n i : Nat) : (kid l n i = 2 * i + 2 ∧ 2 * i + 2 < n ∧ lt3 (ix l (2 * i + 2)) (ix l (2 * i + 1)) = true) ∨ (kid l n i = 2 * i + 1 ∧ (2 * i + 2 < n → lt3 (ix l (2 * i + 2)) (ix l (2 * i + 1)) = false)) := by
  unfold kid
  by_cases h : 2 * i + 2 < n ∧ lt3 (ix l (2 * i + 2)) (ix l (2 * i + 1)) = true
  · rw [if_pos h]; exact .inl ⟨rfl, h.1, h.2⟩
  · rw [if_neg h]; refine .inr ⟨rfl, fun h1 => ?_⟩
    cases e : lt3 (ix l (2 * i + 2)) (ix l (2 * i + 1))
    · rfl
    · exact absurd ⟨h1, e⟩ h
theorem kid_right {l : List Ev} {n i : Nat} (h : 2 * i + 2 < n) (k : lt3 (ix l (2 * i + 2)) (ix l (2 * i + 1)) = true) : kid l n i = 2 * i + 2 := by
  unfold kid; rw [if_pos ⟨h, k⟩]
theorem kid_left {l : List Ev} {n i : Nat} (k : lt3 (ix l (2 * i + 2)) (ix l (2 * i + 1)) = false) : kid l n i = 2 * i + 1 := by
  unfold kid; rw [if_neg (by rw [k]; simp)]
theorem kid_one {l : List Ev} {n i : Nat} (h : ¬ 2 * i + 2 < n) : kid l n i = 2 * i + 1 := by
  unfold kid; rw [if_neg (fun x => h x.1)]
theorem kid_lt {l : List Ev} {n i : Nat} (h : 2 * i + 1 < n) : kid l n i < n ∧ i < kid l n i := by
  rcases kid_cases l n i with h1 | h1 <;> omega
theorem dn_total (n : Nat) : ∀ (f : Nat) (l : List Ev) (i : Nat), n - i ≤ f → ∃ R, Dn n l i R := by
  intro f
  induction f with
  | zero => intro l i h; exact ⟨l, .leaf (by omega)⟩
  | succ f ih =>
    intro l i h
    by_cases h1 : 2 * i + 1 < n
    · cases e : lt3 (ix l (kid l n i)) (ix l i)
      · exact ⟨l, .stay h1 e⟩
      · obtain ⟨R, hR⟩ := ih (sw l i (kid l n i)) (kid l n i) (by have := kid_lt (l := l) h1; omega)
        exact ⟨R, .step h1 e hR⟩
    · exact ⟨l, .leaf (by omega)⟩
theorem Dn.at_leaf {n : Nat} {l R : List Ev} {i : Nat} (h : Dn n l i R) (g : n ≤ 2 * i + 1) : R = l := by
  cases h with
  | leaf _ => rfl
  | stay _ _ => rfl
  | step h _ _ => omega
theorem Dn.at_stay {n : Nat} {l R : List Ev} {i : Nat} (h : Dn n l i R) (g : lt3 (ix l (kid l n i)) (ix l i) = false) : R = l := by
  cases h with
  | leaf _ => rfl
  | stay _ _ => rfl
  | step _ k _ => rw [g] at k; cases k
theorem Dn.at_step {n : Nat} {l R : List Ev} {i : Nat} (h : Dn n l i R) (g : 2 * i + 1 < n) (k : lt3 (ix l (kid l n i)) (ix l i) = true) : Dn n (sw l i (kid l n i)) (kid l n i) R := by
  cases h with
  | leaf _ => omega
  | stay _ k' => rw [k] at k'; cases k'
  | step _ _ d => exact d
theorem Dn.len {n : Nat} {l R : List Ev} {i : Nat} (h : Dn n l i R) : R.length = l.length := by
  induction h with
  | leaf _ => rfl
  | stay _ _ => rfl
  | step _ _ _ ih => rw [ih, sw_len]
/-- Ordered from lo on. -/
def Hp (l : List Ev) (lo n : Nat) : Prop := ∀ c, c < n → 1 ≤ c → lo ≤ (c - 1) / 2 → le3 (ix l ((c - 1) / 2)) (ix l c)
/-- Ordered but beneath i. -/
def Ho (l : List Ev) (lo n i : Nat) : Prop :=
  (∀ c, c < n → 1 ≤ c → lo ≤ (c - 1) / 2 → (c - 1) / 2 ≠ i → le3 (ix l ((c - 1) / 2)) (ix l c)) ∧ (1 ≤ i → lo ≤ (i - 1) / 2 → ∀ c, c < n → 1 ≤ c → (c - 1) / 2 = i → le3 (ix l ((i - 1) / 2)) (ix l c))
theorem kid_least {l : List Ev} {n i c : Nat} (hc : c < n) (h1 : 1 ≤ c) (hp : (c - 1) / 2 = i) : le3 (ix l (kid l n i)) (ix l c) := by
  have h2 : c = 2 * i + 1 ∨ c = 2 * i + 2 := by omega
  rcases kid_cases l n i with ⟨e, g, k⟩ | ⟨e, k⟩ <;> rw [e]
  · rcases h2 with rfl | rfl
    · exact le3_of k
    · exact le3_refl _
  · rcases h2 with rfl | rfl
    · exact le3_refl _
    · exact le3_of_not (k hc)
theorem Dn.heap {n lo : Nat} {l R : List Ev} {i : Nat} (h : Dn n l i R) : n ≤ l.length → lo ≤ i → Ho l lo n i → Hp R lo n := by
  induction h with
  | leaf h =>
    intro hn hlo ho c hc h1 hl
    exact ho.1 c hc h1 hl (by omega)
  | @stay l i h k =>
    intro hn hlo ho c hc h1 hl
    by_cases e : (c - 1) / 2 = i
    · rw [e]; exact le3_trans (le3_of_not k) (kid_least hc h1 e)
    · exact ho.1 c hc h1 hl e
  | @step l R i h k d ih =>
    intro hn hlo ho
    have hk := kid_lt (l := l) h
    have hp : (kid l n i - 1) / 2 = i := by rcases kid_cases l n i with h1 | h1 <;> omega
    have X := ix_sw (l := l) (i := i) (j := kid l n i) (by omega) (by omega)
    refine ih (by rw [sw_len]; exact hn) (by omega) ⟨?_, ?_⟩
    · intro c hc h1 hl hne
      rw [X, X]
      by_cases e1 : c = kid l n i
      · subst e1
        rw [if_neg (by omega), if_pos hp, if_pos rfl]
        exact le3_of k
      · by_cases e2 : c = i
        · subst e2
          rw [if_neg hne, if_neg (by omega), if_neg e1, if_pos rfl]
          exact ho.2 h1 hl _ hk.1 (by omega) hp
        · rw [if_neg hne, if_neg e1, if_neg e2]
          by_cases e3 : (c - 1) / 2 = i
          · rw [if_pos e3]; exact kid_least hc h1 e3
          · rw [if_neg e3]; exact ho.1 c hc h1 hl e3
    · intro h1 hl c hc hc1 hcp
      rw [X, X, hp, if_neg (by omega), if_pos rfl, if_neg (by omega), if_neg (by omega)]
      have := ho.1 c hc hc1 (by omega) (by omega)
      rw [hcp] at this
      exact this
/-- The first is the least. -/
theorem Hp.least {l : List Ev} {n : Nat} (h : Hp l 0 n) : ∀ (c : Nat), c < n → le3 (ix l 0) (ix l c) := by
  intro c
  induction c using Nat.strongRecOn with
  | ind c ih =>
    intro hc
    by_cases h0 : c = 0
    · subst h0; exact le3_refl _
    · exact le3_trans (ih ((c - 1) / 2) (by omega) (by omega)) (h c hc (by omega) (Nat.zero_le _))
theorem Hp.hole {l : List Ev} {n i : Nat} (h : Hp l (i + 1) n) : Ho l i n i := by
  refine ⟨fun c hc h1 hl hne => h c hc h1 (by omega), fun h1 hl => ?_⟩
  omega
theorem Hp.start (l : List Ev) (n : Nat) : Hp l (n / 2) n := by
  intro c hc h1 hl; omega
/-- The first and the last change places, and the last is left off. -/
theorem Hp.pop {l : List Ev} {n : Nat} (h : Hp l 0 (n + 1)) (hn : n + 1 ≤ l.length) : Ho (sw l 0 n) 0 n 0 := by
  have X := ix_sw (l := l) (i := 0) (j := n) (by omega) (by omega)
  refine ⟨fun c hc h1 hl hne => ?_, fun h1 => by omega⟩
  rw [X, X, if_neg (by omega), if_neg hne, if_neg (by omega), if_neg (by omega)]
  exact h c (by omega) h1 hl
theorem sw_perm {l : List Ev} {i j : Nat} (hi : i < l.length) (hj : j < l.length) : (sw l i j).Perm l := by
  have e : sw l i j = (l.toArray.swap i j (by simpa using hi) (by simpa using hj)).toList := by
    simp [sw, ix, Array.toList_swap, List.getD_eq_getElem?_getD, hi, hj]
  rw [e]
  have := Array.swap_perm (xs := l.toArray) (i := i) (j := j) (by simpa using hi) (by simpa using hj)
  exact this.toList
theorem Dn.perm {n : Nat} {l R : List Ev} {i : Nat} (h : Dn n l i R) : n ≤ l.length → R.Perm l := by
  induction h with
  | leaf _ => intro _; exact .refl _
  | stay _ _ => intro _; exact .refl _
  | @step l R i h k d ih =>
    intro hn
    have hk := kid_lt (l := l) h
    exact (ih (by rw [sw_len]; exact hn)).trans (sw_perm (by omega) (by omega))
/-- What lies behind n stays. -/
theorem Dn.behind {n : Nat} {l R : List Ev} {i : Nat} (h : Dn n l i R) : n ≤ l.length → ∀ k, n ≤ k → ix R k = ix l k := by
  induction h with
  | leaf _ => intro _ k _; rfl
  | stay _ _ => intro _ k _; rfl
  | @step l R i h k d ih =>
    intro hn m hm
    have hk := kid_lt (l := l) h
    rw [ih (by rw [sw_len]; exact hn) m hm, ix_sw (by omega) (by omega), if_neg (by omega), if_neg (by omega)]
end Go.Proofs.Ythigimmlhgdchaa
