/- The last character, plainly. -/
import Derived.Test.YtpkfkipnagajkaaDoorP
import Derived.Lib.SpaceU
import Derived.Shelf.Unicode.DecodeLast
namespace Go.Proofs.YtpkfkipnagajkaaDoor
set_option linter.unusedVariables false
set_option linter.unusedSimpArgs false
open Go.RowKit

def bkAt (l : List Int) (k : Nat) : Prop := k ≤ l.length ∧ (dec (l.drop (l.length - k))).2 = k
instance (l : List Int) (k : Nat) : Decidable (bkAt l k) := by unfold bkAt; exact inferInstance
def bkN (l : List Int) : Int := if bkAt l 1 then 1 else if bkAt l 2 then 2 else if bkAt l 3 then 3 else if bkAt l 4 then 4 else 0
def bkT (l : List Int) : Int := if bkN l = 0 then -77 else 0
theorem getD_dropI (l : List Int) (p k : Nat) : (l.drop p).getD k 0 = l.getD (p + k) 0 := by simp [List.getD, List.getElem?_drop]
theorem getD_over (l : List Int) (k : Nat) (h : l.length ≤ k) : l.getD k 0 = 0 := by simp [List.getD_eq_getElem?_getD, List.getElem?_eq_none h]
theorem one_iff (a b c d : Int) : (D4 1 a b c d).2 = 1 ↔ a < 128 := by
  rcases D4_cases 1 a b c d with h | ⟨g1, g2, h⟩ | ⟨g1, g2, h⟩ | ⟨g1, g2, h⟩ | ⟨g1, g2, h⟩
  · constructor
    · intro g; rw [h] at g; simp at g
    · intro g; unfold D4; rw [if_neg (by decide), if_pos g]
  · rw [h]; simp [g2]
  · unfold ok2 at g2; omega
  · unfold ok3 at g2; omega
  · unfold ok4 at g2; omega
theorem two_iff (a b c d : Int) : (D4 2 a b c d).2 = 2 ↔ ok2 2 a b := by
  rcases D4_cases 2 a b c d with h | ⟨g1, g2, h⟩ | ⟨g1, g2, h⟩ | ⟨g1, g2, h⟩ | ⟨g1, g2, h⟩
  · constructor
    · intro g; rw [h] at g; simp at g
    · intro g; unfold D4; rw [if_neg (by decide), if_neg (by unfold ok2 at g; omega), if_pos g]
  · rw [h]; simp; intro g; unfold ok2 at g; omega
  · rw [h]; simp [g2]
  · unfold ok3 at g2; omega
  · unfold ok4 at g2; omega
theorem three_iff (a b c d : Int) : (D4 3 a b c d).2 = 3 ↔ ok3 3 a b c := by
  rcases D4_cases 3 a b c d with h | ⟨g1, g2, h⟩ | ⟨g1, g2, h⟩ | ⟨g1, g2, h⟩ | ⟨g1, g2, h⟩
  · constructor
    · intro g; rw [h] at g; simp at g
    · intro g; unfold D4; rw [if_neg (by decide), if_neg (by unfold ok3 at g; omega), if_neg (fun h : ok2 3 a b => by unfold ok2 at h; unfold ok3 at g; omega), if_pos g]
  · rw [h]; simp; intro g; unfold ok3 at g; omega
  · rw [h]; simp; intro g; unfold ok3 at g; unfold ok2 at g2; omega
  · rw [h]; simp [g2]
  · unfold ok4 at g2; omega
theorem four_iff (a b c d : Int) : (D4 4 a b c d).2 = 4 ↔ ok4 4 a b c d := by
  rcases D4_cases 4 a b c d with h | ⟨g1, g2, h⟩ | ⟨g1, g2, h⟩ | ⟨g1, g2, h⟩ | ⟨g1, g2, h⟩
  · constructor
    · intro g; rw [h] at g; simp at g
    · intro g; unfold D4; rw [if_neg (by decide), if_neg (by unfold ok4 at g; omega), if_neg (fun h : ok2 4 a b => by unfold ok2 at h; unfold ok4 at g; omega), if_neg (fun h : ok3 4 a b c => by unfold ok3 at h; unfold ok4 at g; omega), if_pos g]
  · rw [h]; simp; intro g; unfold ok4 at g; omega
  · rw [h]; simp; intro g; unfold ok4 at g; unfold ok2 at g2; omega
  · rw [h]; simp; intro g; unfold ok4 at g; unfold ok3 at g2; omega
  · rw [h]; simp [g2]
theorem dec_suffix (l : List Int) (k : Nat) (hk : k ≤ l.length) : dec (l.drop (l.length - k)) = D4 k (l.getD (l.length - k) 0) (l.getD (l.length - k + 1) 0) (l.getD (l.length - k + 2) 0) (l.getD (l.length - k + 3) 0) := by
  unfold dec
  rw [List.length_drop, getD_dropI, getD_dropI, getD_dropI, getD_dropI, Nat.add_zero]
  congr 1
  omega
theorem at1 (l : List Int) (e : Nat) (h : l.length = e + 1) : bkAt l 1 ↔ l.getD e 0 < 128 := by
  unfold bkAt
  rw [dec_suffix l 1 (by omega), show l.length - 1 = e by omega]
  have := one_iff (l.getD e 0) (l.getD (e + 1) 0) (l.getD (e + 2) 0) (l.getD (e + 3) 0)
  constructor
  · intro g; exact this.1 g.2
  · intro g; exact ⟨by omega, this.2 g⟩
theorem at2 (l : List Int) (e : Nat) (h : l.length = e + 2) : bkAt l 2 ↔ ok2 2 (l.getD e 0) (l.getD (e + 1) 0) := by
  unfold bkAt
  rw [dec_suffix l 2 (by omega), show l.length - 2 = e by omega]
  have := two_iff (l.getD e 0) (l.getD (e + 1) 0) (l.getD (e + 2) 0) (l.getD (e + 3) 0)
  constructor
  · intro g; exact this.1 g.2
  · intro g; exact ⟨by omega, this.2 g⟩
theorem at3 (l : List Int) (e : Nat) (h : l.length = e + 3) : bkAt l 3 ↔ ok3 3 (l.getD e 0) (l.getD (e + 1) 0) (l.getD (e + 2) 0) := by
  unfold bkAt
  rw [dec_suffix l 3 (by omega), show l.length - 3 = e by omega]
  have := three_iff (l.getD e 0) (l.getD (e + 1) 0) (l.getD (e + 2) 0) (l.getD (e + 3) 0)
  constructor
  · intro g; exact this.1 g.2
  · intro g; exact ⟨by omega, this.2 g⟩
theorem at4 (l : List Int) (e : Nat) (h : l.length = e + 4) : bkAt l 4 ↔ ok4 4 (l.getD e 0) (l.getD (e + 1) 0) (l.getD (e + 2) 0) (l.getD (e + 3) 0) := by
  unfold bkAt
  rw [dec_suffix l 4 (by omega), show l.length - 4 = e by omega]
  have := four_iff (l.getD e 0) (l.getD (e + 1) 0) (l.getD (e + 2) 0) (l.getD (e + 3) 0)
  constructor
  · intro g; exact this.1 g.2
  · intro g; exact ⟨by omega, this.2 g⟩
theorem at_long (l : List Int) (k : Nat) (h : l.length < k) : ¬ bkAt l k := fun g => by unfold bkAt at g; omega
/-- A character whose last k bytes are whole: nothing else is. -/
theorem bkN_is (l : List Int) (k : Nat) (hk : 1 ≤ k ∧ k ≤ 4) (h : bkAt l k) (hno : ∀ j, 1 ≤ j → j < k → ¬ bkAt l j) : bkN l = k := by
  unfold bkN
  rcases (show k = 1 ∨ k = 2 ∨ k = 3 ∨ k = 4 by omega) with rfl | rfl | rfl | rfl
  · rw [if_pos h]; rfl
  · rw [if_neg (hno 1 (by decide) (by decide)), if_pos h]; rfl
  · rw [if_neg (hno 1 (by decide) (by decide)), if_neg (hno 2 (by decide) (by decide)), if_pos h]; rfl
  · rw [if_neg (hno 1 (by decide) (by decide)), if_neg (hno 2 (by decide) (by decide)), if_neg (hno 3 (by decide) (by decide)), if_pos h]; rfl
theorem bkN_zero (l : List Int) (h1 : ¬ bkAt l 1) (h2 : ¬ bkAt l 2) (h3 : ¬ bkAt l 3) (h4 : ¬ bkAt l 4) : bkN l = 0 := by
  unfold bkN; rw [if_neg h1, if_neg h2, if_neg h3, if_neg h4]
theorem bytesOf_drop (l : List Int) (k : Nat) : (Lib.bytesOf l).drop k = Lib.bytesOf (l.drop k) := by unfold Lib.bytesOf; rw [List.map_drop]
theorem runeStartB_co (l : List Int) (hb : Byt l) (i : Nat) : Lib.runeStartB ((Lib.bytesOf l).getD i 0) = true ↔ ¬ co (l.getD i 0) := by
  have e := bytesOf_getD l hb i
  have g := getD_byte l hb i
  unfold Lib.runeStartB co
  rw [bne_iff_ne]
  omega
theorem runeStartB_co' (l : List Int) (hb : Byt l) (i : Nat) : Lib.runeStartB ((Lib.bytesOf l).getD i 0) = false ↔ co (l.getD i 0) := by
  have := runeStartB_co l hb i
  cases h : Lib.runeStartB ((Lib.bytesOf l).getD i 0)
  · rw [h] at this
    exact ⟨fun _ => Decidable.byContradiction fun g => by simpa using this.2 g, fun _ => rfl⟩
  · rw [h] at this
    exact ⟨fun g => by simp at g, fun g => absurd g (this.1 rfl)⟩
/-- All but one are not. -/
theorem bk_one (l : List Int) (s k : Nat) (hk : 1 ≤ k ∧ k ≤ 4) (hs : s + k = l.length) (hno : ∀ j, 1 ≤ j → j ≤ 4 → j ≠ k → ¬ bkAt l j) :
    bkN l = if (dec (l.drop s)).2 = ((l.drop s).length : Int) then ((l.drop s).length : Int) else 0 := by
  have hl : (l.drop s).length = k := by rw [List.length_drop]; omega
  have hiff : bkAt l k ↔ (dec (l.drop s)).2 = (k : Int) := by
    unfold bkAt
    rw [show l.length - k = s by omega]
    exact ⟨fun h => h.2, fun h => ⟨by omega, h⟩⟩
  rw [hl]
  by_cases h : bkAt l k
  · rw [if_pos (hiff.1 h)]
    exact bkN_is l k hk h (fun j h1 h2 => hno j h1 (by omega) (by omega))
  · rw [if_neg (fun g => h (hiff.2 g))]
    refine bkN_zero l ?_ ?_ ?_ ?_
    · by_cases e : 1 = k
      · rw [e]; exact h
      · exact hno 1 (by omega) (by omega) e
    · by_cases e : 2 = k
      · rw [e]; exact h
      · exact hno 2 (by omega) (by omega) e
    · by_cases e : 3 = k
      · rw [e]; exact h
      · exact hno 3 (by omega) (by omega) e
    · by_cases e : 4 = k
      · rw [e]; exact h
      · exact hno 4 (by omega) (by omega) e
theorem no2 (l : List Int) (h : co (l.getD (l.length - 2) 0)) : ¬ bkAt l 2 := by
  intro g
  obtain ⟨e, he⟩ : ∃ e, l.length = e + 2 := ⟨l.length - 2, by have := g.1; omega⟩
  have := (at2 l e he).1 g
  rw [he, Nat.add_sub_cancel] at h
  unfold ok2 at this; unfold co at h; omega
theorem no3a (l : List Int) (h : co (l.getD (l.length - 3) 0)) : ¬ bkAt l 3 := by
  intro g
  obtain ⟨e, he⟩ : ∃ e, l.length = e + 3 := ⟨l.length - 3, by have := g.1; omega⟩
  have := (at3 l e he).1 g
  rw [he, Nat.add_sub_cancel] at h
  unfold ok3 at this; unfold co at h; omega
theorem no3b (l : List Int) (h : ¬ co (l.getD (l.length - 2) 0)) : ¬ bkAt l 3 := by
  intro g
  obtain ⟨e, he⟩ : ∃ e, l.length = e + 3 := ⟨l.length - 3, by have := g.1; omega⟩
  have := (at3 l e he).1 g
  rw [he, show e + 3 - 2 = e + 1 by omega] at h
  unfold ok3 at this; exact h this.2.2.2.1
theorem no4a (l : List Int) (h : co (l.getD (l.length - 4) 0)) : ¬ bkAt l 4 := by
  intro g
  obtain ⟨e, he⟩ : ∃ e, l.length = e + 4 := ⟨l.length - 4, by have := g.1; omega⟩
  have := (at4 l e he).1 g
  rw [he, Nat.add_sub_cancel] at h
  unfold ok4 at this; unfold co at h; omega
theorem no4b (l : List Int) (h : ¬ co (l.getD (l.length - 2) 0)) : ¬ bkAt l 4 := by
  intro g
  obtain ⟨e, he⟩ : ∃ e, l.length = e + 4 := ⟨l.length - 4, by have := g.1; omega⟩
  have := (at4 l e he).1 g
  rw [he, show e + 4 - 2 = e + 2 by omega] at h
  unfold ok4 at this; exact h this.2.2.2.2.1
theorem no4c (l : List Int) (h : ¬ co (l.getD (l.length - 3) 0)) : ¬ bkAt l 4 := by
  intro g
  obtain ⟨e, he⟩ : ∃ e, l.length = e + 4 := ⟨l.length - 4, by have := g.1; omega⟩
  have := (at4 l e he).1 g
  rw [he, show e + 4 - 3 = e + 1 by omega] at h
  unfold ok4 at this; exact h this.2.2.2.1
theorem no1 (l : List Int) (hx : ¬ l.getD (l.length - 1) 0 < 128) : ¬ bkAt l 1 := by
  intro g
  obtain ⟨e, he⟩ : ∃ e, l.length = e + 1 := ⟨l.length - 1, by have := g.1; omega⟩
  have := (at1 l e he).1 g
  rw [he, Nat.add_sub_cancel] at hx
  exact hx this
/-- From where the library's last decoding decodes: as far as the last characters go. -/
theorem bk_start (l : List Int) (hb : Byt l) (hne : l ≠ []) (hx : ¬ l.getD (l.length - 1) 0 < 128) :
    bkN l = if (dec (l.drop (Lib.lastStart (Lib.bytesOf l)))).2 = ((l.drop (Lib.lastStart (Lib.bytesOf l))).length : Int) then ((l.drop (Lib.lastStart (Lib.bytesOf l))).length : Int) else 0 := by
  have hlen : (Lib.bytesOf l).length = l.length := by unfold Lib.bytesOf; simp
  have h0 : 1 ≤ l.length := by
    rcases Nat.eq_zero_or_pos l.length with h | h
    · exact absurd (List.eq_nil_of_length_eq_zero h) hne
    · exact h
  have n1 := no1 l hx
  have cof := fun i => (runeStartB_co' l hb i).2
  have cot := fun i => (runeStartB_co l hb i).2
  by_cases e1 : l.length = 1
  · rw [Lib.lastStart_one _ (hlen.trans e1)]
    exact bk_one l 0 1 (by decide) (by omega) (fun j h1 h2 h3 => at_long l j (by omega))
  by_cases c2 : co (l.getD (l.length - 2) 0)
  · have n2 := no2 l c2
    by_cases e2 : l.length = 2
    · rw [e2] at c2
      rw [Lib.lastStart_two _ (hlen.trans e2) (cof 0 c2)]
      exact bk_one l 0 2 (by decide) (by omega) (fun j h1 h2 h3 => by
        rcases (show j = 1 ∨ j = 3 ∨ j = 4 by omega) with rfl | rfl | rfl
        · exact n1
        · exact at_long l 3 (by omega)
        · exact at_long l 4 (by omega))
    by_cases c3 : co (l.getD (l.length - 3) 0)
    · have n3 := no3a l c3
      by_cases e3 : l.length = 3
      · rw [e3] at c2 c3
        rw [Lib.lastStart_three _ (hlen.trans e3) (cof 1 c2) (cof 0 c3)]
        exact bk_one l 0 3 (by decide) (by omega) (fun j h1 h2 h3 => by
          rcases (show j = 1 ∨ j = 2 ∨ j = 4 by omega) with rfl | rfl | rfl
          · exact n1
          · exact n2
          · exact at_long l 4 (by omega))
      by_cases c4 : co (l.getD (l.length - 4) 0)
      · have n4 := no4a l c4
        by_cases e4 : l.length = 4
        · rw [e4] at c2 c3 c4
          rw [Lib.lastStart_four _ (hlen.trans e4) (cof 2 c2) (cof 1 c3) (cof 0 c4)]
          exact bk_one l 0 4 (by decide) (by omega) (fun j h1 h2 h3 => by
            rcases (show j = 1 ∨ j = 2 ∨ j = 3 by omega) with rfl | rfl | rfl
            · exact n1
            · exact n2
            · exact n3)
        · obtain ⟨m, hm⟩ : ∃ m, l.length = m + 5 := ⟨l.length - 5, by omega⟩
          rw [hm] at c2 c3 c4
          rw [Lib.lastStart_far _ m (hlen.trans hm) (cof (m + 3) c2) (cof (m + 2) c3) (cof (m + 1) c4)]
          have hl : (l.drop m).length = 5 := by rw [List.length_drop]; omega
          have dr := dec_range (l.drop m) (fun x hx => hb x (List.mem_of_mem_drop hx))
          rw [hl, if_neg (by omega), bkN_zero l n1 n2 n3 n4]
      · obtain ⟨m, hm⟩ : ∃ m, l.length = m + 4 := ⟨l.length - 4, by omega⟩
        rw [hm] at c2 c3 c4
        rw [Lib.lastStart_at4 _ m (hlen.trans hm) (cof (m + 2) c2) (cof (m + 1) c3) (cot m c4)]
        exact bk_one l m 4 (by decide) (by omega) (fun j h1 h2 h3 => by
          rcases (show j = 1 ∨ j = 2 ∨ j = 3 by omega) with rfl | rfl | rfl
          · exact n1
          · exact n2
          · exact n3)
    · have n4 := no4c l c3
      obtain ⟨m, hm⟩ : ∃ m, l.length = m + 3 := ⟨l.length - 3, by omega⟩
      rw [hm] at c2 c3
      rw [Lib.lastStart_at3 _ m (hlen.trans hm) (cof (m + 1) c2) (cot m c3)]
      exact bk_one l m 3 (by decide) (by omega) (fun j h1 h2 h3 => by
        rcases (show j = 1 ∨ j = 2 ∨ j = 4 by omega) with rfl | rfl | rfl
        · exact n1
        · exact n2
        · exact n4)
  · have n3 := no3b l c2
    have n4 := no4b l c2
    obtain ⟨m, hm⟩ : ∃ m, l.length = m + 2 := ⟨l.length - 2, by omega⟩
    rw [hm] at c2
    rw [Lib.lastStart_at2 _ m (hlen.trans hm) (cot m c2)]
    exact bk_one l m 2 (by decide) (by omega) (fun j h1 h2 h3 => by
      rcases (show j = 1 ∨ j = 3 ∨ j = 4 by omega) with rfl | rfl | rfl
      · exact n1
      · exact n3
      · exact n4)
/-- What the library's last decoder gives. -/
theorem decodeLastL_bk (l : List Int) (hb : Byt l) (hne : l ≠ []) :
    ((Lib.decodeLastL (Lib.bytesOf l)).1 = 65533 ∧ (Lib.decodeLastL (Lib.bytesOf l)).2 = 1 ∧ bkN l = 0) ∨
    (bkN l = ((Lib.decodeLastL (Lib.bytesOf l)).2 : Int) ∧ 1 ≤ (Lib.decodeLastL (Lib.bytesOf l)).2 ∧ (Lib.decodeLastL (Lib.bytesOf l)).2 ≤ 4 ∧ (Lib.decodeLastL (Lib.bytesOf l)).1 ≤ 1114111 ∧ ((Lib.decodeLastL (Lib.bytesOf l)).1 = 65533 → 2 ≤ (Lib.decodeLastL (Lib.bytesOf l)).2)) := by
  have hlen : (Lib.bytesOf l).length = l.length := by unfold Lib.bytesOf; simp
  have hne' : Lib.bytesOf l ≠ [] := fun h => hne (List.eq_nil_of_length_eq_zero (by rw [← hlen, h]; rfl))
  have h0 : 1 ≤ l.length := by
    rcases Nat.eq_zero_or_pos l.length with h | h
    · exact absurd (List.eq_nil_of_length_eq_zero h) hne
    · exact h
  have e := bytesOf_getD l hb (l.length - 1)
  unfold Lib.decodeLastL
  rw [if_neg hne', hlen]
  by_cases hx : l.getD (l.length - 1) 0 < 128
  · right
    rw [if_pos (by omega)]
    have hb1 : bkN l = 1 := by
      unfold bkN
      rw [if_pos ((at1 l (l.length - 1) (by omega)).2 hx)]
    exact ⟨hb1, Nat.le_refl _, show 1 ≤ 4 by decide, by simp only; omega, fun h => by simp only at h; omega⟩
  · rw [if_neg (by omega)]
    have bs := bk_start l hb hne hx
    have hlt : Lib.lastStart (Lib.bytesOf l) < l.length := by rw [← hlen]; exact Lib.lastStart_lt _ hne'
    obtain ⟨s, hs⟩ : ∃ s, Lib.lastStart (Lib.bytesOf l) = s := ⟨_, rfl⟩
    rw [hs] at bs hlt ⊢
    rw [bytesOf_drop]
    have hl : (l.drop s).length = l.length - s := by rw [List.length_drop]
    have hbt : Byt (l.drop s) := fun x hx => hb x (List.mem_of_mem_drop hx)
    have hnt : l.drop s ≠ [] := fun h => by rw [h] at hl; simp at hl; omega
    have dr := dec_range (l.drop s) hbt
    rcases decodeL_dec (l.drop s) hbt hnt with ⟨d1, d2, d3⟩ | ⟨d1, d2, d3⟩
    · left
      rw [d3] at bs
      rw [if_neg (by simp only; omega)] at bs
      simp only [d1, d2]
      split
      · exact ⟨d1, d2, bs⟩
      · exact ⟨rfl, rfl, bs⟩
    · rw [d1] at bs dr
      simp only at bs dr
      by_cases hc : s + (Lib.decodeL (Lib.bytesOf (l.drop s))).2 = l.length
      · right
        simp only [if_pos hc]
        rw [if_pos (by omega)] at bs
        exact ⟨by omega, d2, by omega, by omega, d3⟩
      · left
        simp only [if_neg hc]
        rw [if_neg (by omega)] at bs
        simp [bs, Utf8.runeError]
end Go.Proofs.YtpkfkipnagajkaaDoor
