/- BytesFinds: the plain law and the walk, over what Search answers. -/
import Derived.Test.YtocmgdolinajmaaDoorV
import Derived.Lib.Index
namespace Go.Proofs.YtocmgdolinajmaaDoor
set_option linter.unusedVariables false
set_option linter.unusedSimpArgs false
open Go.RowKit

/-- Where s first stands in l; -1: nowhere. -/
def idxI : List Int → List Int → Int
  | [], s => if s.isEmpty then 0 else -1
  | x :: l, s => if s.isPrefixOf (x :: l) then 0 else if idxI l s == -1 then -1 else idxI l s + 1
theorem byte_inj {x y : Int} (hx : 0 ≤ x ∧ x < 256) (hy : 0 ≤ y ∧ y < 256) : (UInt8.ofNat x.toNat == UInt8.ofNat y.toNat) = (x == y) := by
  rw [Bool.eq_iff_iff]
  simp only [beq_iff_eq]
  constructor
  · intro h
    have := congrArg UInt8.toNat h
    simp only [UInt8.toNat_ofNat'] at this
    omega
  · intro h; rw [h]
theorem prefix_bytes : ∀ (s l : List Int), Byt s → Byt l → (Lib.bytesOf s).isPrefixOf (Lib.bytesOf l) = s.isPrefixOf l
  | [], l, _, _ => by cases l <;> rfl
  | _ :: _, [], _, _ => rfl
  | y :: s, x :: l, hs, hl => by
    show ((UInt8.ofNat y.toNat == UInt8.ofNat x.toNat) && (Lib.bytesOf s).isPrefixOf (Lib.bytesOf l)) = ((y == x) && s.isPrefixOf l)
    rw [prefix_bytes s l (fun z hz => hs z (by simp [hz])) (fun z hz => hl z (by simp [hz])), byte_inj (hs y (by simp)) (hl x (by simp))]
theorem idx_bytes : ∀ (l s : List Int), Byt l → Byt s → Lib.index (Lib.bytesOf l) (Lib.bytesOf s) = idxI l s
  | [], s, _, _ => by cases s <;> rfl
  | x :: l, s, hl, hs => by
    have ih := idx_bytes l s (fun z hz => hl z (by simp [hz])) hs
    have hp := prefix_bytes s (x :: l) hs hl
    show (if (Lib.bytesOf s).isPrefixOf (Lib.bytesOf (x :: l)) then (0 : Int) else if Lib.index (Lib.bytesOf l) (Lib.bytesOf s) == -1 then -1 else Lib.index (Lib.bytesOf l) (Lib.bytesOf s) + 1) = _
    rw [hp, ih]
    rfl
theorem idxI_ge : ∀ (l s : List Int), idxI l s = -1 ∨ 0 ≤ idxI l s
  | [], s => by unfold idxI; split <;> omega
  | x :: l, s => by
    unfold idxI
    have := idxI_ge l s
    split
    · omega
    · split
      · exact .inl rfl
      · rename_i h
        have : ¬ idxI l s = -1 := by simpa using h
        omega
theorem prefix_take {s l : List Int} : s.isPrefixOf l = (l.take s.length == s) := by
  rw [Bool.eq_iff_iff, List.isPrefixOf_iff_prefix, beq_iff_eq, List.prefix_iff_eq_take]
  exact eq_comm
/-- At the i-th place, when nothing was found ahead. -/
def At (l s : List Int) (i : Nat) : Prop := idxI l s = if idxI (l.drop i) s = -1 then -1 else idxI (l.drop i) s + i
theorem at_0 (l s : List Int) : At l s 0 := by unfold At; rw [List.drop_zero]; split <;> omega
theorem at_yes {l s : List Int} {i : Nat} (h : At l s i) (hp : ((l.drop i).take s.length == s) = true) : idxI l s = i := by
  unfold At at h
  have : idxI (l.drop i) s = 0 := by
    rw [← prefix_take] at hp
    cases hd : l.drop i with
    | nil => rw [hd] at hp; cases s with
      | nil => rfl
      | cons => cases hp
    | cons x t => rw [hd] at hp; unfold idxI; rw [if_pos hp]
  rw [this] at h
  rw [h]; simp
theorem at_no {l s : List Int} {i : Nat} (h : At l s i) (hi : i < l.length) (hp : ((l.drop i).take s.length == s) = false) : At l s (i + 1) := by
  unfold At at h ⊢
  rw [← prefix_take] at hp
  rw [List.drop_eq_getElem_cons hi] at h hp
  have e : idxI (l[i] :: l.drop (i + 1)) s = if idxI (l.drop (i + 1)) s == -1 then -1 else idxI (l.drop (i + 1)) s + 1 := by
    rw [idxI, hp]; rfl
  rw [e] at h
  have g := idxI_ge (l.drop (i + 1)) s
  rw [h]
  by_cases hq : idxI (l.drop (i + 1)) s = -1
  · rw [hq]; rfl
  · rw [if_neg hq]
    have hb : (idxI (l.drop (i + 1)) s == -1) = false := by simpa using hq
    rw [hb]
    simp only [Bool.false_eq_true, if_false]
    rw [if_neg (by omega)]
    omega
theorem at_end {l s : List Int} {i : Nat} (h : At l s i) (hi : l.length < i + s.length) (hil : i ≤ l.length) : idxI l s = -1 := by
  unfold At at h
  have key : ∀ t : List Int, t.length < s.length → idxI t s = -1 := by
    intro t
    induction t with
    | nil => intro ht; unfold idxI; cases s with
      | nil => cases ht
      | cons => rfl
    | cons x t ih =>
      intro ht
      have hp : s.isPrefixOf (x :: t) = false := by
        rw [Bool.eq_false_iff]; intro hp
        have := (List.isPrefixOf_iff_prefix.1 hp).length_le
        omega
      rw [idxI, hp, ih (by simp at ht; omega)]; rfl
  rw [key (l.drop i) (by rw [List.length_drop]; omega)] at h
  rw [h]; rfl
/-- s[i:j]. -/
theorem Rd.mid {w : World} {k : IntKind} {g off n c : Nat} {l : List Int} (h : Rd w k (.slice (some ⟨g, off, none⟩) n c) l) {i m : Nat} (hm : i + m ≤ n) : Rd w k (.slice (some ⟨g, off + i, none⟩) m (c - i)) ((l.drop i).take m) := by
  obtain ⟨a', d, e, h1, h2⟩ := h
  injection e with e1 e2 e3
  subst e1 e2 e3
  have hl : ((l.drop i).take m).length = m := by rw [List.length_take, List.length_drop]; omega
  refine ⟨_, _, by rw [hl], by omega, ?_⟩
  rcases h2 with h | ⟨g', off', ea, hcl⟩
  · exact .inl (by rw [h]; simp)
  · injection ea with ea; injection ea with ea1 ea2
    subst ea1 ea2
    refine .inr ⟨g, off + i, rfl, fun j hj => ?_⟩
    rw [hl] at hj
    rw [Nat.add_assoc, hcl (i + j) (by omega)]
    simp [List.getD_eq_getElem?_getD, List.getElem?_take, hj]
def idxAt (l s : List Int) : Int := if idxI l s < 0 then 0 else idxI l s
end Go.Proofs.YtocmgdolinajmaaDoor
