/- What Substitute answers, plainly. -/
import Derived.Test.YtocmgdolinajmaaDoorIA
import Derived.Test.YtocmgdolinajmaaDoorJ
namespace Go.Proofs.YtocmgdolinajmaaDoor
set_option linter.unusedVariables false
set_option linter.unusedSimpArgs false
open Go.RowKit

/-- Pairs of a name and a text. -/
def Prs := List (List Int × List Int)
def findV (nm : List Int) : List (List Int × List Int) → Option (List Int)
  | [] => none
  | (n, t) :: r => if sameV n nm = true then some t else findV nm r
def subF (ls : List (List Int × List Int)) : Nat → List Int → List Int × Nat
  | 0, _ => ([], 0)
  | _ + 1, [] => ([], 0)
  | k + 1, x :: t =>
    if x ≠ 37 then (x :: (subF ls k t).1, (subF ls k t).2)
    else if idxB t 37 = -1 then (37 :: (subF ls k t).1, (subF ls k t).2)
    else if idxB t 37 = 0 then (37 :: (subF ls k (t.drop 1)).1, (subF ls k (t.drop 1)).2)
    else match findV (t.take (idxB t 37).toNat) ls with
      | some tx => (tx ++ (subF ls k (t.drop ((idxB t 37).toNat + 1))).1, (subF ls k (t.drop ((idxB t 37).toNat + 1))).2 + 1)
      | none => (37 :: t.take ((idxB t 37).toNat + 1) ++ (subF ls k (t.drop ((idxB t 37).toNat + 1))).1, (subF ls k (t.drop ((idxB t 37).toNat + 1))).2)
theorem subF_cons (ls : List (List Int × List Int)) (k : Nat) (x : Int) (t : List Int) : subF ls (k + 1) (x :: t) =
    (if x ≠ 37 then (x :: (subF ls k t).1, (subF ls k t).2)
    else if idxB t 37 = -1 then (37 :: (subF ls k t).1, (subF ls k t).2)
    else if idxB t 37 = 0 then (37 :: (subF ls k (t.drop 1)).1, (subF ls k (t.drop 1)).2)
    else match findV (t.take (idxB t 37).toNat) ls with
      | some tx => (tx ++ (subF ls k (t.drop ((idxB t 37).toNat + 1))).1, (subF ls k (t.drop ((idxB t 37).toNat + 1))).2 + 1)
      | none => (37 :: t.take ((idxB t 37).toNat + 1) ++ (subF ls k (t.drop ((idxB t 37).toNat + 1))).1, (subF ls k (t.drop ((idxB t 37).toNat + 1))).2)) := rfl
theorem subF_fuel (ls : List (List Int × List Int)) : ∀ (k k' : Nat) (s : List Int), s.length ≤ k → s.length ≤ k' → subF ls k s = subF ls k' s
  | 0, 0, s, _, _ => rfl
  | 0, k' + 1, s, h, _ => by
    obtain rfl : s = [] := List.eq_nil_of_length_eq_zero (by omega)
    rfl
  | k + 1, 0, s, _, h => by
    obtain rfl : s = [] := List.eq_nil_of_length_eq_zero (by omega)
    rfl
  | k + 1, k' + 1, [], _, _ => rfl
  | k + 1, k' + 1, x :: t, h, h' => by
    simp only [List.length_cons] at h h'
    have e0 := subF_fuel ls k k' t (by omega) (by omega)
    have e1 := fun n => subF_fuel ls k k' (t.drop n) (by rw [List.length_drop]; omega) (by rw [List.length_drop]; omega)
    show (if x ≠ 37 then _ else _) = (if x ≠ 37 then _ else _)
    rw [e0, e1, e1]
def sub (ls : List (List Int × List Int)) (s : List Int) : List Int × Nat := subF ls s.length s
section
variable (ls : List (List Int × List Int))
theorem sub_nil : sub ls [] = ([], 0) := rfl
theorem sub_char {x : Int} {t : List Int} (h : x ≠ 37) : sub ls (x :: t) = (x :: (sub ls t).1, (sub ls t).2) := by
  unfold sub
  rw [List.length_cons, subF_cons, if_pos h]
theorem sub_end {t : List Int} (h : idxB t 37 = -1) : sub ls (37 :: t) = (37 :: (sub ls t).1, (sub ls t).2) := by
  unfold sub
  rw [List.length_cons, subF_cons, if_neg (by decide), if_pos h]
theorem sub_drop (t : List Int) (n : Nat) : subF ls t.length (t.drop n) = subF ls (t.drop n).length (t.drop n) := subF_fuel ls _ _ _ (by rw [List.length_drop]; omega) (Nat.le_refl _)
theorem sub_two {t : List Int} (h : idxB t 37 = 0) : sub ls (37 :: t) = (37 :: (sub ls (t.drop 1)).1, (sub ls (t.drop 1)).2) := by
  unfold sub
  rw [List.length_cons, subF_cons, if_neg (by decide), if_neg (by omega), if_pos h, sub_drop]
theorem sub_name {t : List Int} {i : Nat} (h : idxB t 37 = i) (h0 : i ≠ 0) : sub ls (37 :: t) = (match findV (t.take i) ls with | some tx => (tx ++ (sub ls (t.drop (i + 1))).1, (sub ls (t.drop (i + 1))).2 + 1) | none => (37 :: t.take (i + 1) ++ (sub ls (t.drop (i + 1))).1, (sub ls (t.drop (i + 1))).2)) := by
  have hi : (idxB t 37).toNat = i := by omega
  unfold sub
  rw [List.length_cons, subF_cons, if_neg (by decide), if_neg (by omega), if_neg (by omega), hi, sub_drop]
theorem sub_plain : ∀ (a b : List Int), (∀ x ∈ a, x ≠ 37) → sub ls (a ++ b) = (a ++ (sub ls b).1, (sub ls b).2)
  | [], b, _ => rfl
  | x :: a, b, h => by
    rw [List.cons_append, sub_char ls (h x (by simp)), sub_plain a b (fun y hy => h y (by simp [hy]))]
    rfl
theorem sub_all {s : List Int} (h : ∀ x ∈ s, x ≠ 37) : sub ls s = (s, 0) := by
  have := sub_plain ls s [] h
  rwa [List.append_nil, sub_nil, List.append_nil] at this
theorem sub_last {t : List Int} (h : idxB t 37 = -1) (hn : ∀ x ∈ t, x ≠ 37) : sub ls (37 :: t) = (37 :: t, 0) := by
  rw [sub_end ls h, sub_all ls hn]
theorem find_len {nm : List Int} {N : Nat} : ∀ {ls : List (List Int × List Int)} {tx : List Int}, (∀ p ∈ ls, p.2.length ≤ N) → findV nm ls = some tx → tx.length ≤ N
  | (n, t) :: r, tx, h, hf => by
    unfold findV at hf
    split at hf
    · injection hf with hf
      rw [← hf]
      exact h _ (List.mem_cons_self ..)
    · exact find_len (fun p hp => h p (List.mem_cons_of_mem _ hp)) hf
theorem sub_len (h : ∀ p ∈ ls, p.2.length ≤ 400) : ∀ (n : Nat) (s : List Int), s.length ≤ n → (sub ls s).1.length ≤ 400 * s.length
  | _, [], _ => by rw [sub_nil]; simp
  | 0, x :: t, hn => by simp at hn
  | n + 1, x :: t, hn => by
    simp only [List.length_cons] at hn
    have ih := sub_len h n
    by_cases hx : x = 37
    · subst hx
      rcases idx_cases 37 t with ⟨h1, h2⟩ | ⟨i, h1, h2, h3, h4⟩
      · rw [sub_end ls h1]
        have := ih t (by omega)
        simp only [List.length_cons]
        omega
      · by_cases h0 : i = 0
        · subst h0
          rw [sub_two ls h1]
          have := ih (t.drop 1) (by rw [List.length_drop]; omega)
          rw [List.length_drop] at this
          simp only [List.length_cons]
          omega
        · rw [sub_name ls h1 h0]
          have g := ih (t.drop (i + 1)) (by rw [List.length_drop]; omega)
          rw [List.length_drop] at g
          cases hf : findV (t.take i) ls with
          | some tx =>
            have := find_len h hf
            simp only [List.length_append, List.length_cons]
            omega
          | none =>
            simp only [List.length_append, List.length_cons, List.length_take]
            omega
    · rw [sub_char ls hx]
      have := ih t (by omega)
      simp only [List.length_cons]
      omega
end
/-- What both sides answer. -/
def subV (ls : List (List Int × List Int)) (most : Int) (s : List Int) : List Int × Int := if most < 0 ∨ most < (sub ls s).1.length then ([], -78) else ((sub ls s).1, (sub ls s).2)
end Go.Proofs.YtocmgdolinajmaaDoor
