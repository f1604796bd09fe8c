/- Signs: the plain laws. -/
import Derived.Test.YtkifdppppihjcaaKY
namespace Go.Proofs.Ytkifdppppihjcaa.SF
set_option linter.unusedVariables false
set_option linter.unusedSimpArgs false

/-- Not a number only as the one that operations give. -/
def Cn (t : Nat) : Prop := nan t = true → t = NaN
theorem cn_of {t : Nat} (h : nan t = false) : Cn t := fun g => by rw [h] at g; cases g
theorem nan_sg {n : Bool} {p : Nat} (h : p ≤ 9218868437227405312) : nan (sg n p) = false := by
  unfold nan; rw [mag_sg (by omega)]; exact decide_eq_false (by omega)
theorem cn_pat (n : Bool) (m : Nat) (e : Int) (r : Bool) : Cn (sg n (pat m e r)) := cn_of (nan_sg (pat_le m e r))
theorem cn_mulV (a b : Nat) : Cn (mulV a b) := by
  unfold mulV mulF
  split
  · exact fun _ => rfl
  · split
    · exact cn_of (nan_sg (Nat.le_refl _))
    · exact cn_pat _ _ _ _
theorem cn_divV (a b : Nat) : Cn (divV a b) := by
  unfold divV divF quoV
  split
  · exact fun _ => rfl
  · split
    · exact cn_of (nan_sg (Nat.le_refl _))
    · split
      · exact cn_of (nan_sg (Nat.zero_le _))
      · exact cn_pat _ _ _ _
theorem nan_of_inf {a : Nat} (h : inf a = true) : nan a = false := by unfold inf at h; unfold nan; simp at h ⊢; omega
theorem cn_addV (a b : Nat) : Cn (addV a b) := by
  unfold addV
  split
  · exact fun _ => rfl
  · split
    · split
      · exact fun _ => rfl
      · rename_i h _; exact cn_of (nan_of_inf h)
    · split
      · rename_i h; exact cn_of (nan_of_inf h)
      · unfold addF packI
        split
        · exact cn_of (nan_sg (Nat.zero_le _))
        · split
          · exact cn_of (by decide)
          · exact cn_pat _ _ _ _
theorem cn_subV (a b : Nat) : Cn (subV a b) := cn_addV _ _
theorem neg_neg' {t : Nat} (ht : W t) (hc : Cn t) : negV (negV t) = t := by
  cases h : nan t
  · exact neg_neg ht h
  · rw [hc h, neg_nan nan_NaN, neg_nan nan_NaN]
theorem signed_neg {t x : Nat} (ht : W t) (hc : Cn t) (hx : nan x = false) : signedV t (negV x) = negV (signedV t x) := by
  unfold signedV
  rw [negV_ng hx]
  cases ng x
  · rfl
  · exact (neg_neg' ht hc).symm
theorem nan_neg {x : Nat} (h : nan x = false) : nan (negV x) = false := by
  have := (same_mag (negV_mag h)).1; rw [this]; exact h
theorem abs_neg {x : Nat} (h : nan x = false) : absV (negV x) = absV x := by
  rw [mag_absV (nan_neg h), mag_absV h, negV_mag h]
theorem atan_neg {x : Nat} (hx : W x) (h : nan x = false) (hs : W (subV HalfPi (atT (atB (atB (divV One (absV x)))))) ) (ht : W (atT (atB (atB (absV x))))) : atanV (negV x) = negV (atanV x) := by
  have e := same_mag (negV_mag h)
  unfold atanV atanG atanS
  rw [nan_neg h, h, e.2.2.1, e.2.1, abs_neg h]
  cases hz : zer x
  · cases hi : inf x
    · simp only [Bool.false_eq_true, if_false]
      split
      · exact signed_neg hs (cn_subV _ _) h
      · exact signed_neg ht (cn_mulV _ _) h
    · simp only [Bool.false_eq_true, if_false, if_true]
      exact signed_neg (by unfold W HalfPi; omega) (cn_of (by decide)) h
  · simp only [Bool.false_eq_true, if_false, if_true]
theorem atan_neg' {q : Nat} (hq : W q) (hc : Cn q) (hs : W (subV HalfPi (atT (atB (atB (divV One (absV q)))))) ) (ht : W (atT (atB (atB (absV q))))) : atanV (negV q) = negV (atanV q) := by
  cases h : nan q
  · exact atan_neg hq h hs ht
  · rw [hc h, neg_nan nan_NaN]
    rw [show atanV NaN = NaN by unfold atanV; rw [if_pos nan_NaN], neg_nan nan_NaN]
theorem sg_neg {s : Bool} {p : Nat} (h : p ≤ 9218868437227405312) : negV (sg s p) = sg (!s) p := by
  rw [negV_ok (nan_sg h), ng_sg (by omega), mag_sg (by omega)]
theorem bne_not (a b : Bool) : ((!a) != b) = !(a != b) := by cases a <;> cases b <;> rfl
theorem div_neg {a b : Nat} (h : nan a = false) : divV (negV a) b = negV (divV a b) := by
  have e := same_mag (negV_mag h)
  unfold divV divF quoV
  rw [nan_neg h, h, e.2.1, e.2.2.1, e.2.2.2.1, e.2.2.2.2, negV_ng h, bne_not]
  split
  · exact (neg_nan nan_NaN).symm
  · split
    · exact (sg_neg (Nat.le_refl _)).symm
    · split
      · exact (sg_neg (Nat.zero_le _)).symm
      · exact (sg_neg (pat_le _ _ _)).symm
theorem asin_neg {x : Nat} (hx : W x) (h : nan x = false) (WS : ∀ q, W (subV HalfPi (atT (atB (atB (divV One (absV q))))))) (WT : ∀ q, W (atT (atB (atB (absV q))))) (WD : ∀ a b, W (divV a b)) : asinV (negV x) = negV (asinV x) := by
  unfold asinV
  rw [nan_neg h, h, abs_neg h]
  simp only [Bool.false_eq_true, if_false]
  split
  · exact (neg_nan nan_NaN).symm
  · split
    · exact signed_neg (by unfold W HalfPi; omega) (cn_of (by decide)) h
    · unfold asinF
      rw [show subV One (negV x) = addV One x by unfold subV; rw [neg_neg hx h], show addV One (negV x) = subV One x from rfl, mulV_comm (addV One x), div_neg h]
      exact atan_neg' (WD _ _) (cn_divV _ _) (WS _) (WT _)
theorem cn_lnV {x : Nat} : Cn (lnV x) := by
  unfold lnV lnF lnT
  split
  · exact fun _ => rfl
  · split
    · exact fun _ => rfl
    · split
      · exact cn_of (by decide)
      · split
        · rename_i h; exact cn_of (nan_of_inf h)
        · split
          · exact cn_addV _ _
          · exact cn_addV _ _
theorem asinh_neg {x : Nat} (hx : W x) (h : nan x = false) (WL : ∀ q, W q → W (lnV q)) (WA : W (addV (absV x) (sqrtV (addV (mulV (absV x) (absV x)) One)))) : asinhV (negV x) = negV (asinhV x) := by
  have e := same_mag (negV_mag h)
  unfold asinhV
  rw [e.2.2.1, nan_neg h, h]
  cases zer x
  · simp only [Bool.false_eq_true, if_false]
    unfold asinhF
    rw [abs_neg h]
    exact signed_neg (WL _ WA) cn_lnV h
  · simp only [if_true]
theorem cosh_neg {x : Nat} (hx : W x) (h : nan x = false) : coshV (negV x) = coshV x := by
  unfold coshV
  rw [neg_neg hx h, addV_comm]
theorem atan_nan {x : Nat} (h : nan x = true) : atanV x = NaN := by unfold atanV; rw [if_pos h]
theorem exp_nan {x : Nat} (h : nan x = true) : expV x = NaN := by unfold expV; rw [if_pos h]
theorem cosh_nan {x : Nat} (h : nan x = true) : coshV x = NaN := by
  unfold coshV
  rw [exp_nan h, add_nan nan_NaN]
  unfold divV; rw [nan_NaN]; rfl
