/- Floats as exact numbers, rounded once: plainly (5). -/
import Derived.Test.YtecgkhijiogggaaS4
namespace Go.Proofs.Ytecgkhijiogggaa.SF
set_option linter.unusedVariables false
set_option linter.unusedSimpArgs false

/-- A float's size in the least units. -/
def vl (a : Nat) : Nat := sm a * 2 ^ (se a + 1074).toNat
def vi (a : Nat) : Int := if ng a then -(vl a : Int) else (vl a : Int)
theorem vl_mono {a b : Nat} (h : mag a ≤ mag b) : vl a ≤ vl b := by
  have hf : ∀ x, fr x = mag x % 4503599627370496 := fun x => by unfold fr mag; omega
  have hx : ∀ x, ex x = mag x / 4503599627370496 := fun x => rfl
  have fa := hf a; have fb := hf b; have xa := hx a; have xb := hx b
  unfold vl sm se
  by_cases g1 : ex a = 0
  · rw [if_pos g1, if_pos g1]
    by_cases g2 : ex b = 0
    · rw [if_pos g2, if_pos g2]
      exact Nat.mul_le_mul_right _ (by omega)
    · rw [if_neg g2, if_neg g2]
      calc fr a * 2 ^ (-1074 + 1074 : Int).toNat ≤ (fr b + 4503599627370496) * 1 := by
            show fr a * 1 ≤ _
            omega
        _ ≤ _ := Nat.mul_le_mul_left _ (pow_pos _)
  · rw [if_neg g1, if_neg g1]
    have g2 : ex b ≠ 0 := by omega
    rw [if_neg g2, if_neg g2]
    rcases Nat.lt_trichotomy (ex a) (ex b) with c | c | c
    · obtain ⟨k, hk⟩ : ∃ k, ((ex b : Int) - 1075 + 1074).toNat = ((ex a : Int) - 1075 + 1074).toNat + 1 + k := ⟨ex b - ex a - 1, by omega⟩
      rw [hk, Nat.pow_add, Nat.pow_succ]
      calc (fr a + 4503599627370496) * 2 ^ ((ex a : Int) - 1075 + 1074).toNat ≤ 9007199254740992 * 2 ^ ((ex a : Int) - 1075 + 1074).toNat := Nat.mul_le_mul_right _ (by omega)
        _ = 4503599627370496 * (2 ^ ((ex a : Int) - 1075 + 1074).toNat * 2 * 1) := by omega
        _ ≤ (fr b + 4503599627370496) * (2 ^ ((ex a : Int) - 1075 + 1074).toNat * 2 * 2 ^ k) := Nat.mul_le_mul (by omega) (Nat.mul_le_mul_left _ (pow_pos k))
    · rw [c]
      exact Nat.mul_le_mul_right _ (by omega)
    · omega
theorem vi_mono {a b : Nat} (h : ordV a ≤ ordV b) : vi a ≤ vi b := by
  unfold ordV at h
  unfold vi
  have m0 := fun g => vl_mono (a := a) (b := b) g
  have m1 := fun g => vl_mono (a := b) (b := a) g
  cases ha : ng a <;> cases hb : ng b <;> rw [ha, hb] at h <;> simp only [if_true, Bool.false_eq_true, if_false] at h ⊢
  · have := m0 (by omega); omega
  · have h1 := m0 (by omega)
    have h2 := m1 (by omega)
    have : mag a = 0 := by omega
    have z : vl a = 0 := by
      have : sm a = 0 := sm_zero.2 (by unfold zer; simpa using this)
      unfold vl; rw [this, Nat.zero_mul]
    omega
  · omega
  · have := m1 (by omega); omega
theorem sv_vi (a : Nat) : sv a * 2 ^ (se a + 1074).toNat = vi a := by
  unfold sv vi vl
  split
  · rw [Int.neg_mul, Int.natCast_mul, Int.natCast_pow]; rfl
  · rw [Int.natCast_mul, Int.natCast_pow]; rfl
theorem addF_vi {a b : Nat} (h : ¬ (zer a && zer b) = true) : addF a b = packI (vi a + vi b) (-1074) := by
  unfold addF
  rw [if_neg h]
  have h1 := se_ge a
  have h2 := se_ge b
  have := packI_scale (addS a b) (min (se a) (se b) + 1074).toNat (min (se a) (se b)) (-1074) (by omega)
  rw [← this]
  congr 1
  unfold addS
  rw [Int.add_mul, Int.mul_assoc, Int.mul_assoc, ← Int.pow_add, ← Int.pow_add, ← sv_vi a, ← sv_vi b]
  congr 3 <;> omega
theorem ordV_sg {n : Bool} {p : Nat} (h : p < 9223372036854775808) : ordV (sg n p) = if n then -(p : Int) else (p : Int) := by
  unfold ordV; rw [ng_sg h, mag_sg h]
theorem ordV_packI (S : Int) (e : Int) : ordV (packI S e) = if S < 0 then -(pat S.natAbs e false : Int) else (pat S.natAbs e false : Int) := by
  unfold packI
  by_cases h : S = 0
  · subst h; simp [pat_zero]; decide
  · rw [if_neg h, ordV_sg (pat_lt _ _ _)]
    by_cases g : S < 0
    · rw [if_pos g, decide_eq_true g]; rfl
    · rw [if_neg g, decide_eq_false g]; rfl
theorem packI_mono {S T : Int} (e : Int) (h : S ≤ T) : ordV (packI S e) ≤ ordV (packI T e) := by
  rw [ordV_packI, ordV_packI]
  have m0 := fun g => pat_mono (a := S.natAbs) (b := T.natAbs) e g
  have m1 := fun g => pat_mono (a := T.natAbs) (b := S.natAbs) e g
  split
  · split
    · have := m1 (by omega); omega
    · omega
  · split
    · omega
    · have := m0 (by omega); omega
theorem packI_not {S e : Int} : nan (packI S e) = false ∧ mag (packI S e) ≤ Inf := by
  unfold packI
  split
  · exact ⟨by decide, by decide⟩
  · have := pat_le S.natAbs e false
    have hl := pat_lt S.natAbs e false
    unfold nan Inf
    rw [mag_sg hl]
    exact ⟨by rw [decide_eq_false]; omega, by omega⟩
theorem ordV_abs (a : Nat) : -(mag a : Int) ≤ ordV a ∧ ordV a ≤ mag a := by unfold ordV; split <;> omega
theorem nan_mag {a : Nat} (h : nan a = false) : mag a ≤ 9218868437227405312 := by unfold nan at h; simpa using h
theorem ordV_inf {a : Nat} (h : inf a = true) : ordV a = if ng a then -9218868437227405312 else 9218868437227405312 := by
  have := inf_mag h; unfold ordV; rw [this]; rfl
theorem W_eq {a b : Nat} (ha : W a) (hb : W b) (hn : ng a = ng b) (hm : mag a = mag b) : a = b := by rw [← sg_mag ha, ← sg_mag hb, hn, hm]
theorem addF_ord {a b : Nat} : ordV (addF a b) = ordV (packI (vi a + vi b) (-1074)) ∧ nan (addF a b) = false ∧ mag (addF a b) ≤ Inf := by
  by_cases h : (zer a && zer b) = true
  · have hz : sm a = 0 ∧ sm b = 0 := by rw [sm_zero, sm_zero]; simpa using h
    have e1 : vi a = 0 := by unfold vi vl; rw [hz.1]; simp
    have e2 : vi b = 0 := by unfold vi vl; rw [hz.2]; simp
    unfold addF
    rw [if_pos h, e1, e2]
    refine ⟨?_, ?_, ?_⟩
    · rw [ordV_sg (by decide), ordV_packI]; simp [pat_zero]
    · cases (ng a && ng b) <;> decide
    · cases (ng a && ng b) <;> decide
  · rw [addF_vi h]
    exact ⟨rfl, packI_not⟩
/-- Sums with one float stand as the floats do. -/
theorem addV_order {a b c : Nat} (wa : W a) (wb : W b) (wc : W c) (ha : nan a = false) (hb : nan b = false) (hc : nan c = false) (h : ordV a ≤ ordV b) (h1 : nan (addV a c) = false) (h2 : nan (addV b c) = false) : ordV (addV a c) ≤ ordV (addV b c) := by
  have A := addF_ord (a := a) (b := c)
  have B := addF_ord (a := b) (b := c)
  have la := ordV_abs (addF a c)
  have lb := ordV_abs (addF b c)
  have ma := nan_mag ha; have mb := nan_mag hb
  have oa := ordV_abs a; have ob := ordV_abs b
  have ia := ordV_inf (a := a); have ib := ordV_inf (a := b); have ic := ordV_inf (a := c)
  unfold Inf at A B
  unfold addV at *
  rw [ha, hc] at h1 ⊢
  rw [hb, hc] at h2
  rw [hb]
  simp only [Bool.or_self, Bool.false_eq_true, if_false] at *
  cases hia : inf a <;> cases hib : inf b <;> cases hic : inf c <;> rw [hia, hic] at h1 <;> rw [hib, hic] at h2 <;> simp only [Bool.false_eq_true, if_false, if_true, Bool.true_and, Bool.false_and] at h1 h2 ⊢
  · rw [A.1, B.1]
    exact packI_mono _ (by have := vi_mono h; omega)
  · exact Int.le_refl _
  · have := ib hib
    cases hn : ng b
    · rw [hn] at this; simp only [Bool.false_eq_true, if_false] at this; omega
    · rw [hn] at this; simp only [if_true] at this
      have e : mag a = 9218868437227405312 := by omega
      unfold inf at hia; rw [e] at hia; simp at hia
  · by_cases e : b = c
    · subst e
      simp
    · rw [if_pos (by simpa using e)] at h2; rw [nan_NaN] at h2; cases h2
  · have := ia hia
    cases hn : ng a
    · rw [hn] at this; simp only [Bool.false_eq_true, if_false] at this
      have e : mag b = 9218868437227405312 := by omega
      unfold inf at hib; rw [e] at hib; simp at hib
    · rw [hn] at this; simp only [if_true] at this
      omega
  · by_cases e : a = c
    · subst e
      simp
    · rw [if_pos (by simpa using e)] at h1; rw [nan_NaN] at h1; cases h1
  · exact h
  · by_cases e : a = c
    · by_cases e2 : b = c
      · subst e; subst e2; simp
      · rw [if_pos (by simpa using e2)] at h2; rw [nan_NaN] at h2; cases h2
    · rw [if_pos (by simpa using e)] at h1; rw [nan_NaN] at h1; cases h1
theorem mulF_ord {a b : Nat} (hb : ng b = false) : ordV (mulF a b) = ordV (packI (vi a * vl b) (-2148)) := by
  have h1 := se_ge a
  have h2 := se_ge b
  have e1 : vl a * vl b = sm a * sm b * 2 ^ (se a + se b + 2148).toNat := by
    unfold vl
    rw [show (se a + se b + 2148).toNat = (se a + 1074).toNat + (se b + 1074).toNat by omega, Nat.pow_add]
    simp only [Nat.mul_assoc, Nat.mul_left_comm, Nat.mul_comm]
  have e2 : pat (vl a * vl b) (-2148) false = pat (sm a * sm b) (se a + se b) false := by
    rw [e1]; exact pat_scale' _ _ _ _ (by omega)
  unfold mulF
  rw [hb, ordV_sg (pat_lt _ _ _), ordV_packI, ← e2]
  unfold vi
  cases hn : ng a
  · simp only [bne_self_eq_false, Bool.false_eq_true, if_false]
    rw [← Int.natCast_mul, Int.natAbs_natCast, if_neg (by omega)]
  · simp only [if_true, show (true != false) = true from rfl]
    rw [Int.neg_mul, ← Int.natCast_mul, Int.natAbs_neg, Int.natAbs_natCast]
    by_cases z : vl a * vl b = 0
    · rw [z, pat_zero]; simp
    · rw [if_pos (by omega)]
theorem mulV_order {a b c : Nat} (ha : nan a = false) (hb : nan b = false) (hc : nan c = false) (gc : ng c = false) (h : ordV a ≤ ordV b) (h1 : nan (mulV a c) = false) (h2 : nan (mulV b c) = false) : ordV (mulV a c) ≤ ordV (mulV b c) := by
  have A := mulF_ord (a := a) gc
  have B := mulF_ord (a := b) gc
  have pa := pat_le (sm a * sm c) (se a + se c) false
  have pb := pat_le (sm b * sm c) (se b + se c) false
  have la : ∀ n : Bool, ∀ p, p ≤ 9218868437227405312 → -9218868437227405312 ≤ ordV (sg n p) ∧ ordV (sg n p) ≤ 9218868437227405312 := by
    intro n p hp
    rw [ordV_sg (by omega)]; split <;> omega
  have ma := nan_mag ha; have mb := nan_mag hb
  have oa := ordV_abs a; have ob := ordV_abs b
  have ia := ordV_inf (a := a); have ib := ordV_inf (a := b)
  have sI : ∀ n : Bool, ordV (sg n Inf) = if n then -9218868437227405312 else 9218868437227405312 := fun n => by rw [ordV_sg (by decide)]; rfl
  have zo : ∀ x, zer x = true → ordV x = 0 := fun x hx => by have := zer_mag hx; unfold ordV; rw [this]; simp
  unfold mulV at *
  rw [ha, hc] at h1 ⊢
  rw [hb, hc] at h2
  rw [hb]
  simp only [Bool.or_self, Bool.false_or] at *
  have ba : ∀ x, (ng x != ng c) = ng x := fun x => by rw [gc]; cases ng x <;> rfl
  rw [ba] at h1 ⊢
  rw [ba] at h2 ⊢
  by_cases n1 : (inf a && zer c || zer a && inf c) = true
  · rw [if_pos n1] at h1; rw [nan_NaN] at h1; cases h1
  by_cases n2 : (inf b && zer c || zer b && inf c) = true
  · rw [if_pos n2] at h2; rw [nan_NaN] at h2; cases h2
  rw [if_neg n1, if_neg n2]
  by_cases i1 : (inf a || inf c) = true
  · by_cases i2 : (inf b || inf c) = true
    · rw [if_pos i1, if_pos i2, sI, sI]
      -- the signs stand as the floats do
      unfold ordV at h
      by_cases ic : inf c = true
      · have za : ¬ zer a = true := fun g => n1 (by rw [g, ic]; simp)
        have zb : ¬ zer b = true := fun g => n2 (by rw [g, ic]; simp)
        unfold zer at za zb
        simp at za zb
        cases na : ng a <;> cases nb : ng b <;> rw [na, nb] at h <;> simp only [if_true, Bool.false_eq_true, if_false] at h ⊢ <;> omega
      · have ja : inf a = true := by simpa [ic] using i1
        have jb : inf b = true := by simpa [ic] using i2
        have xa := inf_mag ja; have xb := inf_mag jb
        unfold Inf at xa xb
        cases na : ng a <;> cases nb : ng b <;> rw [na, nb] at h <;> simp only [if_true, Bool.false_eq_true, if_false] at h ⊢ <;> omega
    · have ic : inf c = false := by cases x : inf c <;> simp [x] at i2 ⊢
      have ja : inf a = true := by simpa [ic] using i1
      have jb : inf b = false := by simpa [ic] using i2
      rw [if_pos i1, if_neg i2, sI]
      have := ia ja
      cases na : ng a
      · rw [na] at this; simp only [Bool.false_eq_true, if_false] at this
        have e : mag b = 9218868437227405312 := by omega
        unfold inf at jb; rw [e] at jb; simp at jb
      · rw [if_pos rfl]; exact (la _ _ pb).1
  · have ic : inf c = false := by cases x : inf c <;> simp [x] at i1 ⊢
    have ja : inf a = false := by simpa [ic] using i1
    by_cases i2 : (inf b || inf c) = true
    · have jb : inf b = true := by simpa [ic] using i2
      rw [if_neg i1, if_pos i2, sI]
      have := ib jb
      cases nb : ng b
      · rw [if_neg (by decide)]; exact (la _ _ pa).2
      · rw [nb] at this; simp only [if_true] at this
        have e : mag a = 9218868437227405312 := by omega
        unfold inf at ja; rw [e] at ja; simp at ja
    · rw [if_neg i1, if_neg i2, A, B]
      exact packI_mono _ (Int.mul_le_mul_of_nonneg_right (vi_mono h) (by omega))
end Go.Proofs.Ytecgkhijiogggaa.SF
