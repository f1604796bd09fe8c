/- Floats as exact numbers, rounded once: plainly (4). -/
import Derived.Test.YtecgkhijiogggaaS3
namespace Go.Proofs.Ytecgkhijiogggaa.SF
set_option linter.unusedVariables false
set_option linter.unusedSimpArgs false

/-- A number that fits is its own nearest float. -/
theorem patG_fit {p : Nat} {low high : Int} {m : Nat} {e : Int} {rest : Bool} (hp : 1 ≤ p) (h0 : m ≠ 0) (hq : qz p low (bl m) e ≤ e) (hh : qz p low (bl m) e ≤ high) (hl : low ≤ high) :
    patG p low high m e rest = (qz p low (bl m) e - low).toNat * 2 ^ (p - 1) + m * 2 ^ (e - qz p low (bl m) e).toNat := by
  rw [patG_ne h0, ← vz_pos (rest := rest) hq]
  have h1 := vz_lt (rest := rest) hq
  have h2 := qz_ge p low (bl m) e
  have e1 : 2 ^ p = 2 * 2 ^ (p - 1) := by rw [Nat.mul_comm, ← Nat.pow_succ]; congr 1; omega
  apply Nat.min_eq_left
  calc (qz p low (bl m) e - low).toNat * 2 ^ (p - 1) + vz p low m e rest ≤ (qz p low (bl m) e - low).toNat * 2 ^ (p - 1) + 2 * 2 ^ (p - 1) := by omega
    _ = ((qz p low (bl m) e - low).toNat + 2) * 2 ^ (p - 1) := by rw [Nat.add_mul]
    _ ≤ _ := Nat.mul_le_mul_right _ (by omega)
/-- A float of a number of few digits, neither small nor great. -/
structure Nf (s : Bool) (m : Nat) (e : Int) : Prop where
  W : W (sg s (pat m e false))
  ng : ng (sg s (pat m e false)) = s
  mag : mag (sg s (pat m e false)) = pat m e false
  nan : nan (sg s (pat m e false)) = false
  inf : inf (sg s (pat m e false)) = false
  zer : zer (sg s (pat m e false)) = false
  sm : sm (sg s (pat m e false)) = m * 2 ^ (53 - bl m)
  se : se (sg s (pat m e false)) = bl m + e - 53
theorem nf (s : Bool) {m : Nat} {e : Int} (h0 : m ≠ 0) (hb : bl m ≤ 53) (h1 : -1074 < (bl m : Int) + e - 53) (h2 : (bl m : Int) + e - 53 ≤ 971) : Nf s m e := by
  have hq : qz 53 (-1074) (bl m) e = bl m + e - 53 := by unfold qz; omega
  have hbp := bl_pos h0
  have hp : pat m e false = ((bl m : Int) + e - 53 + 1074).toNat * 4503599627370496 + m * 2 ^ (53 - bl m) := by
    unfold pat
    rw [patG_fit (by decide) h0 (by omega) (by omega) (by decide), hq]
    rw [show (e - ((bl m : Int) + e - 53)).toNat = 53 - bl m by omega, Int.sub_neg]
  have l1 : 4503599627370496 ≤ m * 2 ^ (53 - bl m) := by
    calc 4503599627370496 = 2 ^ (bl m - 1) * 2 ^ (53 - bl m) := by rw [← Nat.pow_add, show bl m - 1 + (53 - bl m) = 52 by omega]
      _ ≤ _ := Nat.mul_le_mul_right _ (bl_le h0)
  have l2 : m * 2 ^ (53 - bl m) < 9007199254740992 := by
    calc m * 2 ^ (53 - bl m) < 2 ^ bl m * 2 ^ (53 - bl m) := Nat.mul_lt_mul_of_pos_right (bl_lt m) (pow_pos _)
      _ = 9007199254740992 := by rw [← Nat.pow_add, show bl m + (53 - bl m) = 53 by omega]
  obtain ⟨v, hv⟩ : ∃ v, m * 2 ^ (53 - bl m) = v := ⟨_, rfl⟩
  obtain ⟨x, hx⟩ : ∃ x : Nat, ((bl m : Int) + e - 53 + 1074).toNat = x := ⟨_, rfl⟩
  rw [hv, hx] at hp
  rw [hv] at l1 l2
  obtain ⟨P, hP⟩ : ∃ P, pat m e false = P := ⟨_, rfl⟩
  rw [hP] at hp
  have hlt : P < 9223372036854775808 := by omega
  have em : SF.mag (sg s P) = P := mag_sg hlt
  have ex' : ex (sg s P) = x + 1 := by unfold ex; rw [em]; omega
  have ef : fr (sg s P) = v - 4503599627370496 := by
    have : fr (sg s P) = SF.mag (sg s P) % 4503599627370496 := by unfold fr SF.mag; omega
    rw [this, em]; omega
  constructor <;> rw [hP]
  · exact W_sg hlt
  · exact ng_sg hlt
  · exact em
  · unfold SF.nan; rw [em, decide_eq_false]; omega
  · unfold SF.inf; rw [em, decide_eq_false]; omega
  · unfold SF.zer; rw [em, decide_eq_false]; omega
  · unfold SF.sm; rw [ex', if_neg (by omega), ef, hv]; omega
  · unfold SF.se; rw [ex', if_neg (by omega)]; omega
def negV (a : Nat) : Nat := if nan a then NaN else sg (!ng a) (mag a)
def absV (a : Nat) : Nat := if nan a then NaN else mag a
def subV (a b : Nat) : Nat := addV a (negV b)
def ordV (a : Nat) : Int := if ng a then -(mag a : Int) else (mag a : Int)
def cmpI (a b : Int) : Int := if a < b then -1 else if b < a then 1 else 0
def cmpV (a b : Nat) : Int := if nan a || nan b then 0 else cmpI (ordV a) (ordV b)
def okV (a b : Nat) : Bool := !(nan a || nan b)
def maxV (a b : Nat) : Nat := if nan a || nan b then NaN else if ordV a < ordV b then b else a
def minV (a b : Nat) : Nat := if nan a || nan b then NaN else if ordV b < ordV a then b else a
def wq (how : Nat) (n : Bool) (m c : Nat) : Nat := if how = 2 then rne m c false else if how = 1 ∧ n = true ∧ m % 2 ^ c ≠ 0 then m / 2 ^ c + 1 else m / 2 ^ c
def wholeV (how a : Nat) : Nat :=
  if nan a then NaN else if inf a || zer a then a else if 0 ≤ se a then a else sg (ng a) (pat (wq how (ng a) (sm a) (-se a).toNat) 0 false)
def scaleV (a : Nat) (n : Int) : Nat := if nan a then NaN else if inf a || zer a then a else sg (ng a) (pat (sm a) (se a + min (max n (-100000)) 100000) false)
def dI (lo hi : Int) : Int := lo % 18446744073709551616 + hi * 18446744073709551616
def fromV (lo hi : Int) : Nat := packI (dI lo hi) 0
def wr (x : Int) : Int := (x + 9223372036854775808) % 18446744073709551616 - 9223372036854775808
/-- A float's integer. -/
def toM (t : Nat) : Nat := if 0 ≤ se t then sm t * 2 ^ (se t).toNat else sm t / 2 ^ (-se t).toNat
def toBad (t : Nat) : Bool := decide (170141183460469231731687303715884105728 ≤ toM t) && !(ng t && decide (toM t = 170141183460469231731687303715884105728))
def toI (t : Nat) : Int := if ng t then -(toM t : Int) else (toM t : Int)
def toFail (a : Nat) : Bool := nan a || inf a || toBad (wholeV 0 a)
def toLo (a : Nat) : Int := if toFail a then 0 else wr (toI (wholeV 0 a))
def toHi (a : Nat) : Int := if toFail a then 0 else toI (wholeV 0 a) / 18446744073709551616
def toT (a : Nat) : Int := if toFail a then -43 else 0
def sg32 (n : Bool) (p : Nat) : Nat := if n then p + 2147483648 else p
def narrowV (a : Nat) : Nat := if nan a then 2143289344 else if inf a then sg32 (ng a) 2139095040 else sg32 (ng a) (patG 24 (-149) 104 (sm a) (se a) false)
def ng32 (a : Nat) : Bool := decide (2147483648 ≤ a)
def mag32 (a : Nat) : Nat := a % 2147483648
def ex32 (a : Nat) : Nat := mag32 a / 8388608
def fr32 (a : Nat) : Nat := a % 8388608
def sm32 (a : Nat) : Nat := if ex32 a = 0 then fr32 a else fr32 a + 8388608
def se32 (a : Nat) : Int := if ex32 a = 0 then -149 else (ex32 a : Int) - 150
def widenV (a : Nat) : Nat := if ex32 a = 255 then (if fr32 a ≠ 0 then NaN else sg (ng32 a) Inf) else sg (ng32 a) (pat (sm32 a) (se32 a) false)
def makeV (n : Bool) (M : Nat) (e : Int) : Nat := sg n (pat M e false)

/-! What holds outright. -/
theorem mulF_comm (a b : Nat) : mulF a b = mulF b a := by
  unfold mulF
  rw [Nat.mul_comm, Int.add_comm]
  congr 1
  cases ng a <;> cases ng b <;> rfl
theorem mulV_comm (a b : Nat) : mulV a b = mulV b a := by
  unfold mulV
  rw [mulF_comm]
  cases nan a <;> cases nan b <;> cases inf a <;> cases inf b <;> cases zer a <;> cases zer b <;> cases ng a <;> cases ng b <;> rfl
theorem bool_sg {a : Nat} (h : W a) {p : Nat} (hp : mag a = p) : sg (ng a) p = a := by subst hp; exact sg_mag h
theorem inf_mag {a : Nat} (h : inf a = true) : mag a = Inf := by unfold inf at h; unfold Inf; simpa using h
theorem zer_mag {a : Nat} (h : zer a = true) : mag a = 0 := by unfold zer at h; simpa using h
def One : Nat := 4607182418800017408
theorem one_facts : nan One = false ∧ inf One = false ∧ zer One = false ∧ ng One = false ∧ sm One = 4503599627370496 ∧ se One = -52 := by decide
theorem mulV_one {a : Nat} (h : W a) (h1 : nan a = false) : mulV a One = a := by
  obtain ⟨o1, o2, o3, o4, o5, o6⟩ := one_facts
  unfold mulV
  rw [h1, o1, o2, o3, o4]
  cases hi : inf a
  · simp
    unfold mulF
    rw [o4, o5, o6]
    have e1 : (ng a != false) = ng a := by cases ng a <;> rfl
    rw [e1]
    refine bool_sg h ?_
    have := pat_scale' (sm a) 52 (se a) (se a + -52) (by omega)
    rw [show (2 : Nat) ^ 52 = 4503599627370496 by decide] at this
    rw [this, pat_fix h1 hi]
  · simp
    exact bool_sg h (inf_mag hi)
theorem divV_one {a : Nat} (h : W a) (h1 : nan a = false) : divV a One = a := by
  obtain ⟨o1, o2, o3, o4, o5, o6⟩ := one_facts
  unfold divV
  rw [h1, o1, o2, o3, o4]
  cases hi : inf a
  · cases hz : zer a
    · simp
      unfold divF quoV
      rw [o4, o5, o6]
      have e1 : (ng a != false) = ng a := by cases ng a <;> rfl
      have e2 : bl 4503599627370496 = 53 := by decide
      have hb : bl (sm a) ≤ 53 := bl_le_of_lt (k := 53) (sm_lt a)
      have hx : sm a ≠ 0 := fun c => by rw [sm_zero.1 c] at hz; cases hz
      rw [e1, e2]
      refine bool_sg h ?_
      obtain ⟨k, hk⟩ : ∃ k, 70 + 53 - bl (sm a) = 52 + k := ⟨71 - bl (sm a), by omega⟩
      rw [hk]
      have e3 : sm a * 2 ^ (52 + k) = sm a * 2 ^ k * 4503599627370496 := by
        rw [Nat.pow_add, show (2 : Nat) ^ 52 = 4503599627370496 by decide, Nat.mul_comm 4503599627370496, Nat.mul_assoc]
      rw [e3, Nat.mul_div_cancel _ (by decide), Nat.mul_mod_left]
      simp only [ne_eq, not_true, if_false, Nat.add_zero]
      rw [show 2 * (sm a * 2 ^ k) = sm a * 2 ^ (k + 1) by rw [Nat.pow_succ, ← Nat.mul_assoc, Nat.mul_comm 2, Nat.mul_assoc, Nat.mul_comm 2], pat_scale' _ _ (se a) _ (by omega), pat_fix h1 hi]
    · simp
      exact bool_sg h (zer_mag hz)
  · simp
    exact bool_sg h (inf_mag hi)
theorem scaleV_zero {a : Nat} (h : W a) (h1 : nan a = false) : scaleV a 0 = a := by
  unfold scaleV
  rw [h1]
  cases hi : inf a <;> cases hz : zer a <;> simp
  rw [show se a + min (max 0 (-100000)) 100000 = se a by omega, pat_fix h1 hi, sg_mag h]
theorem mag_lt_inf (a : Nat) : mag a < 9223372036854775808 := mag_lt a
theorem negV_ok {a : Nat} (h1 : nan a = false) : negV a = sg (!ng a) (mag a) := by unfold negV; rw [h1]; rfl
theorem same_mag {a b : Nat} (h : mag a = mag b) : nan a = nan b ∧ inf a = inf b ∧ zer a = zer b ∧ sm a = sm b ∧ se a = se b := by
  have hf : ∀ x, fr x = mag x % 4503599627370496 := fun x => by unfold fr mag; omega
  unfold nan inf zer sm se ex
  rw [hf a, hf b, h]
  exact ⟨rfl, rfl, rfl, rfl, rfl⟩
theorem negV_mag {a : Nat} (h1 : nan a = false) : mag (negV a) = mag a := by rw [negV_ok h1]; exact mag_sg (mag_lt a)
theorem negV_ng {a : Nat} (h1 : nan a = false) : ng (negV a) = !ng a := by rw [negV_ok h1]; exact ng_sg (mag_lt a)
theorem negV_neg {a : Nat} (h : W a) (h1 : nan a = false) : negV (negV a) = a := by
  have e := negV_mag h1
  rw [negV_ok (a := negV a) (by rw [(same_mag e).1]; exact h1), e, negV_ng h1, Bool.not_not, sg_mag h]
def nnan (a : Nat) : Nat := if nan a then NaN else a
theorem nan_NaN : nan NaN = true := by decide
theorem sg_not {n : Bool} {p : Nat} (hp : p < 9218868437227405313) : negV (sg n p) = sg (!n) p := by
  have hl : p < 9223372036854775808 := by omega
  have h1 : nan (sg n p) = false := by unfold nan; rw [mag_sg hl, decide_eq_false]; omega
  rw [negV_ok h1, mag_sg hl, ng_sg hl]
theorem nnan_sg {n : Bool} {p : Nat} (hp : p < 9218868437227405313) : nnan (sg n p) = sg n p := by
  have hl : p < 9223372036854775808 := by omega
  have h1 : nan (sg n p) = false := by unfold nan; rw [mag_sg hl, decide_eq_false]; omega
  unfold nnan; rw [h1]; rfl
theorem negV_mulV {a b : Nat} (ha : nan a = false) (hb : nan b = false) : negV (mulV a b) = nnan (mulV (negV a) b) := by
  obtain ⟨m1, m2, m3, m4, m5⟩ := same_mag (negV_mag ha)
  have m6 := negV_ng ha
  unfold mulV mulF
  rw [m1, m2, m3, m4, m5, m6, ha, hb]
  have e1 : ((!ng a) != ng b) = !(ng a != ng b) := by cases ng a <;> cases ng b <;> rfl
  rw [e1]
  have hp := pat_le (sm a * sm b) (se a + se b) false
  by_cases c1 : (inf a && zer b || zer a && inf b) = true
  · simp only [Bool.or_self, Bool.false_or, c1, if_true]
    unfold negV nnan; rw [nan_NaN]; rfl
  · simp only [Bool.or_self, Bool.false_or, c1, if_false, Bool.false_eq_true]
    by_cases c2 : (inf a || inf b) = true
    · rw [if_pos c2, if_pos c2, sg_not (by decide), nnan_sg (by decide)]
    · rw [if_neg c2, if_neg c2, sg_not (by omega), nnan_sg (by omega)]
end Go.Proofs.Ytecgkhijiogggaa.SF
