/- Floats as exact numbers, rounded once: plainly (1). -/
import Derived.Test.YtecgkhijiogggaaS0
namespace Go.Proofs.Ytecgkhijiogggaa.SF
set_option linter.unusedVariables false
set_option linter.unusedSimpArgs false

def pat (m : Nat) (e : Int) (rest : Bool) : Nat := patG 53 (-1074) 971 m e rest
theorem pat_le (m : Nat) (e : Int) (rest : Bool) : pat m e rest ≤ 9218868437227405312 := patG_le 53 (-1074) 971 m e rest
theorem pat_zero (e : Int) (rest : Bool) : pat 0 e rest = 0 := patG_zero _ _ _ _ _
theorem pat_scale (m k : Nat) (e : Int) : pat (m * 2 ^ k) (e - k) false = pat m e false := patG_scale m k e
theorem pat_scale' (m k : Nat) (e e' : Int) (h : e' = e - k) : pat (m * 2 ^ k) e' false = pat m e false := by subst h; exact pat_scale m k e
theorem qz_gt {m : Nat} {e : Int} (h : 2 ^ 53 ≤ m) : e < qz 53 (-1074) (bl m) e := by
  have := lt_bl_of_le h
  unfold qz; omega
theorem pat_sticky (m s r : Nat) (e e' : Int) (h0 : 2 ^ 53 ≤ m) (hr : r < 2 ^ s) (he : e' = e - s) : pat (m * 2 ^ s + r) e' false = pat m e (decide (r ≠ 0)) := by
  subst he
  exact patG_sticky m s r e (by have := pow_pos 53; omega) hr (qz_gt h0)
theorem pat_mono {a b : Nat} (e : Int) (h : a ≤ b) : pat a e false ≤ pat b e false := patG_mono (by decide) e h
theorem patG_huge {p : Nat} {low high : Int} {m : Nat} {e : Int} (rest : Bool) (hp : 1 ≤ p) (h0 : m ≠ 0) (hl : low ≤ high) (h : high + p ≤ e) : patG p low high m e rest = (high - low + 2).toNat * 2 ^ (p - 1) := by
  refine patG_over hp h0 hl ?_
  have := bl_pos h0
  have : high + 1 ≤ qz p low (bl m) e := by unfold qz; omega
  unfold rx; split <;> omega
theorem pat_huge {m : Nat} {e : Int} (rest : Bool) (h0 : m ≠ 0) (h : 1024 ≤ e) : pat m e rest = 9218868437227405312 := patG_huge rest (by decide) h0 (by decide) (by omega)
theorem rne_small {m c : Nat} (rest : Bool) (h : 2 * m < 2 ^ c) : rne m c rest = 0 := by
  unfold rne
  rw [Nat.mod_eq_of_lt (by omega), Nat.div_eq_of_lt (by omega), if_neg (by omega)]
theorem patG_tiny {p : Nat} {low high : Int} {m : Nat} {e : Int} (rest : Bool) (hp : 1 ≤ p) (h : (bl m : Int) + e + 2 ≤ low) : patG p low high m e rest = 0 := by
  by_cases h0 : m = 0
  · subst h0; exact patG_zero _ _ _ _ _
  have hq : qz p low (bl m) e = low := by unfold qz; omega
  have hv : vz p low m e rest = 0 := by
    rw [vz_neg (by rw [hq]; omega), hq]
    apply rne_small
    have := bl_lt m
    calc 2 * m < 2 * 2 ^ bl m := by omega
      _ = 2 ^ (bl m + 1) := by rw [Nat.pow_succ, Nat.mul_comm]
      _ ≤ _ := pow_le (by omega)
  rw [patG_ne h0, hq, hv]
  simp
theorem pat_tiny {m : Nat} {e : Int} (rest : Bool) (h : (bl m : Int) + e ≤ -1076) : pat m e rest = 0 := patG_tiny rest (by decide) (by omega)
/-- Exponents far away are all alike. -/
theorem pat_clamp (m : Nat) (e : Int) (rest : Bool) (c : Int) (hc : 1024 ≤ c) (hb : (bl m : Int) + 1076 ≤ c) : pat m (min (max e (-c)) c) rest = pat m e rest := by
  by_cases h0 : m = 0
  · subst h0; rw [pat_zero, pat_zero]
  by_cases h1 : c < e
  · rw [show min (max e (-c)) c = c by omega, pat_huge rest h0 hc, pat_huge rest h0 (by omega)]
  · by_cases h2 : e < -c
    · rw [show min (max e (-c)) c = -c by omega, pat_tiny rest (by omega), pat_tiny rest (by omega)]
    · rw [show min (max e (-c)) c = e by omega]

/-- Patterns. -/
def mag (a : Nat) : Nat := a % 9223372036854775808
def ng (a : Nat) : Bool := decide (9223372036854775808 ≤ a)
def nan (a : Nat) : Bool := decide (9218868437227405312 < mag a)
def inf (a : Nat) : Bool := decide (mag a = 9218868437227405312)
def zer (a : Nat) : Bool := decide (mag a = 0)
def sg (n : Bool) (p : Nat) : Nat := if n then p + 9223372036854775808 else p
def NaN : Nat := 9221120237041090560
def Inf : Nat := 9218868437227405312
def ex (a : Nat) : Nat := mag a / 4503599627370496
def fr (a : Nat) : Nat := a % 4503599627370496
def sm (a : Nat) : Nat := if ex a = 0 then fr a else fr a + 4503599627370496
def se (a : Nat) : Int := if ex a = 0 then -1074 else (ex a : Int) - 1075
def W (a : Nat) : Prop := a < 18446744073709551616
theorem mag_lt (a : Nat) : mag a < 9223372036854775808 := by unfold mag; omega
theorem sg_mag {a : Nat} (h : W a) : sg (ng a) (mag a) = a := by
  unfold W at h
  unfold sg ng mag
  by_cases g : 9223372036854775808 ≤ a
  · rw [if_pos (by simpa using g)]; omega
  · rw [if_neg (by simpa using g)]; omega
theorem mag_sg {n : Bool} {p : Nat} (h : p < 9223372036854775808) : mag (sg n p) = p := by unfold mag sg; split <;> omega
theorem ng_sg {n : Bool} {p : Nat} (h : p < 9223372036854775808) : ng (sg n p) = n := by
  unfold ng sg; cases n
  · simp; omega
  · simp
theorem W_sg {n : Bool} {p : Nat} (h : p < 9223372036854775808) : W (sg n p) := by unfold W sg; split <;> omega
theorem sm_lt (a : Nat) : sm a < 9007199254740992 := by unfold sm fr; split <;> omega
theorem se_ge (a : Nat) : -1074 ≤ se a := by unfold se; split <;> omega
theorem se_le {a : Nat} (h1 : nan a = false) (h2 : inf a = false) : se a ≤ 971 := by
  unfold nan at h1; unfold inf at h2
  simp at h1 h2
  unfold se ex
  split <;> omega
theorem sm_zero {a : Nat} : sm a = 0 ↔ zer a = true := by
  unfold sm zer ex fr mag
  rw [decide_eq_true_eq]
  split <;> omega
theorem sm_norm {a : Nat} (h : -1074 < se a) : 4503599627370496 ≤ sm a := by
  unfold se at h; unfold sm
  split
  · rename_i g; rw [if_pos g] at h; omega
  · omega
/-- A float is the nearest one of its number. -/
theorem pat_fix {a : Nat} (h1 : nan a = false) (h2 : inf a = false) : pat (sm a) (se a) false = mag a := by
  have hm : mag a < 9218868437227405312 := by
    unfold nan at h1; unfold inf at h2; simp at h1 h2; omega
  by_cases h0 : sm a = 0
  · have := sm_zero.1 h0
    unfold zer at this
    rw [decide_eq_true_eq] at this
    rw [h0, pat_zero, this]
  have hs := sm_lt a
  have hb : bl (sm a) ≤ 53 := bl_le_of_lt (k := 53) hs
  have hge := se_ge a
  have hq : qz 53 (-1074) (bl (sm a)) (se a) = se a := by
    unfold qz
    by_cases g : -1074 < se a
    · have : 52 < bl (sm a) := lt_bl_of_le (sm_norm g)
      omega
    · omega
  unfold pat
  rw [patG_ne h0, vz_pos (by rw [hq]; omega), hq, Int.sub_self]
  have hx : ex a = mag a / 4503599627370496 := rfl
  have hf : fr a = mag a % 4503599627370496 := by unfold fr mag; omega
  have e1 : (se a - -1074).toNat * 2 ^ (53 - 1) + sm a * 2 ^ (0 : Int).toNat = mag a := by
    show (se a - -1074).toNat * 4503599627370496 + sm a * 1 = mag a
    unfold se sm
    split
    · rename_i g; rw [hf]; omega
    · rename_i g; rw [hf]; omega
  rw [e1]
  exact Nat.min_eq_left (Nat.le_of_lt hm)
/-- The float of a whole number times a power of two. -/
def packI (S : Int) (e : Int) : Nat := if S = 0 then 0 else sg (decide (S < 0)) (pat S.natAbs e false)
theorem pat_lt (m : Nat) (e : Int) (rest : Bool) : pat m e rest < 9223372036854775808 := by have := pat_le m e rest; omega
theorem packI_scale (S : Int) (k : Nat) (e e' : Int) (h : e' = e - k) : packI (S * 2 ^ k) e' = packI S e := by
  unfold packI
  have hp : (0 : Int) < 2 ^ k := Int.pow_pos (by decide)
  by_cases h0 : S = 0
  · subst h0; simp
  · have e1 : S * 2 ^ k ≠ 0 := Int.mul_ne_zero h0 (by omega)
    have e2 : (S * 2 ^ k).natAbs = S.natAbs * 2 ^ k := by
      rw [Int.natAbs_mul, Int.natAbs_pow]; rfl
    have e3 : decide (S * 2 ^ k < 0) = decide (S < 0) := by
      rw [decide_eq_decide]
      constructor
      · intro h
        rcases Int.lt_or_le S 0 with g | g
        · exact g
        · have := Int.mul_nonneg g (Int.le_of_lt hp); omega
      · intro h; exact Int.mul_neg_of_neg_of_pos h hp
    rw [if_neg h0, if_neg e1, e2, e3, pat_scale' _ _ _ _ h]
/-- The signed digits. -/
def sv (a : Nat) : Int := if ng a then -(sm a : Int) else (sm a : Int)
def addS (a b : Nat) : Int := sv a * 2 ^ (se a - min (se a) (se b)).toNat + sv b * 2 ^ (se b - min (se a) (se b)).toNat
def addF (a b : Nat) : Nat := if zer a && zer b then sg (ng a && ng b) 0 else packI (addS a b) (min (se a) (se b))
def addV (a b : Nat) : Nat :=
  if nan a || nan b then NaN else if inf a then (if inf b && decide (a ≠ b) then NaN else a) else if inf b then b else addF a b
theorem addS_comm (a b : Nat) : addS a b = addS b a := by unfold addS; rw [Int.min_comm (se b), Int.add_comm]
theorem addF_comm (a b : Nat) : addF a b = addF b a := by unfold addF; rw [addS_comm, Int.min_comm (se b), Bool.and_comm (zer b), Bool.and_comm (ng b)]
theorem addV_comm (a b : Nat) : addV a b = addV b a := by
  unfold addV
  rw [addF_comm, Bool.or_comm (nan b)]
  by_cases h : (nan a || nan b) = true
  · rw [if_pos h, if_pos h]
  · rw [if_neg h, if_neg h]
    cases ha : inf a <;> cases hb : inf b <;> simp
    by_cases e : a = b
    · subst e; simp
    · rw [if_neg e, if_neg (fun h => e h.symm)]
end Go.Proofs.Ytecgkhijiogggaa.SF
