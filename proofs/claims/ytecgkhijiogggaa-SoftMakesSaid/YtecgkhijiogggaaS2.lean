/- Floats as exact numbers, rounded once: plainly (2). -/
import Derived.Test.YtecgkhijiogggaaS1
namespace Go.Proofs.Ytecgkhijiogggaa.SF
set_option linter.unusedVariables false
set_option linter.unusedSimpArgs false

theorem P64 : (2 : Nat) ^ 64 = 18446744073709551616 := by decide
theorem shift_small (y d : Nat) (h : d ≤ 64) : y * 2 ^ 64 / 2 ^ d = y * 2 ^ (64 - d) ∧ y * 2 ^ 64 % 2 ^ d = 0 := by
  have e : y * 2 ^ 64 = y * 2 ^ (64 - d) * 2 ^ d := by rw [Nat.mul_assoc, ← Nat.pow_add]; congr 2; omega
  rw [e]
  exact ⟨Nat.mul_div_cancel _ (pow_pos d), Nat.mul_mod_left _ _⟩
theorem shift_big (y d s : Nat) (h : d = 64 + s) : y * 2 ^ 64 / 2 ^ d = y / 2 ^ s ∧ y * 2 ^ 64 % 2 ^ d = y % 2 ^ s * 2 ^ 64 := by
  subst h
  rw [Nat.pow_add]
  constructor
  · rw [Nat.mul_comm y, Nat.mul_div_mul_left _ _ (pow_pos 64)]
  · rw [Nat.mul_comm y, Nat.mul_mod_mul_left, Nat.mul_comm]
theorem add_same (x y : Nat) (e f : Int) (d : Nat) (hx : x ≠ 0) (hd : e = f + d) :
    pat (x * 2 ^ 64 + y * 2 ^ 64 / 2 ^ d) (e - 64) (decide (y * 2 ^ 64 % 2 ^ d ≠ 0)) = pat (x * 2 ^ d + y) f false := by
  by_cases h : d ≤ 64
  · obtain ⟨h1, h2⟩ := shift_small y d h
    rw [h1, h2]
    have e1 : x * 2 ^ 64 + y * 2 ^ (64 - d) = (x * 2 ^ d + y) * 2 ^ (64 - d) := by
      rw [Nat.add_mul, Nat.mul_assoc, ← Nat.pow_add]; congr 3; omega
    rw [e1]
    exact pat_scale' _ _ _ _ (by omega)
  · obtain ⟨s, hs⟩ : ∃ s, d = 64 + s := ⟨d - 64, by omega⟩
    obtain ⟨h1, h2⟩ := shift_big y d s hs
    rw [h1, h2]
    have ed : decide (y % 2 ^ s * 2 ^ 64 ≠ 0) = decide (y % 2 ^ s ≠ 0) := by
      rw [decide_eq_decide, P64]; omega
    have e1 : x * 2 ^ d + y = (x * 2 ^ 64 + y / 2 ^ s) * 2 ^ s + y % 2 ^ s := by
      rw [Nat.add_mul, Nat.mul_assoc, ← Nat.pow_add, ← hs]
      have := Nat.div_add_mod y (2 ^ s)
      rw [Nat.mul_comm (2 ^ s)] at this
      omega
    rw [ed, e1]
    exact (pat_sticky _ s _ (e - 64) f (by
      have h3 : 1 * 2 ^ 64 ≤ x * 2 ^ 64 := Nat.mul_le_mul_right _ (by omega)
      have h4 : (2 : Nat) ^ 53 ≤ 1 * 2 ^ 64 := by decide
      exact Nat.le_trans h4 (Nat.le_trans h3 (Nat.le_add_right _ _))) (Nat.mod_lt _ (pow_pos s)) (by omega)).symm
def less (x y d : Nat) : Nat := x * 2 ^ 64 - y * 2 ^ 64 / 2 ^ d - (if y * 2 ^ 64 % 2 ^ d ≠ 0 then 1 else 0)
theorem less_room (x y d : Nat) (h : y ≤ x * 2 ^ d) : y * 2 ^ 64 / 2 ^ d + (if y * 2 ^ 64 % 2 ^ d ≠ 0 then 1 else 0) ≤ x * 2 ^ 64 := by
  have hp := pow_pos d
  have h1 : y * 2 ^ 64 ≤ x * 2 ^ 64 * 2 ^ d := by
    calc y * 2 ^ 64 ≤ x * 2 ^ d * 2 ^ 64 := Nat.mul_le_mul_right _ h
      _ = _ := by rw [Nat.mul_assoc, Nat.mul_assoc, Nat.mul_comm (2 ^ d)]
  have h2 := Nat.div_add_mod (y * 2 ^ 64) (2 ^ d)
  have h3 : y * 2 ^ 64 / 2 ^ d ≤ x * 2 ^ 64 := by
    rw [← Nat.mul_div_cancel (x * 2 ^ 64) hp]; exact Nat.div_le_div_right h1
  split
  · rename_i g
    rcases Nat.lt_or_eq_of_le h3 with c | c
    · omega
    · rw [c, Nat.mul_comm (2 ^ d)] at h2
      omega
  · omega
theorem add_diff (x y : Nat) (e f : Int) (d : Nat) (hx : x ≠ 0) (hy : y < 2 ^ 53) (hd : e = f + d) (h0 : y ≤ x * 2 ^ d) (hn : 0 < d → 2 ^ 52 ≤ x) :
    pat (less x y d) (e - 64) (decide (y * 2 ^ 64 % 2 ^ d ≠ 0)) = pat (x * 2 ^ d - y) f false ∧ (less x y d = 0 ↔ x * 2 ^ d = y) := by
  have room := less_room x y d h0
  unfold less
  by_cases h : d ≤ 64
  · obtain ⟨h1, h2⟩ := shift_small y d h
    rw [h1, h2]
    have e1 : x * 2 ^ 64 - y * 2 ^ (64 - d) = (x * 2 ^ d - y) * 2 ^ (64 - d) := by
      rw [Nat.sub_mul, Nat.mul_assoc, ← Nat.pow_add]; congr 3; omega
    simp only [ne_eq, not_true, if_false, Nat.sub_zero, decide_false]
    rw [e1]
    constructor
    · exact pat_scale' _ _ _ _ (by omega)
    · rw [Nat.mul_eq_zero]
      have := pow_pos (64 - d)
      omega
  · obtain ⟨s, hs⟩ : ∃ s, d = 64 + s := ⟨d - 64, by omega⟩
    obtain ⟨h1, h2⟩ := shift_big y d s hs
    rw [h1, h2] at room ⊢
    have hx2 : 2 ^ 52 ≤ x := hn (by omega)
    have ps := pow_pos s
    have hym : y / 2 ^ s ≤ y := Nat.div_le_self _ _
    have big : 2 ^ 52 * 2 ^ 64 ≤ x * 2 ^ 64 := Nat.mul_le_mul_right _ hx2
    have n1 : (2 : Nat) ^ 53 + 2 ^ 53 + 1 ≤ 2 ^ 52 * 2 ^ 64 := by decide
    have eD : x * 2 ^ d = x * 2 ^ 64 * 2 ^ s := by rw [hs, Nat.pow_add, Nat.mul_assoc]
    have ey := Nat.div_add_mod y (2 ^ s)
    rw [Nat.mul_comm (2 ^ s)] at ey
    have bigD : x * 2 ^ 64 ≤ x * 2 ^ d := by rw [eD]; exact Nat.le_mul_of_pos_right _ ps
    have rl := Nat.mod_lt y ps
    obtain ⟨r, hr⟩ : ∃ r, y % 2 ^ s = r := ⟨_, rfl⟩
    obtain ⟨q, hq⟩ : ∃ q, y / 2 ^ s = q := ⟨_, rfl⟩
    rw [hr, hq] at ey
    rw [hr] at rl
    rw [hr, hq, eD]
    rw [hq] at hym
    rw [eD] at bigD
    by_cases g : r = 0
    · subst g
      simp only [Nat.zero_mul, ne_eq, not_true, if_false, Nat.sub_zero, decide_false]
      have e1 : x * 2 ^ 64 * 2 ^ s - y = (x * 2 ^ 64 - q) * 2 ^ s + 0 := by rw [Nat.sub_mul]; omega
      rw [e1]
      constructor
      · exact ((pat_sticky _ s 0 (e - 64) f (by omega) ps (by omega)).trans (by simp)).symm
      · constructor
        · intro c; omega
        · intro c; omega
    · have ed : decide (r * 2 ^ 64 ≠ 0) = decide (2 ^ s - r ≠ 0) := by
        rw [decide_eq_decide, P64]; omega
      have g2 : r * 2 ^ 64 ≠ 0 := by rw [P64]; omega
      rw [if_pos g2, ed]
      have e1 : x * 2 ^ 64 * 2 ^ s - y = (x * 2 ^ 64 - q - 1) * 2 ^ s + (2 ^ s - r) := by
        have e2 : x * 2 ^ 64 * 2 ^ s = (x * 2 ^ 64 - q - 1) * 2 ^ s + (q + 1) * 2 ^ s := by
          rw [← Nat.add_mul]; congr 1; omega
        rw [e2, Nat.add_mul, Nat.one_mul]
        omega
      rw [e1]
      constructor
      · exact (pat_sticky _ s _ (e - 64) f (by omega) (by omega) (by omega)).symm
      · constructor
        · intro c; omega
        · intro c; omega
/-- The sum as the program makes it: the first one has the greater exponent, or the greater digits. -/
def addP (xn yn : Bool) (x y : Nat) (e : Int) (d : Nat) : Nat :=
  if xn = yn then sg xn (pat (x * 2 ^ 64 + y * 2 ^ 64 / 2 ^ d) (e - 64) (decide (y * 2 ^ 64 % 2 ^ d ≠ 0)))
  else sg (xn && decide (less x y d ≠ 0)) (pat (less x y d) (e - 64) (decide (y * 2 ^ 64 % 2 ^ d ≠ 0)))
theorem packI_pos {n : Nat} (e : Int) (h : n ≠ 0) : packI (n : Int) e = sg false (pat n e false) := by
  unfold packI
  rw [if_neg (by omega), decide_eq_false (by omega)]
  rfl
theorem packI_neg {n : Nat} (e : Int) (h : n ≠ 0) : packI (-(n : Int)) e = sg true (pat n e false) := by
  unfold packI
  rw [if_neg (by omega), decide_eq_true (by omega), Int.natAbs_neg]
  rfl
theorem addP_eq {a b : Nat} {d : Nat} (ha : zer a = false) (hb : zer b = false) (hd : se a = se b + d) (h : d = 0 → sm b ≤ sm a) : addP (ng a) (ng b) (sm a) (sm b) (se a) d = addF a b := by
  have hx : sm a ≠ 0 := fun c => by rw [sm_zero.1 c] at ha; cases ha
  have hy : sm b ≠ 0 := fun c => by rw [sm_zero.1 c] at hb; cases hb
  have hyl := sm_lt b
  have hn : 0 < d → 2 ^ 52 ≤ sm a := fun g => sm_norm (by have := se_ge b; omega)
  have h0 : sm b ≤ sm a * 2 ^ d := by
    by_cases g : d = 0
    · subst g; simpa using h rfl
    · have h1 := hn (by omega)
      calc sm b ≤ 2 ^ 52 * 2 ^ 1 := Nat.le_of_lt hyl
        _ ≤ sm a * 2 ^ d := Nat.mul_le_mul h1 (pow_le (by omega))
  obtain ⟨ad1, ad2⟩ := add_diff (sm a) (sm b) (se a) (se b) d hx hyl hd h0 hn
  have as := add_same (sm a) (sm b) (se a) (se b) d hx hd
  have hm : min (se a) (se b) = se b := by omega
  have eF : addF a b = packI (addS a b) (min (se a) (se b)) := by unfold addF; rw [ha, Bool.false_and, if_neg Bool.false_ne_true]
  rw [eF]
  unfold addP
  rw [as, ad1]
  have e1 : (se a - min (se a) (se b)).toNat = d := by omega
  have e2 : (se b - min (se a) (se b)).toNat = 0 := by omega
  have pw : ((sm a * 2 ^ d : Nat) : Int) = (sm a : Int) * 2 ^ d := by rw [Int.natCast_mul, Int.natCast_pow]; rfl
  unfold addS
  rw [e1, e2, hm, Int.pow_zero, Int.mul_one]
  unfold sv
  have pp := pow_pos d
  have hsum : sm a * 2 ^ d + sm b ≠ 0 := by omega
  obtain ⟨X, hX⟩ : ∃ X, sm a * 2 ^ d = X := ⟨_, rfl⟩
  rw [hX] at ad2 pw h0 hsum ⊢
  cases na : ng a <;> cases nb : ng b <;> simp only [if_true, Bool.false_eq_true, if_false, Bool.true_and, Bool.false_and, reduceCtorEq]
  · rw [← pw, show (X : Int) + (sm b : Int) = ((X + sm b : Nat) : Int) by omega, packI_pos _ hsum]
  · rw [← pw]
    by_cases g : X = sm b
    · rw [g, show (sm b : Int) + -(sm b : Int) = 0 by omega, Nat.sub_self, pat_zero]; rfl
    · rw [show (X : Int) + -(sm b : Int) = ((X - sm b : Nat) : Int) by omega, packI_pos _ (by omega)]
  · rw [Int.neg_mul, ← pw]
    by_cases g : X = sm b
    · rw [decide_eq_false (fun c => c (ad2.2 g)), g, show -(sm b : Int) + (sm b : Int) = 0 by omega, Nat.sub_self, pat_zero]; rfl
    · rw [decide_eq_true (show less (sm a) (sm b) d ≠ 0 from fun c => g (ad2.1 c)), show -(X : Int) + (sm b : Int) = -((X - sm b : Nat) : Int) by omega, packI_neg _ (by omega)]
  · rw [Int.neg_mul, ← pw, show -(X : Int) + -(sm b : Int) = -((X + sm b : Nat) : Int) by omega, packI_neg _ hsum]
theorem sv_zero {a : Nat} : sv a = 0 ↔ zer a = true := by
  rw [← sm_zero]; unfold sv; split <;> omega
theorem packI_sv {a : Nat} (h : W a) (h1 : nan a = false) (h2 : inf a = false) (h3 : zer a = false) : packI (sv a) (se a) = a := by
  have hx : sm a ≠ 0 := fun c => by rw [sm_zero.1 c] at h3; cases h3
  unfold sv
  cases na : ng a
  · rw [if_neg (by decide), packI_pos _ hx, pat_fix h1 h2, ← na, sg_mag h]
  · rw [if_pos rfl, packI_neg _ hx, pat_fix h1 h2, ← na, sg_mag h]
/-- A zero changes nothing. -/
theorem addF_zero {a b : Nat} (hb : W b) (h1 : nan b = false) (h2 : inf b = false) (ha : zer a = true) (h3 : zer b = false) : addF a b = b := by
  unfold addF
  rw [h3, Bool.and_false, if_neg (by decide)]
  unfold addS
  rw [sv_zero.2 ha, Int.zero_mul, Int.zero_add]
  rw [packI_scale _ _ (se b) _ (by omega), packI_sv hb h1 h2 h3]
theorem addF_zeros {a b : Nat} (ha : zer a = true) (hb : zer b = true) : addF a b = sg (ng a && ng b) 0 := by unfold addF; rw [ha, hb]; rfl
end Go.Proofs.Ytecgkhijiogggaa.SF
