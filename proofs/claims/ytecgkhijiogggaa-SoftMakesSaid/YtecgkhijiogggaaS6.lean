/- Floats as exact numbers, rounded once: plainly (6). -/
import Derived.Test.YtecgkhijiogggaaS5
namespace Go.Proofs.Ytecgkhijiogggaa.SF
set_option linter.unusedVariables false
set_option linter.unusedSimpArgs false

/-- A whole number's float. -/
theorem from_nat {n : Int} (h0 : n ≠ 0) : packI n 0 = sg (decide (n < 0)) (pat n.natAbs 0 false) := by unfold packI; rw [if_neg h0]
theorem nf_whole {m : Nat} (s : Bool) (h0 : m ≠ 0) (h : m ≤ 67108864) : Nf s m 0 := nf s h0 (by have := bl_le_of_lt (n := m) (k := 27) (by omega); omega) (by have := bl_pos h0; omega) (by have := bl_le_of_lt (n := m) (k := 27) (by omega); omega)
theorem bl27 {m : Nat} (h : m ≤ 67108864) : bl m ≤ 27 := bl_le_of_lt (n := m) (k := 27) (by omega)
theorem whole_whole (how : Nat) {m : Nat} (s : Bool) (h0 : m ≠ 0) (h : m ≤ 67108864) : wholeV how (sg s (pat m 0 false)) = sg s (pat m 0 false) := by
  have F := nf_whole s h0 h
  have hb := bl27 h
  have hp := bl_pos h0
  unfold wholeV
  rw [F.nan, F.inf, F.zer, F.se, F.sm, F.ng]
  simp only [Bool.or_self, Bool.false_eq_true, if_false]
  rw [if_neg (by omega), show (-((bl m : Int) + 0 - 53)).toNat = 53 - bl m by omega]
  congr 2
  unfold wq
  have pp := pow_pos (53 - bl m)
  rw [rne_exact, Nat.mul_mod_left, Nat.mul_div_cancel _ pp]
  simp
theorem toM_whole {m : Nat} (s : Bool) (h0 : m ≠ 0) (h : m ≤ 67108864) : toM (sg s (pat m 0 false)) = m := by
  have F := nf_whole s h0 h
  have hb := bl27 h
  unfold toM
  rw [F.se, F.sm, if_neg (by omega), show (-((bl m : Int) + 0 - 53)).toNat = 53 - bl m by omega, Nat.mul_div_cancel _ (pow_pos _)]
theorem to_whole {m : Nat} (s : Bool) (h0 : m ≠ 0) (h : m ≤ 67108864) : toFail (sg s (pat m 0 false)) = false ∧ toI (wholeV 0 (sg s (pat m 0 false))) = if s then -(m : Int) else (m : Int) := by
  have F := nf_whole s h0 h
  unfold toFail toBad toI
  rw [whole_whole 0 s h0 h, F.nan, F.inf, F.ng, toM_whole s h0 h]
  constructor
  · rw [decide_eq_false (by omega)]; rfl
  · rfl
theorem toM_zero : toM 0 = 0 := by
  unfold toM
  rw [show sm 0 = 0 by decide, Nat.zero_mul, Nat.zero_div, ite_self]
theorem whole_zero (how : Nat) : wholeV how 0 = 0 := rfl
theorem to_zero : toFail 0 = false ∧ toI (wholeV 0 0) = 0 := by
  unfold toFail toBad toI
  rw [whole_zero, toM_zero]
  exact ⟨by decide, by decide⟩
theorem zero_facts : nan 0 = false ∧ inf 0 = false ∧ zer 0 = true ∧ toFail 0 = false ∧ toI (wholeV 0 0) = 0 ∧ sqrtV 0 = 0 ∧ mulV 0 0 = 0 ∧ absV 0 = 0 ∧ wholeV 1 0 = 0 ∧ wholeV 2 0 = 0 :=
  ⟨by decide, by decide, by decide, to_zero.1, to_zero.2, by decide, by decide, by decide, whole_zero 1, whole_zero 2⟩
/-- An integer, there and back. -/
theorem back_to {n : Int} (h1 : -67108864 ≤ n) (h2 : n ≤ 67108864) : toFail (packI n 0) = false ∧ toI (wholeV 0 (packI n 0)) = n := by
  by_cases h0 : n = 0
  · subst h0; exact ⟨zero_facts.2.2.2.1, zero_facts.2.2.2.2.1⟩
  · rw [from_nat h0]
    obtain ⟨a, b⟩ := to_whole (m := n.natAbs) (decide (n < 0)) (by omega) (by omega)
    refine ⟨a, b.trans ?_⟩
    by_cases g : n < 0
    · rw [decide_eq_true g, if_pos rfl]; omega
    · rw [decide_eq_false g, if_neg (by decide)]; omega
theorem back_whole (how : Nat) (hh : how = 1 ∨ how = 2) {n : Int} (h1 : -67108864 ≤ n) (h2 : n ≤ 67108864) : wholeV how (packI n 0) = packI n 0 := by
  by_cases h0 : n = 0
  · subst h0
    rcases hh with rfl | rfl
    · exact zero_facts.2.2.2.2.2.2.2.2.1
    · exact zero_facts.2.2.2.2.2.2.2.2.2
  · rw [from_nat h0]
    exact whole_whole how _ (by omega) (by omega)
theorem back_scale {n k : Int} (h1 : -67108864 ≤ n) (h2 : n ≤ 67108864) (k1 : -900 ≤ k) (k2 : k ≤ 900) : scaleV (scaleV (packI n 0) k) (-k) = packI n 0 := by
  by_cases h0 : n = 0
  · subst h0
    have e : ∀ x, scaleV 0 x = 0 := fun x => by unfold scaleV; rw [zero_facts.1, zero_facts.2.1, zero_facts.2.2.1]; rfl
    show scaleV (scaleV 0 k) (-k) = 0
    rw [e, e]
  · rw [from_nat h0]
    have m0 : n.natAbs ≠ 0 := by omega
    have ml : n.natAbs ≤ 67108864 := by omega
    obtain ⟨m, hm⟩ : ∃ m, n.natAbs = m := ⟨_, rfl⟩
    rw [hm] at m0 ml ⊢
    have F := nf_whole (decide (n < 0)) m0 ml
    have hb := bl27 ml
    have hp := bl_pos m0
    have G : Nf (decide (n < 0)) m k := nf _ m0 (by omega) (by omega) (by omega)
    have e1 : scaleV (sg (decide (n < 0)) (pat m 0 false)) k = sg (decide (n < 0)) (pat m k false) := by
      unfold scaleV
      rw [F.nan, F.inf, F.zer, F.sm, F.se, F.ng]
      simp only [Bool.or_self, Bool.false_eq_true, if_false]
      rw [pat_scale' m (53 - bl m) k _ (by omega)]
    rw [e1]
    unfold scaleV
    rw [G.nan, G.inf, G.zer, G.sm, G.se, G.ng]
    simp only [Bool.or_self, Bool.false_eq_true, if_false]
    rw [pat_scale' m (53 - bl m) 0 _ (by omega)]
theorem back_root {n : Int} (h1 : -67108864 ≤ n) (h2 : n ≤ 67108864) : sqrtV (mulV (packI n 0) (packI n 0)) = absV (packI n 0) := by
  by_cases h0 : n = 0
  · subst h0
    show sqrtV (mulV 0 0) = absV 0
    rw [zero_facts.2.2.2.2.2.2.1, zero_facts.2.2.2.2.2.1, zero_facts.2.2.2.2.2.2.2.1]
  · rw [from_nat h0]
    have m0 : n.natAbs ≠ 0 := by omega
    have ml : n.natAbs ≤ 67108864 := by omega
    obtain ⟨m, hm⟩ : ∃ m, n.natAbs = m := ⟨_, rfl⟩
    obtain ⟨s, hs⟩ : ∃ s, decide (n < 0) = s := ⟨_, rfl⟩
    rw [hm] at m0 ml
    rw [hm, hs]
    have F := nf_whole s m0 ml
    have hb := bl27 ml
    have hp := bl_pos m0
    have mm0 : m * m ≠ 0 := Nat.mul_ne_zero m0 m0
    have mml : m * m ≤ 4503599627370496 := Nat.mul_le_mul ml ml
    have mmb : bl (m * m) ≤ 53 := bl_le_of_lt (k := 53) (by omega)
    have mmp := bl_pos mm0
    have G : Nf false (m * m) 0 := nf _ mm0 mmb (by omega) (by omega)
    have e1 : mulV (sg s (pat m 0 false)) (sg s (pat m 0 false)) = sg false (pat (m * m) 0 false) := by
      unfold mulV mulF
      rw [F.nan, F.inf, F.zer, F.sm, F.se, F.ng]
      simp only [Bool.or_self, Bool.and_self, Bool.false_eq_true, if_false, bne_self_eq_false]
      congr 1
      rw [show m * 2 ^ (53 - bl m) * (m * 2 ^ (53 - bl m)) = m * m * 2 ^ ((53 - bl m) + (53 - bl m)) by rw [Nat.pow_add]; simp only [Nat.mul_assoc, Nat.mul_left_comm, Nat.mul_comm]]
      exact pat_scale' _ _ _ _ (by omega)
    rw [e1]
    unfold sqrtV absV
    rw [G.nan, G.zer, G.ng, G.inf, F.nan, F.mag]
    simp only [Bool.false_eq_true, if_false]
    -- the root is exact
    have hbm : bl (sm (sg false (pat (m * m) 0 false))) = 53 := by
      rw [G.sm, bl_mul _ mm0]; omega
    unfold sqrtF
    rw [hbm]
    obtain ⟨k, hk⟩ : ∃ k, sqk 53 (se (sg false (pat (m * m) 0 false))) = k := ⟨_, rfl⟩
    have hk2 : ((bl (m * m) : Int) - 53 - k) % 2 = 0 ∧ (k = 77 ∨ k = 78) := by
      rw [G.se] at hk
      unfold sqk at hk
      split at hk <;> omega
    obtain ⟨j, hj⟩ : ∃ j, 2 * j = 53 - bl (m * m) + k := ⟨(53 - bl (m * m) + k) / 2, by omega⟩
    have eM : sqm (sg false (pat (m * m) 0 false)) = m * 2 ^ j * (m * 2 ^ j) := by
      unfold sqm
      rw [hbm, hk, G.sm, Nat.mul_assoc, ← Nat.pow_add, ← hj, Nat.two_mul, Nat.pow_add]
      simp only [Nat.mul_assoc, Nat.mul_left_comm, Nat.mul_comm]
    have hr : isq (m * 2 ^ j * (m * 2 ^ j)) = m * 2 ^ j := by
      have lt : m * 2 ^ j * (m * 2 ^ j) < 2 ^ 134 := by
        rw [← eM]
        unfold sqm
        rw [hbm, hk]
        calc sm (sg false (pat (m * m) 0 false)) * 2 ^ k < 2 ^ 53 * 2 ^ k := Nat.mul_lt_mul_of_pos_right (sm_lt _) (pow_pos _)
          _ = 2 ^ (53 + k) := (Nat.pow_add _ _ _).symm
          _ ≤ 2 ^ 134 := pow_le (by omega)
      exact root_unique (isq_is lt) ⟨Nat.le_refl _, Nat.mul_lt_mul_of_lt_of_le (Nat.lt_succ_self _) (Nat.le_succ _) (Nat.succ_pos _)⟩
    rw [eM, hr, hk]
    simp only [ne_eq, not_true, if_false, Nat.add_zero]
    rw [show 2 * (m * 2 ^ j) = m * 2 ^ (j + 1) by rw [Nat.pow_succ, ← Nat.mul_assoc, Nat.mul_comm 2, Nat.mul_assoc, Nat.mul_comm 2]]
    exact pat_scale' _ _ _ _ (by rw [G.se]; omega)
/-- binary32, there and back. -/
def W32 (b : Nat) : Prop := b < 4294967296
theorem sg32_mag {b : Nat} (h : W32 b) : sg32 (ng32 b) (mag32 b) = b := by
  unfold W32 at h; unfold sg32 ng32 mag32
  by_cases g : 2147483648 ≤ b
  · rw [decide_eq_true g, if_pos rfl]; omega
  · rw [decide_eq_false g, if_neg (by decide)]; omega
theorem fr32_mag (b : Nat) : fr32 b = mag32 b % 8388608 := by unfold fr32 mag32; omega
theorem narrow_widen {b : Nat} (h : W32 b) (hn : ¬ (ex32 b = 255 ∧ fr32 b ≠ 0)) : narrowV (widenV b) = b := by
  have hf := fr32_mag b
  have hx : ex32 b = mag32 b / 8388608 := rfl
  have ml : mag32 b < 2147483648 := by unfold mag32; omega
  unfold widenV
  by_cases g : ex32 b = 255
  · rw [if_pos g, if_neg (by omega)]
    have e : narrowV (sg (ng32 b) Inf) = sg32 (ng32 b) 2139095040 := by cases ng32 b <;> decide
    rw [e]
    have : mag32 b = 2139095040 := by omega
    rw [← this]
    exact sg32_mag h
  · rw [if_neg g]
    by_cases z : sm32 b = 0
    · have : mag32 b = 0 := by
        unfold sm32 at z
        split at z <;> omega
      rw [z, pat_zero]
      have e : narrowV (sg (ng32 b) 0) = sg32 (ng32 b) 0 := by cases ng32 b <;> decide
      rw [e, ← this]
      exact sg32_mag h
    · have hs : sm32 b < 16777216 := by unfold sm32; split <;> omega
      have hb : bl (sm32 b) ≤ 24 := bl_le_of_lt (k := 24) hs
      have hp := bl_pos z
      have he : -149 ≤ se32 b ∧ se32 b ≤ 104 := by unfold se32; split <;> omega
      have F : Nf (ng32 b) (sm32 b) (se32 b) := nf _ z (by omega) (by omega) (by omega)
      unfold narrowV
      rw [F.nan, F.inf, F.sm, F.se, F.ng]
      simp only [Bool.false_eq_true, if_false]
      have hq : qz 24 (-149) (bl (sm32 b)) (se32 b) = se32 b := by
        unfold qz
        by_cases g2 : ex32 b = 0
        · have : se32 b = -149 := by unfold se32; rw [if_pos g2]
          omega
        · have : 23 < bl (sm32 b) := lt_bl_of_le (by show 8388608 ≤ _; unfold sm32; rw [if_neg g2]; omega)
          omega
      have e1 : patG 24 (-149) 104 (sm32 b * 2 ^ (53 - bl (sm32 b))) ((bl (sm32 b) : Int) + se32 b - 53) false = mag32 b := by
        have := patG_scale (p := 24) (low := -149) (high := 104) (sm32 b) (53 - bl (sm32 b)) (se32 b)
        rw [show (bl (sm32 b) : Int) + se32 b - 53 = se32 b - ((53 - bl (sm32 b) : Nat) : Int) by omega, this, patG_fit (by decide) z (by omega) (by omega) (by decide), hq, Int.sub_self]
        show (se32 b - -149).toNat * 8388608 + sm32 b * 1 = mag32 b
        unfold se32 sm32
        split <;> omega
      rw [e1]
      exact sg32_mag h
theorem back_narrow {b : Nat} (h : W32 b) : widenV (narrowV (widenV b)) = widenV b := by
  by_cases g : ex32 b = 255 ∧ fr32 b ≠ 0
  · have : widenV b = NaN := by unfold widenV; rw [if_pos g.1, if_pos g.2]
    rw [this]; decide
  · rw [narrow_widen h g]
end Go.Proofs.Ytecgkhijiogggaa.SF
