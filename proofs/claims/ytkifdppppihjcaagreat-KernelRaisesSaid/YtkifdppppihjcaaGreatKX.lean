/- The kernel's plain laws. -/
import Derived.Test.YtkifdppppihjcaaGreatKP
namespace Go.Proofs.YtkifdppppihjcaaGreat.SF
set_option linter.unusedVariables false
set_option linter.unusedSimpArgs false

theorem mag_absV {y : Nat} (h : nan y = false) : absV y = mag y := by unfold absV; rw [h]; rfl
theorem mag_mag (y : Nat) : mag (mag y) = mag y := by unfold mag; omega
theorem ng_mag (y : Nat) : ng (mag y) = false := by unfold ng; exact decide_eq_false (by have := mag_lt y; omega)
theorem nanOf_mag (y : Nat) : nan (mag y) = nan y := by unfold nan; rw [mag_mag]
theorem toLo_small {a q : Nat} (h1 : nan a = false) (h2 : inf a = false) (hq : q ≤ 67108864) (ht : wholeV 0 a = pat q 0 false) : toLo a = q := by
  have key : toM (pat q 0 false) = q ∧ ng (pat q 0 false) = false := by
    by_cases h0 : q = 0
    · subst h0; rw [pat_zero]; exact ⟨toM_zero, by decide⟩
    · have a1 := toM_whole false h0 hq
      have a2 := (nf_whole false h0 hq).ng
      rw [show ∀ z, sg false z = z from fun _ => rfl] at a1 a2
      exact ⟨a1, a2⟩
  unfold toLo toFail toBad toI
  rw [h1, h2, ht, key.1, key.2]
  rw [show decide (170141183460469231731687303715884105728 ≤ q) = false from decide_eq_false (by omega)]
  simp only [Bool.false_or, Bool.false_and, Bool.false_eq_true, if_false]
  unfold wr; omega
theorem cell_range {y : Nat} (h : nan y = false) (g : belowV (ofV 1024) (absV y) = false) : 0 ≤ toLo (absV y) ∧ toLo (absV y) ≤ 100000 := by
  rw [mag_absV h] at g ⊢
  have hn : nan (mag y) = false := by rw [nanOf_mag]; exact h
  have hm : mag y ≤ 4652218415073722368 := by
    unfold belowV okV cmpV cmpI ordV at g
    rw [show ofV 1024 = 4652218415073722368 by decide, hn, show nan 4652218415073722368 = false by decide, show ng 4652218415073722368 = false by decide, ng_mag, mag_mag, show mag 4652218415073722368 = 4652218415073722368 by decide] at g
    simp at g
    split at g
    · exact absurd g (by decide)
    · omega
  have hi : inf (mag y) = false := by unfold inf; rw [mag_mag]; exact decide_eq_false (by omega)
  by_cases hz : zer (mag y) = true
  · have e : mag y = 0 := by unfold zer at hz; rw [mag_mag] at hz; exact of_decide_eq_true hz
    rw [e]; unfold toLo; rw [zero_facts.2.2.2.1, zero_facts.2.2.2.2.1]; decide
  · have hz := Bool.eq_false_iff.2 hz
    have se1 : se (mag y) ≤ -42 := by unfold se ex; rw [mag_mag]; split <;> omega
    have ht : wholeV 0 (mag y) = pat (sm (mag y) / 2 ^ (-se (mag y)).toNat) 0 false := by
      unfold wholeV wq
      rw [hn, hi, hz, ng_mag, if_neg (show ¬ 0 ≤ se (mag y) by omega)]
      simp [sg]
    have hq : sm (mag y) / 2 ^ (-se (mag y)).toNat ≤ 2048 := by
      have h1 := sm_lt (mag y)
      have h2 : 2 ^ 42 ≤ 2 ^ (-se (mag y)).toNat := pow_le (by omega)
      have h3 : sm (mag y) / 2 ^ (-se (mag y)).toNat ≤ sm (mag y) / 2 ^ 42 := Nat.div_le_div_left h2 (by decide)
      have : sm (mag y) / 2 ^ 42 ≤ 2048 := by omega
      omega
    obtain ⟨q, hqq⟩ : ∃ q, sm (mag y) / 2 ^ (-se (mag y)).toNat = q := ⟨_, rfl⟩
    rw [hqq] at ht hq
    rw [toLo_small hn hi (by omega) ht]
    omega
theorem sgf (z : Nat) : sg false z = z := rfl
/-- A number of few digits, times a power of two, where it is a float: what is read of it. -/
theorem pos_pat {M : Nat} {e : Int} (h0 : M ≠ 0) (hb : bl M ≤ 53) (h1 : -1074 ≤ e) (h2 : (bl M : Int) + e ≤ 1024) :
    ∃ a, pat M e false = a ∧ nan a = false ∧ inf a = false ∧ ng a = false ∧ zer a = false ∧ mag a = a ∧ (∃ k : Nat, sm a = M * 2 ^ k ∧ se a = e - k) ∧
      (a < 4607182418800017408 ↔ (bl M : Int) + e ≤ 0) ∧ (a < 4611686018427387904 ↔ (bl M : Int) + e ≤ 1) := by
  by_cases hn : -1074 < (bl M : Int) + e - 53
  · have F := nf false h0 hb hn (by omega)
    obtain ⟨a, ha⟩ : ∃ a, pat M e false = a := ⟨_, rfl⟩
    have F1 := F.nan; have F2 := F.inf; have F3 := F.ng; have F4 := F.zer; have F5 := F.sm; have E := F.se; have Mg := F.mag
    rw [sgf, ha] at F1 F2 F3 F4 F5 E
    rw [sgf, ha] at Mg
    refine ⟨a, ha, ?_⟩
    refine ⟨F1, F2, F3, F4, Mg, ⟨_, F5, by omega⟩, ?_⟩
    unfold se ex at E
    rw [Mg] at E
    split at E <;> omega
  · have hq : qz 53 (-1074) (bl M) e = -1074 := by unfold qz; omega
    have hv : pat M e false = M * 2 ^ (e + 1074).toNat := by
      unfold pat
      rw [patG_fit (by decide) h0 (by omega) (by omega) (by decide), hq]
      rw [show (e - -1074).toNat = (e + 1074).toNat by omega]
      simp
    obtain ⟨k, hk⟩ : ∃ k : Nat, (e + 1074).toNat = k := ⟨_, rfl⟩
    rw [hk] at hv
    have l0 : M * 2 ^ k ≠ 0 := Nat.mul_ne_zero h0 (Nat.ne_of_gt (pow_pos k))
    have l1 : M * 2 ^ k < 9007199254740992 := by
      have h := bl_lt (M * 2 ^ k)
      rw [bl_mul k h0] at h
      exact Nat.lt_of_lt_of_le h (Nat.le_trans (pow_le (show bl M + k ≤ 53 by omega)) (by decide))
    obtain ⟨v, hvv⟩ : ∃ v, M * 2 ^ k = v := ⟨_, rfl⟩
    rw [hvv] at hv l0 l1
    have Mg : mag v = v := by unfold mag; omega
    refine ⟨v, hv, ?_, ?_, ?_, ?_, Mg, ⟨k, ?_, ?_⟩, ?_, ?_⟩
    · unfold nan; rw [Mg]; exact decide_eq_false (by omega)
    · unfold inf; rw [Mg]; exact decide_eq_false (by omega)
    · unfold ng; exact decide_eq_false (by omega)
    · unfold zer; rw [Mg]; exact decide_eq_false l0
    · rw [hvv]; unfold sm ex fr; rw [Mg]; split <;> omega
    · unfold se ex; rw [Mg]; split <;> omega
    · constructor <;> intro <;> omega
    · constructor <;> intro <;> omega
theorem below_pos {a b : Nat} (h1 : nan a = false) (h2 : nan b = false) (h3 : ng a = false) (h4 : ng b = false) : belowV a b = decide (mag a < mag b) := by
  unfold belowV okV cmpV cmpI ordV
  rw [h1, h2, h3, h4]
  simp
  split
  · rename_i h; simp; omega
  · rename_i h
    split <;> simp <;> omega
theorem scale_pos {M : Nat} {e : Int} (n : Int) (h0 : M ≠ 0) (hb : bl M ≤ 53) (h1 : -1074 ≤ e) (h2 : (bl M : Int) + e ≤ 1024) (hn : -100000 ≤ n ∧ n ≤ 100000) :
    scaleV (pat M e false) n = pat M (e + n) false := by
  obtain ⟨a, ha, f1, f2, f3, f4, f5, ⟨k, f6, f7⟩, _⟩ := pos_pat h0 hb h1 h2
  rw [ha]
  unfold scaleV
  rw [f1, f2, f3, f4, f6, f7]
  simp
  rw [sgf]
  rw [show e - (k : Int) + min (max n (-100000)) 100000 = e + n - k by omega]
  exact pat_scale M k (e + n)
theorem below_1 {M : Nat} {e : Int} (h0 : M ≠ 0) (hb : bl M ≤ 53) (h1 : -1074 ≤ e) (h2 : (bl M : Int) + e ≤ 1024) : belowV (pat M e false) (ofV 1) = decide ((bl M : Int) + e ≤ 0) := by
  obtain ⟨a, ha, f1, f2, f3, f4, f5, _, f8, _⟩ := pos_pat h0 hb h1 h2
  rw [ha, below_pos f1 (by decide) f3 (by decide), f5, show mag (ofV 1) = 4607182418800017408 by decide, decide_eq_decide]
  exact f8
theorem below_2 {M : Nat} {e : Int} (h0 : M ≠ 0) (hb : bl M ≤ 53) (h1 : -1074 ≤ e) (h2 : (bl M : Int) + e ≤ 1024) : belowV (pat M e false) (ofV 2) = decide ((bl M : Int) + e ≤ 1) := by
  obtain ⟨a, ha, f1, f2, f3, f4, f5, _, _, f8⟩ := pos_pat h0 hb h1 h2
  rw [ha, below_pos f1 (by decide) f3 (by decide), f5, show mag (ofV 2) = 4611686018427387904 by decide, decide_eq_decide]
  exact f8
/-- What the reference's logarithm scales. -/
def lnW (x : Nat) (k : Int) : Nat := pat (sm x) (se x + k) false
theorem bl_sm53 (x : Nat) : bl (sm x) ≤ 53 := bl_le_of_lt (Nat.lt_of_lt_of_le (sm_lt x) (by decide))
theorem lnW_0 {x : Nat} (hx : W x) (h1 : nan x = false) (h2 : inf x = false) (h3 : ng x = false) : lnW x 0 = x := by
  unfold lnW
  rw [Int.add_zero, pat_fix h1 h2]
  have := sg_mag hx
  rw [h3] at this
  exact this
theorem lnW_M (x : Nat) : lnW x (-lnK x) = lnM x := by
  unfold lnW lnM makeV lnK
  rw [show se x + -(se x + (bl (sm x) : Int) - 1) = 1 - (bl (sm x) : Int) by omega, sgf]
theorem W_lnW (x : Nat) (k : Int) : W (lnW x k) := by
  unfold lnW W; have := pat_lt (sm x) (se x + k) false; omega
theorem lnW_up {x : Nat} {k : Int} (h1 : nan x = false) (h2 : inf x = false) (h4 : zer x = false) (k1 : 0 ≤ k) (k2 : k < -lnK x) : belowV (lnW x k) (ofV 1) = true ∧ scaleV (lnW x k) 1 = lnW x (k + 1) := by
  have m0 : sm x ≠ 0 := fun h => by rw [sm_zero.1 h] at h4; exact absurd h4 (by decide)
  have hb := bl_sm53 x
  have g := se_ge x
  unfold lnK at k2
  constructor
  · unfold lnW; rw [below_1 m0 hb (by omega) (by omega)]; exact decide_eq_true (by omega)
  · unfold lnW; rw [scale_pos 1 m0 hb (by omega) (by omega) (by omega), Int.add_assoc]
theorem lnW_mid {x : Nat} {k : Int} (h1 : nan x = false) (h2 : inf x = false) (h4 : zer x = false) (k1 : 0 ≤ k) (k2 : k = max 0 (-lnK x)) : belowV (lnW x k) (ofV 1) = false := by
  have m0 : sm x ≠ 0 := fun h => by rw [sm_zero.1 h] at h4; exact absurd h4 (by decide)
  have hb := bl_sm53 x
  have g := se_ge x
  have g2 := se_le h1 h2
  unfold lnK at k2
  unfold lnW; rw [below_1 m0 hb (by omega) (by omega)]; exact decide_eq_false (by omega)
theorem lnW_down {x : Nat} {k : Int} (h1 : nan x = false) (h2 : inf x = false) (h4 : zer x = false) (k1 : 0 ≤ k) (k2 : k < lnK x) : belowV (lnW x (-k)) (ofV 2) = false ∧ scaleV (lnW x (-k)) (-1) = lnW x (-(k + 1)) := by
  have m0 : sm x ≠ 0 := fun h => by rw [sm_zero.1 h] at h4; exact absurd h4 (by decide)
  have hb := bl_sm53 x
  have g := se_ge x
  have g2 := se_le h1 h2
  unfold lnK at k2
  constructor
  · unfold lnW; rw [below_2 m0 hb (by omega) (by omega)]; exact decide_eq_false (by omega)
  · unfold lnW; rw [scale_pos (-1) m0 hb (by omega) (by omega) (by omega), show se x + -k + -1 = se x + -(k + 1) by omega]
theorem lnW_end {x : Nat} (h1 : nan x = false) (h2 : inf x = false) (h4 : zer x = false) : belowV (lnM x) (ofV 2) = true := by
  have m0 : sm x ≠ 0 := fun h => by rw [sm_zero.1 h] at h4; exact absurd h4 (by decide)
  have hb := bl_sm53 x
  have g := bl_pos m0
  unfold lnM makeV
  rw [sgf, below_2 m0 hb (by omega) (by omega)]; exact decide_eq_true (by omega)
-- the arc of a sine at one
theorem below_0 {y : Nat} (h : nan y = false) : belowV y 0 = (ng y && !zer y) := by
  unfold belowV okV cmpV cmpI ordV zer
  rw [h, show nan 0 = false by decide, show ng 0 = false by decide, show mag 0 = 0 by decide]
  cases hg : ng y
  · simp
    split
    · omega
    · split <;> omega
  · simp
    split
    · rename_i c; simp; omega
    · rename_i c; split <;> simp <;> omega
-- nothing comes of nothing
theorem mul_nan {a b : Nat} (h : nan a = true) : mulV a b = NaN := by unfold mulV; rw [h]; rfl
theorem mul_nan' {a b : Nat} (h : nan b = true) : mulV a b = NaN := by rw [mulV_comm]; exact mul_nan h
theorem div_nan' {a b : Nat} (h : nan b = true) : divV a b = NaN := by unfold divV; rw [h]; simp
theorem trunc_nan {y : Nat} (h : nan y = false) : nan (wholeV 0 y) = false := by
  unfold wholeV
  rw [h]
  simp
  split
  · exact h
  · split
    · exact h
    · unfold nan
      rw [mag_sg (pat_lt _ _ _)]
      exact decide_eq_false (by have := pat_le (wq 0 (ng y) (sm y) (-se y).toNat) 0 false; omega)
theorem W_trunc {y : Nat} (hy : W y) : W (wholeV 0 y) := by
  unfold wholeV
  split
  · unfold W NaN; omega
  · split
    · exact hy
    · split
      · exact hy
      · exact W_sg (pat_lt _ _ _)
theorem pow_whole {y : Nat} (hy : W y) (h : nan y = false) (hz : zer y = false) : powOk y = decide (wholeV 0 y = y) := by
  have ht := trunc_nan h
  have hw := W_trunc hy
  have hz' : mag y ≠ 0 := by unfold zer at hz; simpa using hz
  unfold powOk okV cmpV cmpI ordV
  rw [ht, h]
  obtain ⟨t, et⟩ : ∃ t, wholeV 0 y = t := ⟨_, rfl⟩
  rw [et] at hw ⊢
  have e1 := sg_mag hy
  have e2 := sg_mag hw
  simp
  by_cases hc : t = y
  · subst hc; simp
  · have key : ∀ p q : Int, (if p < q then (-1 : Int) else if q < p then 1 else 0) = 0 → p = q := by
      intro p q hh
      split at hh
      · omega
      · split at hh <;> omega
    refine ⟨fun hh => absurd ?_ hc, fun c => absurd c hc⟩
    replace hh := key _ _ hh
    have m1 := mag_lt t; have m2 := mag_lt y
    cases g1 : ng t <;> cases g2 : ng y
    · rw [g1, g2] at hh; rw [g1] at e2; rw [g2] at e1
      rw [← e1, ← e2, show mag t = mag y by simp at hh; omega]
    · rw [g1, g2] at hh; simp at hh; omega
    · rw [g1, g2] at hh; simp at hh; omega
    · rw [g1, g2] at hh; rw [g1] at e2; rw [g2] at e1
      rw [← e1, ← e2, show mag t = mag y by simp at hh; omega]
theorem powF_nan : ∀ (f : Nat) (n : Int) (r b : Nat), 0 < n → n < 2 ^ f → nan b = true → powF f n r b = NaN
  | 0, n, r, b, h0, h1, hb => absurd h1 (by omega)
  | f + 1, n, r, b, h0, h1, hb => by
    unfold powF
    rw [if_pos h0]
    by_cases hn : 0 < n / 2
    · rw [if_pos hn]
      exact powF_nan f _ _ _ hn (by have : (2 : Int) ^ (f + 1) = 2 ^ f * 2 := Int.pow_succ 2 f; omega) (by rw [mul_nan hb]; exact nan_NaN)
    · rw [if_neg hn, if_pos (by omega), mul_nan' hb]
      have : n / 2 = 0 := by omega
      rw [this]
      cases f with
      | zero => rfl
      | succ f => unfold powF; rw [if_neg (by decide)]
theorem powN_nan {x : Nat} {n : Int} (h : nan x = true) (h0 : 0 < n) (h1 : n ≤ 100000) : powN x n = NaN := powF_nan 20 n One x h0 (by omega) h
theorem cell_pos {y : Nat} (h : nan y = false) (hz : zer y = false) (hw : wholeV 0 y = y) (g : belowV (ofV 1024) (absV y) = false) : 0 < toLo (absV y) := by
  rw [mag_absV h] at g ⊢
  have hn : nan (mag y) = false := by rw [nanOf_mag]; exact h
  have hm : mag y ≤ 4652218415073722368 := by
    rw [below_pos (by decide) hn (by decide) (ng_mag y), mag_mag, show mag (ofV 1024) = 4652218415073722368 by decide] at g
    have := of_decide_eq_false g
    omega
  have hi : inf (mag y) = false := by unfold inf; rw [mag_mag]; exact decide_eq_false (by omega)
  have hz' : zer (mag y) = false := by unfold zer at hz ⊢; rw [mag_mag]; exact hz
  have se1 : se (mag y) ≤ -42 := by unfold se ex; rw [mag_mag]; split <;> omega
  obtain ⟨_, s2, _, s4, s5⟩ := same_mag (mag_mag y)
  obtain ⟨q, hqq⟩ : ∃ q, sm (mag y) / 2 ^ (-se (mag y)).toNat = q := ⟨_, rfl⟩
  have ht : wholeV 0 (mag y) = pat q 0 false := by
    rw [← hqq]
    unfold wholeV wq
    rw [hn, hi, hz', ng_mag, if_neg (show ¬ 0 ≤ se (mag y) by omega)]
    simp [sg]
  have hq : q ≤ 2048 := by
    have h1 := sm_lt (mag y)
    have h2 : 2 ^ 42 ≤ 2 ^ (-se (mag y)).toNat := pow_le (by omega)
    have h3 : sm (mag y) / 2 ^ (-se (mag y)).toNat ≤ sm (mag y) / 2 ^ 42 := Nat.div_le_div_left h2 (by decide)
    have : sm (mag y) / 2 ^ 42 ≤ 2048 := by omega
    omega
  have q0 : q ≠ 0 := by
    intro q0
    have e : wholeV 0 y = sg (ng y) (pat q 0 false) := by
      rw [← hqq, s4, s5]
      unfold wholeV wq
      rw [h, ← s2, hi, hz, if_neg (show ¬ 0 ≤ se y by omega)]
      simp
    rw [q0, pat_zero] at e
    rw [e] at hw
    rw [← hw] at hz
    unfold zer at hz
    rw [mag_sg (by decide)] at hz
    exact absurd hz (by decide)
  rw [toLo_small hn hi (by omega) ht]
  omega
