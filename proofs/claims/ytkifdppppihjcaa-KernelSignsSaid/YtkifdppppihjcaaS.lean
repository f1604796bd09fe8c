/- Texts S, for this seat. -/


namespace Go.Proofs.Ytkifdppppihjcaa.SF
set_option linter.unusedVariables false
set_option linter.unusedSimpArgs false

def bl (n : Nat) : Nat := if n = 0 then 0 else n.log2 + 1
theorem bl_zero : bl 0 = 0 := rfl
theorem bl_lt (n : Nat) : n < 2 ^ bl n := by
  unfold bl; split
  · subst_vars; simp
  · exact Nat.lt_log2_self
theorem bl_le {n : Nat} (h : n ≠ 0) : 2 ^ (bl n - 1) ≤ n := by
  unfold bl; rw [if_neg h]; simpa using Nat.log2_self_le h
theorem bl_pos {n : Nat} (h : n ≠ 0) : 1 ≤ bl n := by unfold bl; rw [if_neg h]; omega
theorem pow_le {a b : Nat} (h : a ≤ b) : 2 ^ a ≤ 2 ^ b := Nat.pow_le_pow_right (by decide) h
theorem pow_pos (a : Nat) : 0 < 2 ^ a := Nat.two_pow_pos a
theorem lt_of_pow {a b : Nat} (h : 2 ^ a < 2 ^ b) : a < b := (Nat.pow_lt_pow_iff_right (by decide)).1 h
theorem bl_le_of_lt {n k : Nat} (h : n < 2 ^ k) : bl n ≤ k := by
  by_cases h0 : n = 0
  · subst h0; exact Nat.zero_le _
  · have h1 := bl_le h0
    have h2 := lt_of_pow (Nat.lt_of_le_of_lt h1 h)
    omega
theorem lt_bl_of_le {n k : Nat} (h : 2 ^ k ≤ n) : k < bl n := lt_of_pow (Nat.lt_of_le_of_lt h (bl_lt n))
theorem bl_eq {n k : Nat} (h1 : 2 ^ k ≤ n) (h2 : n < 2 ^ (k + 1)) : bl n = k + 1 := by
  have := bl_le_of_lt h2
  have := lt_bl_of_le h1
  omega
theorem bl_add {n s r : Nat} (h : n ≠ 0) (hr : r < 2 ^ s) : bl (n * 2 ^ s + r) = bl n + s := by
  have hp := bl_pos h
  have e1 : bl n + s = (bl n - 1 + s) + 1 := by omega
  rw [e1]
  apply bl_eq
  · rw [Nat.pow_add]
    exact Nat.le_trans (Nat.mul_le_mul_right _ (bl_le h)) (Nat.le_add_right _ _)
  · rw [show bl n - 1 + s + 1 = bl n + s by omega, Nat.pow_add]
    calc n * 2 ^ s + r < n * 2 ^ s + 2 ^ s := by omega
      _ = (n + 1) * 2 ^ s := by rw [Nat.add_mul, Nat.one_mul]
      _ ≤ 2 ^ bl n * 2 ^ s := Nat.mul_le_mul_right _ (bl_lt n)
theorem bl_mul {n : Nat} (s : Nat) (h : n ≠ 0) : bl (n * 2 ^ s) = bl n + s := by
  have := bl_add (s := s) (r := 0) h (pow_pos s)
  simpa using this

/-- To the nearest, ties to even; 'rest': there is a little more. -/
def rne (m c : Nat) (rest : Bool) : Nat :=
  if 2 ^ c < 2 * (m % 2 ^ c) ∨ (2 * (m % 2 ^ c) = 2 ^ c ∧ (rest = true ∨ m / 2 ^ c % 2 = 1)) then m / 2 ^ c + 1 else m / 2 ^ c
theorem rne_ge (m c : Nat) (rest : Bool) : m / 2 ^ c ≤ rne m c rest := by unfold rne; split <;> omega
theorem rne_le (m c : Nat) (rest : Bool) : rne m c rest ≤ m / 2 ^ c + 1 := by unfold rne; split <;> omega
theorem rne_exact (m c : Nat) : rne (m * 2 ^ c) c false = m := by
  unfold rne
  have := pow_pos c
  rw [Nat.mul_mod_left, Nat.mul_div_cancel _ this, if_neg (by omega)]
theorem mod_split (m c s r : Nat) (hr : r < 2 ^ s) : (m * 2 ^ s + r) / 2 ^ (c + s) = m / 2 ^ c ∧ (m * 2 ^ s + r) % 2 ^ (c + s) = (m % 2 ^ c) * 2 ^ s + r := by
  have hp := pow_pos s
  have h1 : (m * 2 ^ s + r) / 2 ^ s = m := by
    rw [Nat.add_comm, Nat.add_mul_div_right _ _ hp, Nat.div_eq_of_lt hr, Nat.zero_add]
  have h2 : (m * 2 ^ s + r) % 2 ^ s = r := by
    rw [Nat.add_comm, Nat.add_mul_mod_self_right, Nat.mod_eq_of_lt hr]
  constructor
  · rw [Nat.pow_add, Nat.mul_comm (2 ^ c), ← Nat.div_div_eq_div_mul, h1]
  · rw [Nat.pow_add, Nat.mul_comm (2 ^ c), Nat.mod_mul, h1, h2, Nat.mul_comm (2 ^ s), Nat.add_comm]
theorem rne_sticky (m c s r : Nat) (hr : r < 2 ^ s) (hc : 1 ≤ c) : rne (m * 2 ^ s + r) (c + s) false = rne m c (decide (r ≠ 0)) := by
  obtain ⟨h1, h2⟩ := mod_split m c s r hr
  unfold rne
  rw [h1, h2]
  obtain ⟨d, rfl⟩ : ∃ d, c = d + 1 := ⟨c - 1, by omega⟩
  have hlt : m % 2 ^ (d + 1) < 2 ^ (d + 1) := Nat.mod_lt _ (pow_pos _)
  obtain ⟨R, hR⟩ : ∃ R, m % 2 ^ (d + 1) = R := ⟨_, rfl⟩
  obtain ⟨H, hH⟩ : ∃ H, 2 ^ d = H := ⟨_, rfl⟩
  have e1 : 2 ^ (d + 1) = 2 * H := by rw [← hH, Nat.pow_succ]; omega
  have e2 : 2 ^ (d + 1 + s) = 2 * (H * 2 ^ s) := by rw [Nat.pow_add, e1, Nat.mul_assoc]
  rw [hR, e1, e2]
  have k1 : 2 * (H * 2 ^ s) < 2 * (R * 2 ^ s + r) ↔ (H < R ∨ (R = H ∧ r ≠ 0)) := by
    constructor
    · intro h
      rcases Nat.lt_trichotomy H R with g | g | g
      · exact .inl g
      · subst g; exact .inr ⟨rfl, by omega⟩
      · exfalso
        have : (R + 1) * 2 ^ s ≤ H * 2 ^ s := Nat.mul_le_mul_right _ g
        rw [Nat.add_mul] at this
        omega
    · rintro (h | ⟨rfl, h⟩)
      · have : (H + 1) * 2 ^ s ≤ R * 2 ^ s := Nat.mul_le_mul_right _ h
        rw [Nat.add_mul] at this
        have := pow_pos s
        omega
      · omega
  have k2 : 2 * (R * 2 ^ s + r) = 2 * (H * 2 ^ s) ↔ (R = H ∧ r = 0) := by
    constructor
    · intro h
      rcases Nat.lt_trichotomy H R with g | g | g
      · exfalso
        have : (H + 1) * 2 ^ s ≤ R * 2 ^ s := Nat.mul_le_mul_right _ g
        rw [Nat.add_mul] at this
        omega
      · subst g; exact ⟨rfl, by omega⟩
      · exfalso
        have : (R + 1) * 2 ^ s ≤ H * 2 ^ s := Nat.mul_le_mul_right _ g
        rw [Nat.add_mul] at this
        omega
    · rintro ⟨rfl, rfl⟩; rfl
  have k3 : (2 * (H * 2 ^ s) < 2 * (R * 2 ^ s + r) ∨ (2 * (R * 2 ^ s + r) = 2 * (H * 2 ^ s) ∧ (false = true ∨ m / (2 * H) % 2 = 1))) ↔
      (2 * H < 2 * R ∨ (2 * R = 2 * H ∧ (decide (r ≠ 0) = true ∨ m / (2 * H) % 2 = 1))) := by
    rw [k1, k2]
    simp only [decide_eq_true_eq]
    constructor
    · rintro ((h | ⟨rfl, h⟩) | ⟨⟨rfl, h⟩, h2 | h2⟩)
      · exact .inl (by omega)
      · exact .inr ⟨rfl, .inl h⟩
      · simp at h2
      · exact .inr ⟨rfl, .inr h2⟩
    · rintro (h | ⟨h, h2 | h2⟩)
      · exact .inl (.inl (by omega))
      · exact .inl (.inr ⟨by omega, h2⟩)
      · by_cases hz : r = 0
        · exact .inr ⟨⟨by omega, hz⟩, .inr h2⟩
        · exact .inl (.inr ⟨by omega, hz⟩)
  by_cases hk : 2 * H < 2 * R ∨ (2 * R = 2 * H ∧ (decide (r ≠ 0) = true ∨ m / (2 * H) % 2 = 1))
  · rw [if_pos hk, if_pos (k3.2 hk)]
  · rw [if_neg hk, if_neg (fun h => hk (k3.1 h))]
/-- The exponent of the last digit. -/
def qz (p : Nat) (low : Int) (b : Nat) (e : Int) : Int := max ((b : Int) + e - p) low
def vz (p : Nat) (low : Int) (m : Nat) (e : Int) (rest : Bool) : Nat :=
  if qz p low (bl m) e ≤ e then m * 2 ^ (e - qz p low (bl m) e).toNat else rne m (qz p low (bl m) e - e).toNat rest
/-- The size of the nearest float of a format, as a pattern. -/
def patG (p : Nat) (low high : Int) (m : Nat) (e : Int) (rest : Bool) : Nat :=
  if m = 0 then 0 else min ((qz p low (bl m) e - low).toNat * 2 ^ (p - 1) + vz p low m e rest) ((high - low + 2).toNat * 2 ^ (p - 1))
theorem vz_pos {p : Nat} {low : Int} {m : Nat} {e : Int} {rest : Bool} (h : qz p low (bl m) e ≤ e) : vz p low m e rest = m * 2 ^ (e - qz p low (bl m) e).toNat := by unfold vz; rw [if_pos h]
theorem vz_neg {p : Nat} {low : Int} {m : Nat} {e : Int} {rest : Bool} (h : e < qz p low (bl m) e) : vz p low m e rest = rne m (qz p low (bl m) e - e).toNat rest := by unfold vz; rw [if_neg (by omega)]
theorem vz_le (p : Nat) (low : Int) (m : Nat) (e : Int) (rest : Bool) : vz p low m e rest ≤ 2 ^ p := by
  obtain ⟨q, hq⟩ : ∃ q, qz p low (bl m) e = q := ⟨_, rfl⟩
  have hq' : (bl m : Int) + e - p ≤ q := by rw [← hq]; unfold qz; omega
  by_cases h : q ≤ e
  · rw [vz_pos (by rw [hq]; exact h), hq]
    have h1 := bl_lt m
    calc m * 2 ^ (e - q).toNat ≤ 2 ^ bl m * 2 ^ (e - q).toNat := Nat.mul_le_mul_right _ (Nat.le_of_lt h1)
      _ = 2 ^ (bl m + (e - q).toNat) := (Nat.pow_add _ _ _).symm
      _ ≤ 2 ^ p := pow_le (by omega)
  · rw [vz_neg (by rw [hq]; omega), hq]
    have h1 := bl_lt m
    have h2 : m / 2 ^ (q - e).toNat < 2 ^ p := by
      rw [Nat.div_lt_iff_lt_mul (pow_pos _), ← Nat.pow_add]
      exact Nat.lt_of_lt_of_le h1 (pow_le (by omega))
    have := rne_le m (q - e).toNat rest
    omega
theorem vz_lt {p : Nat} {low : Int} {m : Nat} {e : Int} {rest : Bool} (h : qz p low (bl m) e ≤ e) : vz p low m e rest < 2 ^ p := by
  rw [vz_pos h]
  obtain ⟨q, hq⟩ : ∃ q, qz p low (bl m) e = q := ⟨_, rfl⟩
  have hq' : (bl m : Int) + e - p ≤ q := by rw [← hq]; unfold qz; omega
  rw [hq] at h ⊢
  have h1 := bl_lt m
  calc m * 2 ^ (e - q).toNat < 2 ^ bl m * 2 ^ (e - q).toNat := Nat.mul_lt_mul_of_pos_right h1 (pow_pos _)
    _ = 2 ^ (bl m + (e - q).toNat) := (Nat.pow_add _ _ _).symm
    _ ≤ 2 ^ p := pow_le (by omega)
/-- A float that is not of the least ones has its highest digit. -/
theorem vz_ge {p : Nat} {low : Int} {m : Nat} {e : Int} {rest : Bool} (hp : 1 ≤ p) (h0 : m ≠ 0) (h : low < qz p low (bl m) e) : 2 ^ (p - 1) ≤ vz p low m e rest := by
  obtain ⟨q, hq⟩ : ∃ q, qz p low (bl m) e = q := ⟨_, rfl⟩
  have hq' : (bl m : Int) + e - p = q := by rw [hq] at h; rw [← hq] at h ⊢; unfold qz at *; omega
  have h1 := bl_le h0
  have h2 := bl_pos h0
  by_cases g : q ≤ e
  · rw [vz_pos (by rw [hq]; exact g), hq]
    calc 2 ^ (p - 1) ≤ 2 ^ (bl m - 1 + (e - q).toNat) := pow_le (by omega)
      _ = 2 ^ (bl m - 1) * 2 ^ (e - q).toNat := Nat.pow_add _ _ _
      _ ≤ m * 2 ^ (e - q).toNat := Nat.mul_le_mul_right _ h1
  · rw [vz_neg (by rw [hq]; omega), hq]
    refine Nat.le_trans ?_ (rne_ge _ _ _)
    rw [Nat.le_div_iff_mul_le (pow_pos _), ← Nat.pow_add]
    exact Nat.le_trans (pow_le (by omega)) h1
theorem patG_zero (p : Nat) (low high : Int) (e : Int) (rest : Bool) : patG p low high 0 e rest = 0 := by unfold patG; rw [if_pos rfl]
theorem patG_ne {p : Nat} {low high : Int} {m : Nat} (h : m ≠ 0) (e : Int) (rest : Bool) : patG p low high m e rest = min ((qz p low (bl m) e - low).toNat * 2 ^ (p - 1) + vz p low m e rest) ((high - low + 2).toNat * 2 ^ (p - 1)) := by unfold patG; rw [if_neg h]
theorem patG_le (p : Nat) (low high : Int) (m : Nat) (e : Int) (rest : Bool) : patG p low high m e rest ≤ (high - low + 2).toNat * 2 ^ (p - 1) := by
  unfold patG; split
  · exact Nat.zero_le _
  · exact Nat.min_le_right _ _
/-- Digits and exponent, as both texts make them; and the pattern out of them. -/
def rv (p : Nat) (low : Int) (m : Nat) (e : Int) (rest : Bool) : Nat := if vz p low m e rest = 2 ^ p then 2 ^ (p - 1) else vz p low m e rest
def rx (p : Nat) (low : Int) (m : Nat) (e : Int) (rest : Bool) : Int := if vz p low m e rest = 2 ^ p then qz p low (bl m) e + 1 else qz p low (bl m) e
theorem patG_over {p : Nat} {low high : Int} {m : Nat} {e : Int} {rest : Bool} (hp : 1 ≤ p) (h0 : m ≠ 0) (hl : low ≤ high) (h : high < rx p low m e rest) : patG p low high m e rest = (high - low + 2).toNat * 2 ^ (p - 1) := by
  rw [patG_ne h0]
  apply Nat.min_eq_right
  obtain ⟨q, hq⟩ : ∃ q, qz p low (bl m) e = q := ⟨_, rfl⟩
  unfold rx at h
  rw [hq] at h ⊢
  by_cases hv : vz p low m e rest = 2 ^ p
  · rw [if_pos hv] at h
    rw [hv]
    have e1 : 2 ^ p = 2 * 2 ^ (p - 1) := by rw [Nat.mul_comm, ← Nat.pow_succ]; congr 1; omega
    rw [e1, ← Nat.add_mul]
    exact Nat.mul_le_mul_right _ (by omega)
  · rw [if_neg hv] at h
    have := vz_ge (rest := rest) hp h0 (by rw [hq]; omega)
    calc (high - low + 2).toNat * 2 ^ (p - 1) ≤ ((q - low).toNat + 1) * 2 ^ (p - 1) := Nat.mul_le_mul_right _ (by omega)
      _ = (q - low).toNat * 2 ^ (p - 1) + 2 ^ (p - 1) := by rw [Nat.add_mul, Nat.one_mul]
      _ ≤ _ := by omega
theorem qz_ge (p : Nat) (low : Int) (b : Nat) (e : Int) : low ≤ qz p low b e := by unfold qz; omega
theorem patG_under {p : Nat} {low high : Int} {m : Nat} {e : Int} {rest : Bool} (hp : 1 ≤ p) (h0 : m ≠ 0) (hl : low ≤ high) (h : rx p low m e rest ≤ high) :
    patG p low high m e rest = (if rv p low m e rest < 2 ^ (p - 1) then rv p low m e rest else (rx p low m e rest - low + 1).toNat * 2 ^ (p - 1) + (rv p low m e rest - 2 ^ (p - 1))) := by
  rw [patG_ne h0]
  have e1 : 2 ^ p = 2 * 2 ^ (p - 1) := by rw [Nat.mul_comm, ← Nat.pow_succ]; congr 1; omega
  have pp := pow_pos (p - 1)
  have hge := qz_ge p low (bl m) e
  have hvl := vz_le p low m e rest
  have hvg := fun h => vz_ge (rest := rest) (e := e) (low := low) hp h0 h
  obtain ⟨q, hq⟩ : ∃ q, qz p low (bl m) e = q := ⟨_, rfl⟩
  obtain ⟨v, hv⟩ : ∃ v, vz p low m e rest = v := ⟨_, rfl⟩
  unfold rx rv at *
  rw [hq] at h hge hvg ⊢
  rw [hv] at h hvl hvg ⊢
  by_cases g : v = 2 ^ p
  · rw [if_pos g] at h
    rw [if_pos g, if_pos g, if_neg (Nat.lt_irrefl _), Nat.sub_self, Nat.add_zero, g, e1, ← Nat.add_mul]
    rw [Nat.min_eq_left (Nat.mul_le_mul_right _ (by omega))]
    congr 1
    omega
  · rw [if_neg g] at h
    rw [if_neg g, if_neg g]
    have hv2 : v < 2 ^ p := by omega
    rw [Nat.min_eq_left]
    · by_cases s : v < 2 ^ (p - 1)
      · rw [if_pos s]
        have : q = low := by
          rcases Int.lt_or_eq_of_le hge with c | c
          · exact absurd (hvg c) (by omega)
          · omega
        subst this
        simp
      · rw [if_neg s]
        have e2 : (q - low + 1).toNat = (q - low).toNat + 1 := by omega
        rw [e2, Nat.add_mul, Nat.one_mul]
        omega
    · calc (q - low).toNat * 2 ^ (p - 1) + v ≤ (q - low).toNat * 2 ^ (p - 1) + 2 * 2 ^ (p - 1) := by omega
        _ = ((q - low).toNat + 2) * 2 ^ (p - 1) := by rw [Nat.add_mul]
        _ ≤ _ := Nat.mul_le_mul_right _ (by omega)
/-- Scaling changes nothing. -/
theorem patG_scale {p : Nat} {low high : Int} (m k : Nat) (e : Int) : patG p low high (m * 2 ^ k) (e - k) false = patG p low high m e false := by
  by_cases h0 : m = 0
  · subst h0; rw [Nat.zero_mul, patG_zero, patG_zero]
  have h1 : m * 2 ^ k ≠ 0 := Nat.mul_ne_zero h0 (by have := pow_pos k; omega)
  rw [patG_ne h0, patG_ne h1, bl_mul k h0]
  have eq : qz p low (bl m + k) (e - k) = qz p low (bl m) e := by unfold qz; omega
  have ev : vz p low (m * 2 ^ k) (e - k) false = vz p low m e false := by
    obtain ⟨q, hq⟩ : ∃ q, qz p low (bl m) e = q := ⟨_, rfl⟩
    have eq2 : qz p low (bl (m * 2 ^ k)) (e - k) = q := by rw [bl_mul k h0, eq, hq]
    by_cases g : q ≤ e
    · rw [vz_pos (m := m) (e := e) (by rw [hq]; exact g), hq]
      by_cases g2 : q ≤ e - k
      · rw [vz_pos (by rw [eq2]; exact g2), eq2, Nat.mul_assoc, ← Nat.pow_add]
        congr 2
        omega
      · rw [vz_neg (by rw [eq2]; omega), eq2]
        have : k = (e - q).toNat + (q - (e - k)).toNat := by omega
        conv => lhs; arg 1; rw [this]
        rw [Nat.pow_add, ← Nat.mul_assoc, rne_exact]
    · rw [vz_neg (m := m) (e := e) (by rw [hq]; omega), hq, vz_neg (by rw [eq2]; omega), eq2]
      have := rne_sticky m (q - e).toNat k 0 (pow_pos k) (by omega)
      rw [Nat.add_zero] at this
      rw [show (q - (e - (k : Int))).toNat = (q - e).toNat + k by omega, this]
      simp
  rw [eq, ev]
/-- A little more, told by one digit. -/
theorem patG_sticky {p : Nat} {low high : Int} (m s r : Nat) (e : Int) (h0 : m ≠ 0) (hr : r < 2 ^ s) (hq : e < qz p low (bl m) e) : patG p low high (m * 2 ^ s + r) (e - s) false = patG p low high m e (decide (r ≠ 0)) := by
  have h1 : m * 2 ^ s + r ≠ 0 := by
    have := Nat.mul_ne_zero h0 (show 2 ^ s ≠ 0 by have := pow_pos s; omega)
    omega
  have eb := bl_add (s := s) h0 hr
  rw [patG_ne h0, patG_ne h1, eb]
  have eq : qz p low (bl m + s) (e - s) = qz p low (bl m) e := by unfold qz; omega
  rw [eq]
  have ev : vz p low (m * 2 ^ s + r) (e - s) false = vz p low m e (decide (r ≠ 0)) := by
    rw [vz_neg (by rw [eb, eq]; omega), vz_neg hq, eb, eq, ← rne_sticky m _ s r hr (by omega)]
    congr 1
    omega
  rw [ev]
end Go.Proofs.Ytkifdppppihjcaa.SF

namespace Go.Proofs.Ytkifdppppihjcaa.SF
set_option linter.unusedVariables false
set_option linter.unusedSimpArgs false

def pat (m : Nat) (e : Int) (rest : Bool) : Nat := patG 53 (-1074) 971 m e rest
theorem pat_le (m : Nat) (e : Int) (rest : Bool) : pat m e rest ≤ 9218868437227405312 := patG_le 53 (-1074) 971 m e rest
theorem pat_zero (e : Int) (rest : Bool) : pat 0 e rest = 0 := patG_zero _ _ _ _ _
theorem pat_scale (m k : Nat) (e : Int) : pat (m * 2 ^ k) (e - k) false = pat m e false := patG_scale m k e
theorem pat_scale' (m k : Nat) (e e' : Int) (h : e' = e - k) : pat (m * 2 ^ k) e' false = pat m e false := by subst h; exact pat_scale m k e
theorem qz_gt {m : Nat} {e : Int} (h : 2 ^ 53 ≤ m) : e < qz 53 (-1074) (bl m) e := by
  have := lt_bl_of_le h
  unfold qz; omega
theorem pat_sticky (m s r : Nat) (e e' : Int) (h0 : 2 ^ 53 ≤ m) (hr : r < 2 ^ s) (he : e' = e - s) : pat (m * 2 ^ s + r) e' false = pat m e (decide (r ≠ 0)) := by
  subst he
  exact patG_sticky m s r e (by have := pow_pos 53; omega) hr (qz_gt h0)
theorem patG_huge {p : Nat} {low high : Int} {m : Nat} {e : Int} (rest : Bool) (hp : 1 ≤ p) (h0 : m ≠ 0) (hl : low ≤ high) (h : high + p ≤ e) : patG p low high m e rest = (high - low + 2).toNat * 2 ^ (p - 1) := by
  refine patG_over hp h0 hl ?_
  have := bl_pos h0
  have : high + 1 ≤ qz p low (bl m) e := by unfold qz; omega
  unfold rx; split <;> omega
theorem pat_huge {m : Nat} {e : Int} (rest : Bool) (h0 : m ≠ 0) (h : 1024 ≤ e) : pat m e rest = 9218868437227405312 := patG_huge rest (by decide) h0 (by decide) (by omega)
theorem rne_small {m c : Nat} (rest : Bool) (h : 2 * m < 2 ^ c) : rne m c rest = 0 := by
  unfold rne
  rw [Nat.mod_eq_of_lt (by omega), Nat.div_eq_of_lt (by omega), if_neg (by omega)]
theorem patG_tiny {p : Nat} {low high : Int} {m : Nat} {e : Int} (rest : Bool) (hp : 1 ≤ p) (h : (bl m : Int) + e + 2 ≤ low) : patG p low high m e rest = 0 := by
  by_cases h0 : m = 0
  · subst h0; exact patG_zero _ _ _ _ _
  have hq : qz p low (bl m) e = low := by unfold qz; omega
  have hv : vz p low m e rest = 0 := by
    rw [vz_neg (by rw [hq]; omega), hq]
    apply rne_small
    have := bl_lt m
    calc 2 * m < 2 * 2 ^ bl m := by omega
      _ = 2 ^ (bl m + 1) := by rw [Nat.pow_succ, Nat.mul_comm]
      _ ≤ _ := pow_le (by omega)
  rw [patG_ne h0, hq, hv]
  simp
theorem pat_tiny {m : Nat} {e : Int} (rest : Bool) (h : (bl m : Int) + e ≤ -1076) : pat m e rest = 0 := patG_tiny rest (by decide) (by omega)
/-- Exponents far away are all alike. -/
theorem pat_clamp (m : Nat) (e : Int) (rest : Bool) (c : Int) (hc : 1024 ≤ c) (hb : (bl m : Int) + 1076 ≤ c) : pat m (min (max e (-c)) c) rest = pat m e rest := by
  by_cases h0 : m = 0
  · subst h0; rw [pat_zero, pat_zero]
  by_cases h1 : c < e
  · rw [show min (max e (-c)) c = c by omega, pat_huge rest h0 hc, pat_huge rest h0 (by omega)]
  · by_cases h2 : e < -c
    · rw [show min (max e (-c)) c = -c by omega, pat_tiny rest (by omega), pat_tiny rest (by omega)]
    · rw [show min (max e (-c)) c = e by omega]

/-- Patterns. -/
def mag (a : Nat) : Nat := a % 9223372036854775808
def ng (a : Nat) : Bool := decide (9223372036854775808 ≤ a)
def nan (a : Nat) : Bool := decide (9218868437227405312 < mag a)
def inf (a : Nat) : Bool := decide (mag a = 9218868437227405312)
def zer (a : Nat) : Bool := decide (mag a = 0)
def sg (n : Bool) (p : Nat) : Nat := if n then p + 9223372036854775808 else p
def NaN : Nat := 9221120237041090560
def Inf : Nat := 9218868437227405312
def ex (a : Nat) : Nat := mag a / 4503599627370496
def fr (a : Nat) : Nat := a % 4503599627370496
def sm (a : Nat) : Nat := if ex a = 0 then fr a else fr a + 4503599627370496
def se (a : Nat) : Int := if ex a = 0 then -1074 else (ex a : Int) - 1075
def W (a : Nat) : Prop := a < 18446744073709551616
theorem mag_lt (a : Nat) : mag a < 9223372036854775808 := by unfold mag; omega
theorem sg_mag {a : Nat} (h : W a) : sg (ng a) (mag a) = a := by
  unfold W at h
  unfold sg ng mag
  by_cases g : 9223372036854775808 ≤ a
  · rw [if_pos (by simpa using g)]; omega
  · rw [if_neg (by simpa using g)]; omega
theorem mag_sg {n : Bool} {p : Nat} (h : p < 9223372036854775808) : mag (sg n p) = p := by unfold mag sg; split <;> omega
theorem ng_sg {n : Bool} {p : Nat} (h : p < 9223372036854775808) : ng (sg n p) = n := by
  unfold ng sg; cases n
  · simp; omega
  · simp
theorem W_sg {n : Bool} {p : Nat} (h : p < 9223372036854775808) : W (sg n p) := by unfold W sg; split <;> omega
theorem sm_lt (a : Nat) : sm a < 9007199254740992 := by unfold sm fr; split <;> omega
theorem se_ge (a : Nat) : -1074 ≤ se a := by unfold se; split <;> omega
theorem se_le {a : Nat} (h1 : nan a = false) (h2 : inf a = false) : se a ≤ 971 := by
  unfold nan at h1; unfold inf at h2
  simp at h1 h2
  unfold se ex
  split <;> omega
theorem sm_zero {a : Nat} : sm a = 0 ↔ zer a = true := by
  unfold sm zer ex fr mag
  rw [decide_eq_true_eq]
  split <;> omega
theorem sm_norm {a : Nat} (h : -1074 < se a) : 4503599627370496 ≤ sm a := by
  unfold se at h; unfold sm
  split
  · rename_i g; rw [if_pos g] at h; omega
  · omega
/-- A float is the nearest one of its number. -/
theorem pat_fix {a : Nat} (h1 : nan a = false) (h2 : inf a = false) : pat (sm a) (se a) false = mag a := by
  have hm : mag a < 9218868437227405312 := by
    unfold nan at h1; unfold inf at h2; simp at h1 h2; omega
  by_cases h0 : sm a = 0
  · have := sm_zero.1 h0
    unfold zer at this
    rw [decide_eq_true_eq] at this
    rw [h0, pat_zero, this]
  have hs := sm_lt a
  have hb : bl (sm a) ≤ 53 := bl_le_of_lt (k := 53) hs
  have hge := se_ge a
  have hq : qz 53 (-1074) (bl (sm a)) (se a) = se a := by
    unfold qz
    by_cases g : -1074 < se a
    · have : 52 < bl (sm a) := lt_bl_of_le (sm_norm g)
      omega
    · omega
  unfold pat
  rw [patG_ne h0, vz_pos (by rw [hq]; omega), hq, Int.sub_self]
  have hx : ex a = mag a / 4503599627370496 := rfl
  have hf : fr a = mag a % 4503599627370496 := by unfold fr mag; omega
  have e1 : (se a - -1074).toNat * 2 ^ (53 - 1) + sm a * 2 ^ (0 : Int).toNat = mag a := by
    show (se a - -1074).toNat * 4503599627370496 + sm a * 1 = mag a
    unfold se sm
    split
    · rename_i g; rw [hf]; omega
    · rename_i g; rw [hf]; omega
  rw [e1]
  exact Nat.min_eq_left (Nat.le_of_lt hm)
/-- The float of a whole number times a power of two. -/
def packI (S : Int) (e : Int) : Nat := if S = 0 then 0 else sg (decide (S < 0)) (pat S.natAbs e false)
theorem packI_scale (S : Int) (k : Nat) (e e' : Int) (h : e' = e - k) : packI (S * 2 ^ k) e' = packI S e := by
  unfold packI
  have hp : (0 : Int) < 2 ^ k := Int.pow_pos (by decide)
  by_cases h0 : S = 0
  · subst h0; simp
  · have e1 : S * 2 ^ k ≠ 0 := Int.mul_ne_zero h0 (by omega)
    have e2 : (S * 2 ^ k).natAbs = S.natAbs * 2 ^ k := by
      rw [Int.natAbs_mul, Int.natAbs_pow]; rfl
    have e3 : decide (S * 2 ^ k < 0) = decide (S < 0) := by
      rw [decide_eq_decide]
      constructor
      · intro h
        rcases Int.lt_or_le S 0 with g | g
        · exact g
        · have := Int.mul_nonneg g (Int.le_of_lt hp); omega
      · intro h; exact Int.mul_neg_of_neg_of_pos h hp
    rw [if_neg h0, if_neg e1, e2, e3, pat_scale' _ _ _ _ h]
/-- The signed digits. -/
def sv (a : Nat) : Int := if ng a then -(sm a : Int) else (sm a : Int)
def addS (a b : Nat) : Int := sv a * 2 ^ (se a - min (se a) (se b)).toNat + sv b * 2 ^ (se b - min (se a) (se b)).toNat
def addF (a b : Nat) : Nat := if zer a && zer b then sg (ng a && ng b) 0 else packI (addS a b) (min (se a) (se b))
def addV (a b : Nat) : Nat :=
  if nan a || nan b then NaN else if inf a then (if inf b && decide (a ≠ b) then NaN else a) else if inf b then b else addF a b
theorem addS_comm (a b : Nat) : addS a b = addS b a := by unfold addS; rw [Int.min_comm (se b), Int.add_comm]
theorem addF_comm (a b : Nat) : addF a b = addF b a := by unfold addF; rw [addS_comm, Int.min_comm (se b), Bool.and_comm (zer b), Bool.and_comm (ng b)]
theorem addV_comm (a b : Nat) : addV a b = addV b a := by
  unfold addV
  rw [addF_comm, Bool.or_comm (nan b)]
  by_cases h : (nan a || nan b) = true
  · rw [if_pos h, if_pos h]
  · rw [if_neg h, if_neg h]
    cases ha : inf a <;> cases hb : inf b <;> simp
    by_cases e : a = b
    · subst e; simp
    · rw [if_neg e, if_neg (fun h => e h.symm)]
end Go.Proofs.Ytkifdppppihjcaa.SF

namespace Go.Proofs.Ytkifdppppihjcaa.SF
set_option linter.unusedVariables false
set_option linter.unusedSimpArgs false

theorem P64 : (2 : Nat) ^ 64 = 18446744073709551616 := by decide
theorem shift_small (y d : Nat) (h : d ≤ 64) : y * 2 ^ 64 / 2 ^ d = y * 2 ^ (64 - d) ∧ y * 2 ^ 64 % 2 ^ d = 0 := by
  have e : y * 2 ^ 64 = y * 2 ^ (64 - d) * 2 ^ d := by rw [Nat.mul_assoc, ← Nat.pow_add]; congr 2; omega
  rw [e]
  exact ⟨Nat.mul_div_cancel _ (pow_pos d), Nat.mul_mod_left _ _⟩
theorem shift_big (y d s : Nat) (h : d = 64 + s) : y * 2 ^ 64 / 2 ^ d = y / 2 ^ s ∧ y * 2 ^ 64 % 2 ^ d = y % 2 ^ s * 2 ^ 64 := by
  subst h
  rw [Nat.pow_add]
  constructor
  · rw [Nat.mul_comm y, Nat.mul_div_mul_left _ _ (pow_pos 64)]
  · rw [Nat.mul_comm y, Nat.mul_mod_mul_left, Nat.mul_comm]
theorem add_same (x y : Nat) (e f : Int) (d : Nat) (hx : x ≠ 0) (hd : e = f + d) :
    pat (x * 2 ^ 64 + y * 2 ^ 64 / 2 ^ d) (e - 64) (decide (y * 2 ^ 64 % 2 ^ d ≠ 0)) = pat (x * 2 ^ d + y) f false := by
  by_cases h : d ≤ 64
  · obtain ⟨h1, h2⟩ := shift_small y d h
    rw [h1, h2]
    have e1 : x * 2 ^ 64 + y * 2 ^ (64 - d) = (x * 2 ^ d + y) * 2 ^ (64 - d) := by
      rw [Nat.add_mul, Nat.mul_assoc, ← Nat.pow_add]; congr 3; omega
    rw [e1]
    exact pat_scale' _ _ _ _ (by omega)
  · obtain ⟨s, hs⟩ : ∃ s, d = 64 + s := ⟨d - 64, by omega⟩
    obtain ⟨h1, h2⟩ := shift_big y d s hs
    rw [h1, h2]
    have ed : decide (y % 2 ^ s * 2 ^ 64 ≠ 0) = decide (y % 2 ^ s ≠ 0) := by
      rw [decide_eq_decide, P64]; omega
    have e1 : x * 2 ^ d + y = (x * 2 ^ 64 + y / 2 ^ s) * 2 ^ s + y % 2 ^ s := by
      rw [Nat.add_mul, Nat.mul_assoc, ← Nat.pow_add, ← hs]
      have := Nat.div_add_mod y (2 ^ s)
      rw [Nat.mul_comm (2 ^ s)] at this
      omega
    rw [ed, e1]
    exact (pat_sticky _ s _ (e - 64) f (by
      have h3 : 1 * 2 ^ 64 ≤ x * 2 ^ 64 := Nat.mul_le_mul_right _ (by omega)
      have h4 : (2 : Nat) ^ 53 ≤ 1 * 2 ^ 64 := by decide
      exact Nat.le_trans h4 (Nat.le_trans h3 (Nat.le_add_right _ _))) (Nat.mod_lt _ (pow_pos s)) (by omega)).symm
def less (x y d : Nat) : Nat := x * 2 ^ 64 - y * 2 ^ 64 / 2 ^ d - (if y * 2 ^ 64 % 2 ^ d ≠ 0 then 1 else 0)
theorem less_room (x y d : Nat) (h : y ≤ x * 2 ^ d) : y * 2 ^ 64 / 2 ^ d + (if y * 2 ^ 64 % 2 ^ d ≠ 0 then 1 else 0) ≤ x * 2 ^ 64 := by
  have hp := pow_pos d
  have h1 : y * 2 ^ 64 ≤ x * 2 ^ 64 * 2 ^ d := by
    calc y * 2 ^ 64 ≤ x * 2 ^ d * 2 ^ 64 := Nat.mul_le_mul_right _ h
      _ = _ := by rw [Nat.mul_assoc, Nat.mul_assoc, Nat.mul_comm (2 ^ d)]
  have h2 := Nat.div_add_mod (y * 2 ^ 64) (2 ^ d)
  have h3 : y * 2 ^ 64 / 2 ^ d ≤ x * 2 ^ 64 := by
    rw [← Nat.mul_div_cancel (x * 2 ^ 64) hp]; exact Nat.div_le_div_right h1
  split
  · rename_i g
    rcases Nat.lt_or_eq_of_le h3 with c | c
    · omega
    · rw [c, Nat.mul_comm (2 ^ d)] at h2
      omega
  · omega
theorem add_diff (x y : Nat) (e f : Int) (d : Nat) (hx : x ≠ 0) (hy : y < 2 ^ 53) (hd : e = f + d) (h0 : y ≤ x * 2 ^ d) (hn : 0 < d → 2 ^ 52 ≤ x) :
    pat (less x y d) (e - 64) (decide (y * 2 ^ 64 % 2 ^ d ≠ 0)) = pat (x * 2 ^ d - y) f false ∧ (less x y d = 0 ↔ x * 2 ^ d = y) := by
  have room := less_room x y d h0
  unfold less
  by_cases h : d ≤ 64
  · obtain ⟨h1, h2⟩ := shift_small y d h
    rw [h1, h2]
    have e1 : x * 2 ^ 64 - y * 2 ^ (64 - d) = (x * 2 ^ d - y) * 2 ^ (64 - d) := by
      rw [Nat.sub_mul, Nat.mul_assoc, ← Nat.pow_add]; congr 3; omega
    simp only [ne_eq, not_true, if_false, Nat.sub_zero, decide_false]
    rw [e1]
    constructor
    · exact pat_scale' _ _ _ _ (by omega)
    · rw [Nat.mul_eq_zero]
      have := pow_pos (64 - d)
      omega
  · obtain ⟨s, hs⟩ : ∃ s, d = 64 + s := ⟨d - 64, by omega⟩
    obtain ⟨h1, h2⟩ := shift_big y d s hs
    rw [h1, h2] at room ⊢
    have hx2 : 2 ^ 52 ≤ x := hn (by omega)
    have ps := pow_pos s
    have hym : y / 2 ^ s ≤ y := Nat.div_le_self _ _
    have big : 2 ^ 52 * 2 ^ 64 ≤ x * 2 ^ 64 := Nat.mul_le_mul_right _ hx2
    have n1 : (2 : Nat) ^ 53 + 2 ^ 53 + 1 ≤ 2 ^ 52 * 2 ^ 64 := by decide
    have eD : x * 2 ^ d = x * 2 ^ 64 * 2 ^ s := by rw [hs, Nat.pow_add, Nat.mul_assoc]
    have ey := Nat.div_add_mod y (2 ^ s)
    rw [Nat.mul_comm (2 ^ s)] at ey
    have bigD : x * 2 ^ 64 ≤ x * 2 ^ d := by rw [eD]; exact Nat.le_mul_of_pos_right _ ps
    have rl := Nat.mod_lt y ps
    obtain ⟨r, hr⟩ : ∃ r, y % 2 ^ s = r := ⟨_, rfl⟩
    obtain ⟨q, hq⟩ : ∃ q, y / 2 ^ s = q := ⟨_, rfl⟩
    rw [hr, hq] at ey
    rw [hr] at rl
    rw [hr, hq, eD]
    rw [hq] at hym
    rw [eD] at bigD
    by_cases g : r = 0
    · subst g
      simp only [Nat.zero_mul, ne_eq, not_true, if_false, Nat.sub_zero, decide_false]
      have e1 : x * 2 ^ 64 * 2 ^ s - y = (x * 2 ^ 64 - q) * 2 ^ s + 0 := by rw [Nat.sub_mul]; omega
      rw [e1]
      constructor
      · exact ((pat_sticky _ s 0 (e - 64) f (by omega) ps (by omega)).trans (by simp)).symm
      · constructor
        · intro c; omega
        · intro c; omega
    · have ed : decide (r * 2 ^ 64 ≠ 0) = decide (2 ^ s - r ≠ 0) := by
        rw [decide_eq_decide, P64]; omega
      have g2 : r * 2 ^ 64 ≠ 0 := by rw [P64]; omega
      rw [if_pos g2, ed]
      have e1 : x * 2 ^ 64 * 2 ^ s - y = (x * 2 ^ 64 - q - 1) * 2 ^ s + (2 ^ s - r) := by
        have e2 : x * 2 ^ 64 * 2 ^ s = (x * 2 ^ 64 - q - 1) * 2 ^ s + (q + 1) * 2 ^ s := by
          rw [← Nat.add_mul]; congr 1; omega
        rw [e2, Nat.add_mul, Nat.one_mul]
        omega
      rw [e1]
      constructor
      · exact (pat_sticky _ s _ (e - 64) f (by omega) (by omega) (by omega)).symm
      · constructor
        · intro c; omega
        · intro c; omega
/-- The sum as the program makes it: the first one has the greater exponent, or the greater digits. -/
def addP (xn yn : Bool) (x y : Nat) (e : Int) (d : Nat) : Nat :=
  if xn = yn then sg xn (pat (x * 2 ^ 64 + y * 2 ^ 64 / 2 ^ d) (e - 64) (decide (y * 2 ^ 64 % 2 ^ d ≠ 0)))
  else sg (xn && decide (less x y d ≠ 0)) (pat (less x y d) (e - 64) (decide (y * 2 ^ 64 % 2 ^ d ≠ 0)))
theorem packI_pos {n : Nat} (e : Int) (h : n ≠ 0) : packI (n : Int) e = sg false (pat n e false) := by
  unfold packI
  rw [if_neg (by omega), decide_eq_false (by omega)]
  rfl
theorem packI_neg {n : Nat} (e : Int) (h : n ≠ 0) : packI (-(n : Int)) e = sg true (pat n e false) := by
  unfold packI
  rw [if_neg (by omega), decide_eq_true (by omega), Int.natAbs_neg]
  rfl
theorem addP_eq {a b : Nat} {d : Nat} (ha : zer a = false) (hb : zer b = false) (hd : se a = se b + d) (h : d = 0 → sm b ≤ sm a) : addP (ng a) (ng b) (sm a) (sm b) (se a) d = addF a b := by
  have hx : sm a ≠ 0 := fun c => by rw [sm_zero.1 c] at ha; cases ha
  have hy : sm b ≠ 0 := fun c => by rw [sm_zero.1 c] at hb; cases hb
  have hyl := sm_lt b
  have hn : 0 < d → 2 ^ 52 ≤ sm a := fun g => sm_norm (by have := se_ge b; omega)
  have h0 : sm b ≤ sm a * 2 ^ d := by
    by_cases g : d = 0
    · subst g; simpa using h rfl
    · have h1 := hn (by omega)
      calc sm b ≤ 2 ^ 52 * 2 ^ 1 := Nat.le_of_lt hyl
        _ ≤ sm a * 2 ^ d := Nat.mul_le_mul h1 (pow_le (by omega))
  obtain ⟨ad1, ad2⟩ := add_diff (sm a) (sm b) (se a) (se b) d hx hyl hd h0 hn
  have as := add_same (sm a) (sm b) (se a) (se b) d hx hd
  have hm : min (se a) (se b) = se b := by omega
  have eF : addF a b = packI (addS a b) (min (se a) (se b)) := by unfold addF; rw [ha, Bool.false_and, if_neg Bool.false_ne_true]
  rw [eF]
  unfold addP
  rw [as, ad1]
  have e1 : (se a - min (se a) (se b)).toNat = d := by omega
  have e2 : (se b - min (se a) (se b)).toNat = 0 := by omega
  have pw : ((sm a * 2 ^ d : Nat) : Int) = (sm a : Int) * 2 ^ d := by rw [Int.natCast_mul, Int.natCast_pow]; rfl
  unfold addS
  rw [e1, e2, hm, Int.pow_zero, Int.mul_one]
  unfold sv
  have pp := pow_pos d
  have hsum : sm a * 2 ^ d + sm b ≠ 0 := by omega
  obtain ⟨X, hX⟩ : ∃ X, sm a * 2 ^ d = X := ⟨_, rfl⟩
  rw [hX] at ad2 pw h0 hsum ⊢
  cases na : ng a <;> cases nb : ng b <;> simp only [if_true, Bool.false_eq_true, if_false, Bool.true_and, Bool.false_and, reduceCtorEq]
  · rw [← pw, show (X : Int) + (sm b : Int) = ((X + sm b : Nat) : Int) by omega, packI_pos _ hsum]
  · rw [← pw]
    by_cases g : X = sm b
    · rw [g, show (sm b : Int) + -(sm b : Int) = 0 by omega, Nat.sub_self, pat_zero]; rfl
    · rw [show (X : Int) + -(sm b : Int) = ((X - sm b : Nat) : Int) by omega, packI_pos _ (by omega)]
  · rw [Int.neg_mul, ← pw]
    by_cases g : X = sm b
    · rw [decide_eq_false (fun c => c (ad2.2 g)), g, show -(sm b : Int) + (sm b : Int) = 0 by omega, Nat.sub_self, pat_zero]; rfl
    · rw [decide_eq_true (show less (sm a) (sm b) d ≠ 0 from fun c => g (ad2.1 c)), show -(X : Int) + (sm b : Int) = -((X - sm b : Nat) : Int) by omega, packI_neg _ (by omega)]
  · rw [Int.neg_mul, ← pw, show -(X : Int) + -(sm b : Int) = -((X + sm b : Nat) : Int) by omega, packI_neg _ hsum]
theorem sv_zero {a : Nat} : sv a = 0 ↔ zer a = true := by
  rw [← sm_zero]; unfold sv; split <;> omega
theorem packI_sv {a : Nat} (h : W a) (h1 : nan a = false) (h2 : inf a = false) (h3 : zer a = false) : packI (sv a) (se a) = a := by
  have hx : sm a ≠ 0 := fun c => by rw [sm_zero.1 c] at h3; cases h3
  unfold sv
  cases na : ng a
  · rw [if_neg (by decide), packI_pos _ hx, pat_fix h1 h2, ← na, sg_mag h]
  · rw [if_pos rfl, packI_neg _ hx, pat_fix h1 h2, ← na, sg_mag h]
/-- A zero changes nothing. -/
theorem addF_zero {a b : Nat} (hb : W b) (h1 : nan b = false) (h2 : inf b = false) (ha : zer a = true) (h3 : zer b = false) : addF a b = b := by
  unfold addF
  rw [h3, Bool.and_false, if_neg (by decide)]
  unfold addS
  rw [sv_zero.2 ha, Int.zero_mul, Int.zero_add]
  rw [packI_scale _ _ (se b) _ (by omega), packI_sv hb h1 h2 h3]
theorem addF_zeros {a b : Nat} (ha : zer a = true) (hb : zer b = true) : addF a b = sg (ng a && ng b) 0 := by unfold addF; rw [ha, hb]; rfl
end Go.Proofs.Ytkifdppppihjcaa.SF

namespace Go.Proofs.Ytkifdppppihjcaa.SF
set_option linter.unusedVariables false
set_option linter.unusedSimpArgs false

def mulF (a b : Nat) : Nat := sg (ng a != ng b) (pat (sm a * sm b) (se a + se b) false)
def mulV (a b : Nat) : Nat :=
  if (nan a || nan b) || (inf a && zer b || zer a && inf b) then NaN
  else if inf a || inf b then sg (ng a != ng b) Inf else mulF a b
/-- a by b, times 2^e: a quotient and what tells whether something is left. -/
def quoV (x y : Nat) (e : Int) : Nat := pat (2 * (x * 2 ^ (70 + bl y - bl x) / y) + (if x * 2 ^ (70 + bl y - bl x) % y ≠ 0 then 1 else 0)) (e - ((70 + bl y - bl x : Nat) : Int) - 1) false
def divF (a b : Nat) : Nat := sg (ng a != ng b) (quoV (sm a) (sm b) (se a - se b))
def divV (a b : Nat) : Nat :=
  if (nan a || nan b) || (inf a && inf b || zer a && zer b) then NaN
  else if inf a || zer b then sg (ng a != ng b) Inf else if inf b || zer a then sg (ng a != ng b) 0 else divF a b
/-- The program's quotient: digits moved up to 53, 63 more. -/
theorem quo_mid (x y k j s : Nat) (hy : 0 < y) (hk : k = j + s) :
    ∃ r, r < 2 ^ (s + 1) ∧ 2 * (x * 2 ^ k / y) + (if x * 2 ^ k % y ≠ 0 then 1 else 0) = x * 2 ^ j / y * 2 ^ (s + 1) + r ∧ (r ≠ 0 ↔ x * 2 ^ j % y ≠ 0) := by
  subst hk
  obtain ⟨Q, hQ⟩ : ∃ Q, x * 2 ^ j / y = Q := ⟨_, rfl⟩
  obtain ⟨R, hR⟩ : ∃ R, x * 2 ^ j % y = R := ⟨_, rfl⟩
  have h1 := Nat.div_add_mod (x * 2 ^ j) y
  rw [hQ, hR] at h1
  have hRl : R < y := by rw [← hR]; exact Nat.mod_lt _ hy
  have e1 : x * 2 ^ (j + s) = y * (Q * 2 ^ s) + R * 2 ^ s := by
    rw [Nat.pow_add, ← Nat.mul_assoc, ← h1, Nat.add_mul, Nat.mul_assoc]
  have e2 : x * 2 ^ (j + s) / y = Q * 2 ^ s + R * 2 ^ s / y := by rw [e1, Nat.mul_add_div hy]
  have e3 : x * 2 ^ (j + s) % y = R * 2 ^ s % y := by rw [e1, Nat.mul_add_mod]
  rw [e2, e3, hQ, hR]
  have ps := pow_pos s
  have lt : R * 2 ^ s / y < 2 ^ s := by
    rw [Nat.div_lt_iff_lt_mul hy, Nat.mul_comm (2 ^ s)]
    exact Nat.mul_lt_mul_of_pos_right hRl ps
  refine ⟨2 * (R * 2 ^ s / y) + (if R * 2 ^ s % y ≠ 0 then 1 else 0), ?_, ?_, ?_⟩
  · rw [Nat.pow_succ]; split <;> omega
  · rw [Nat.pow_succ, Nat.mul_add, ← Nat.mul_assoc, Nat.mul_comm 2 Q, ← Nat.add_assoc, Nat.mul_assoc Q, Nat.mul_comm 2 (2 ^ s)]
  · have h4 := Nat.div_add_mod (R * 2 ^ s) y
    constructor
    · intro c g
      subst g
      simp at c
    · intro g c
      have hz : R * 2 ^ s / y = 0 ∧ R * 2 ^ s % y = 0 := by
        by_cases hm : R * 2 ^ s % y ≠ 0
        · rw [if_pos hm] at c; omega
        · rw [if_neg hm] at c; omega
      rw [hz.1, hz.2, Nat.mul_zero, Nat.zero_add] at h4
      have := Nat.mul_ne_zero g (show 2 ^ s ≠ 0 by omega)
      omega
theorem quo_prog {x y : Nat} (e : Int) (i j : Nat) (hx : bl x + i = 53) (hy : bl y + j = 53) (hx0 : x ≠ 0) (hy0 : y ≠ 0) :
    pat (x * 2 ^ i * 2 ^ 63 / (y * 2 ^ j)) (e - i + j - 63) (decide (x * 2 ^ i * 2 ^ 63 % (y * 2 ^ j) ≠ 0)) = quoV x y e ∧ x * 2 ^ i * 2 ^ 63 / (y * 2 ^ j) < 2 ^ 64 := by
  have pj := pow_pos j
  have bx := bl_pos hx0
  have by' := bl_pos hy0
  have e1 : x * 2 ^ i * 2 ^ 63 = x * 2 ^ (63 + i - j) * 2 ^ j := by
    rw [Nat.mul_assoc, Nat.mul_assoc, ← Nat.pow_add, ← Nat.pow_add]; congr 2; omega
  have e2 : x * 2 ^ i * 2 ^ 63 / (y * 2 ^ j) = x * 2 ^ (63 + i - j) / y := by rw [e1, Nat.mul_div_mul_right _ _ pj]
  have e3 : x * 2 ^ i * 2 ^ 63 % (y * 2 ^ j) = x * 2 ^ (63 + i - j) % y * 2 ^ j := by rw [e1, Nat.mul_mod_mul_right]
  have e4 : decide (x * 2 ^ i * 2 ^ 63 % (y * 2 ^ j) ≠ 0) = decide (x * 2 ^ (63 + i - j) % y ≠ 0) := by
    rw [decide_eq_decide, e3]
    constructor
    · intro g c
      rw [c, Nat.zero_mul] at g
      exact g rfl
    · intro g
      exact Nat.mul_ne_zero g (by omega)
  obtain ⟨r, hr, h1, h2⟩ := quo_mid x y (70 + bl y - bl x) (63 + i - j) 7 (by omega) (by omega)
  have lx : 2 ^ 52 ≤ x * 2 ^ i := by
    calc 2 ^ 52 = 2 ^ (bl x - 1) * 2 ^ i := by rw [← Nat.pow_add]; congr 1; omega
      _ ≤ _ := Nat.mul_le_mul_right _ (bl_le hx0)
  have ux : x * 2 ^ i < 2 ^ 53 := by
    calc x * 2 ^ i < 2 ^ bl x * 2 ^ i := Nat.mul_lt_mul_of_pos_right (bl_lt x) (pow_pos i)
      _ = 2 ^ 53 := by rw [← Nat.pow_add, hx]
  have ly : 2 ^ 52 ≤ y * 2 ^ j := by
    calc 2 ^ 52 = 2 ^ (bl y - 1) * 2 ^ j := by rw [← Nat.pow_add]; congr 1; omega
      _ ≤ _ := Nat.mul_le_mul_right _ (bl_le hy0)
  have uy : y * 2 ^ j < 2 ^ 53 := by
    calc y * 2 ^ j < 2 ^ bl y * 2 ^ j := Nat.mul_lt_mul_of_pos_right (bl_lt y) pj
      _ = 2 ^ 53 := by rw [← Nat.pow_add, hy]
  have lq : 2 ^ 53 ≤ x * 2 ^ i * 2 ^ 63 / (y * 2 ^ j) := by
    rw [Nat.le_div_iff_mul_le (by omega)]
    calc 2 ^ 53 * (y * 2 ^ j) ≤ 2 ^ 53 * 2 ^ 53 := Nat.mul_le_mul_left _ (Nat.le_of_lt uy)
      _ ≤ 2 ^ 52 * 2 ^ 63 := by decide
      _ ≤ _ := Nat.mul_le_mul_right _ lx
  have uq : x * 2 ^ i * 2 ^ 63 / (y * 2 ^ j) < 2 ^ 64 := by
    rw [Nat.div_lt_iff_lt_mul (by omega)]
    calc x * 2 ^ i * 2 ^ 63 < 2 ^ 53 * 2 ^ 63 := Nat.mul_lt_mul_of_pos_right ux (by decide)
      _ = 2 ^ 64 * 2 ^ 52 := by decide
      _ ≤ _ := Nat.mul_le_mul_left _ ly
  refine ⟨?_, uq⟩
  unfold quoV
  rw [h1, e4, e2]
  rw [e2] at lq
  have := pat_sticky (x * 2 ^ (63 + i - j) / y) 8 r (e - i + j - 63) (e - ((70 + bl y - bl x : Nat) : Int) - 1) lq hr (by omega)
  rw [this]
  congr 1
  rw [decide_eq_decide]
  exact h2.symm
/-- Roots. -/
def IsRoot (s m : Nat) : Prop := s * s ≤ m ∧ m < (s + 1) * (s + 1)
theorem root_unique {s t m : Nat} (h : IsRoot s m) (g : IsRoot t m) : s = t := by
  rcases Nat.lt_trichotomy s t with c | c | c
  · have := Nat.mul_le_mul c c
    have h1 := h.2; have g1 := g.1
    simp only [Nat.succ_eq_add_one] at this
    omega
  · exact c
  · have := Nat.mul_le_mul c c
    have h1 := h.1; have g1 := g.2
    simp only [Nat.succ_eq_add_one] at this
    omega
def rootL (m : Nat) : Nat → Nat → Nat
  | 0, r => r
  | i + 1, r => if (r + 2 ^ i) * (r + 2 ^ i) ≤ m then rootL m i (r + 2 ^ i) else rootL m i r
theorem rootL_is (m : Nat) : ∀ (i r : Nat), r * r ≤ m → m < (r + 2 ^ i) * (r + 2 ^ i) → IsRoot (rootL m i r) m
  | 0, r, h1, h2 => ⟨h1, by rw [Nat.pow_zero] at h2; exact h2⟩
  | i + 1, r, h1, h2 => by
    unfold rootL
    split
    · rename_i g
      refine rootL_is m i _ g ?_
      rw [Nat.add_assoc, ← Nat.two_mul, Nat.mul_comm 2, ← Nat.pow_succ]
      exact h2
    · rename_i g
      exact rootL_is m i r h1 (by omega)
def isq (m : Nat) : Nat := rootL m 67 0
theorem isq_is {m : Nat} (h : m < 2 ^ 134) : IsRoot (isq m) m := rootL_is m 67 0 (by omega) (by rw [Nat.zero_add, ← Nat.pow_add]; exact h)
/-- The root of a float that is above 0 and no infinity. -/
def sqk (b : Nat) (e : Int) : Nat := if (e - ((130 - b : Nat) : Int)) % 2 = 0 then 130 - b else 131 - b
def sqm (a : Nat) : Nat := sm a * 2 ^ sqk (bl (sm a)) (se a)
def sqrtF (a : Nat) : Nat := pat (2 * isq (sqm a) + (if isq (sqm a) * isq (sqm a) ≠ sqm a then 1 else 0)) ((se a - (sqk (bl (sm a)) (se a) : Int)) / 2 - 1) false
def sqrtV (a : Nat) : Nat := if nan a then NaN else if zer a then a else if ng a then NaN else if inf a then a else sqrtF a
theorem root_scale {s m : Nat} (t : Nat) (h : IsRoot s m) : ∃ u, u < 2 ^ t ∧ IsRoot (s * 2 ^ t + u) (m * 2 ^ (2 * t)) ∧ ((s * 2 ^ t + u) * (s * 2 ^ t + u) = m * 2 ^ (2 * t) → u = 0 → s * s = m) ∧ (s * s = m → u = 0 ∧ (s * 2 ^ t + u) * (s * 2 ^ t + u) = m * 2 ^ (2 * t)) := by
  have e1 : 2 ^ (2 * t) = 2 ^ t * 2 ^ t := by rw [Nat.two_mul, Nat.pow_add]
  rw [e1]
  have pt := pow_pos t
  obtain ⟨T, hT⟩ : ∃ T, 2 ^ t = T := ⟨_, rfl⟩
  rw [hT] at pt ⊢
  clear e1 hT
  -- some root of the greater number
  have ex : ∀ M : Nat, ∃ r, IsRoot r M := by
    intro M
    have hb : M < 2 ^ bl M * 2 ^ bl M := Nat.lt_of_lt_of_le (bl_lt M) (Nat.le_mul_of_pos_left _ (pow_pos _))
    exact ⟨rootL M (bl M) 0, rootL_is M (bl M) 0 (by omega) (by simpa using hb)⟩
  obtain ⟨r, hr⟩ := ex (m * (T * T))
  have lo : s * T ≤ r := by
    rcases Nat.lt_or_ge r (s * T) with c | c
    · exfalso
      have h1 := Nat.mul_le_mul c c
      simp only [Nat.succ_eq_add_one] at h1
      have h2 : s * T * (s * T) ≤ m * (T * T) := by
        rw [show s * T * (s * T) = s * s * (T * T) by simp only [Nat.mul_assoc, Nat.mul_left_comm, Nat.mul_comm]]
        exact Nat.mul_le_mul_right _ h.1
      have h3 := hr.2
      omega
    · exact c
  have hi : r < s * T + T := by
    rcases Nat.lt_or_ge r (s * T + T) with c | c
    · exact c
    · exfalso
      have h1 := Nat.mul_le_mul c c
      have h2 : m * (T * T) < (s * T + T) * (s * T + T) := by
        rw [show s * T + T = (s + 1) * T by rw [Nat.add_mul, Nat.one_mul], show (s + 1) * T * ((s + 1) * T) = (s + 1) * (s + 1) * (T * T) by simp only [Nat.mul_assoc, Nat.mul_left_comm, Nat.mul_comm]]
        exact Nat.mul_lt_mul_of_pos_right h.2 (Nat.mul_pos pt pt)
      have h3 := hr.1
      omega
  refine ⟨r - s * T, by omega, by rw [show s * T + (r - s * T) = r by omega]; exact hr, ?_, ?_⟩
  · intro h1 h2
    rw [h2, Nat.add_zero, show s * T * (s * T) = s * s * (T * T) by simp only [Nat.mul_assoc, Nat.mul_left_comm, Nat.mul_comm]] at h1
    exact Nat.eq_of_mul_eq_mul_right (Nat.mul_pos pt pt) h1
  · intro h1
    have h2 : IsRoot (s * T) (m * (T * T)) := by
      have e2 : s * T * (s * T) = m * (T * T) := by
        rw [show s * T * (s * T) = s * s * (T * T) by simp only [Nat.mul_assoc, Nat.mul_left_comm, Nat.mul_comm], h1]
      exact ⟨Nat.le_of_eq e2, by rw [← e2]; exact Nat.mul_lt_mul_of_lt_of_le (Nat.lt_succ_self _) (Nat.le_succ _) (Nat.succ_pos _)⟩
    have h3 := root_unique hr h2
    subst h3
    refine ⟨Nat.sub_self _, ?_⟩
    rw [Nat.sub_self, Nat.add_zero, show s * T * (s * T) = s * s * (T * T) by simp only [Nat.mul_assoc, Nat.mul_left_comm, Nat.mul_comm], h1]
/-- The program's root: x is the digits, moved up to 53, once more where the exponent is odd, and by 62. -/
theorem sqrt_prog {a : Nat} (i δ s : Nat) (h0 : sm a ≠ 0) (hi : bl (sm a) + i = 53) (hd : δ = 0 ∨ δ = 1) (he : (se a - i - δ) % 2 = 0) (hs : IsRoot s (sm a * 2 ^ (i + δ + 62))) :
    pat s ((se a - i - δ - 62) / 2) (decide (s * s ≠ sm a * 2 ^ (i + δ + 62))) = sqrtF a := by
  have hb := bl_pos h0
  obtain ⟨t, ht⟩ : ∃ t, t = 8 - δ := ⟨_, rfl⟩
  have ek : sqk (bl (sm a)) (se a) = i + δ + 62 + 2 * t := by
    unfold sqk
    split <;> omega
  have em : sqm a = sm a * 2 ^ (i + δ + 62) * 2 ^ (2 * t) := by
    unfold sqm; rw [ek, Nat.pow_add, ← Nat.mul_assoc]
  have um : sm a * 2 ^ (i + δ + 62) < 2 ^ 116 := by
    calc sm a * 2 ^ (i + δ + 62) < 2 ^ bl (sm a) * 2 ^ (i + δ + 62) := Nat.mul_lt_mul_of_pos_right (bl_lt _) (pow_pos _)
      _ = 2 ^ (bl (sm a) + (i + δ + 62)) := (Nat.pow_add _ _ _).symm
      _ ≤ 2 ^ 116 := pow_le (by omega)
  have lm : 2 ^ 114 ≤ sm a * 2 ^ (i + δ + 62) := by
    calc 2 ^ 114 ≤ 2 ^ (bl (sm a) - 1 + (i + δ + 62)) := pow_le (by omega)
      _ = 2 ^ (bl (sm a) - 1) * 2 ^ (i + δ + 62) := Nat.pow_add _ _ _
      _ ≤ _ := Nat.mul_le_mul_right _ (bl_le h0)
  obtain ⟨V, hV⟩ : ∃ V, sm a * 2 ^ (i + δ + 62) = V := ⟨_, rfl⟩
  rw [hV] at hs em um lm ⊢
  have us : sqm a < 2 ^ 134 := by
    rw [em]
    calc V * 2 ^ (2 * t) < 2 ^ 116 * 2 ^ (2 * t) := Nat.mul_lt_mul_of_pos_right um (pow_pos _)
      _ = 2 ^ (116 + 2 * t) := (Nat.pow_add _ _ _).symm
      _ ≤ 2 ^ 134 := pow_le (by omega)
  have ls : 2 ^ 53 ≤ s := by
    rcases Nat.lt_or_ge s (2 ^ 53) with c | c
    · exfalso
      have h1 := hs.2
      have h2 : (s + 1) * (s + 1) ≤ 2 ^ 53 * 2 ^ 53 := Nat.mul_le_mul c c
      have h3 : (2 : Nat) ^ 53 * 2 ^ 53 ≤ 2 ^ 114 := by decide
      omega
    · exact c
  obtain ⟨u, hu, hur, hu1, hu2⟩ := root_scale t hs
  rw [← em] at hur hu1 hu2
  have er := root_unique (isq_is us) hur
  unfold sqrtF
  rw [er, ek]
  have pt := pow_pos t
  have e3 : 2 * (s * 2 ^ t + u) + (if (s * 2 ^ t + u) * (s * 2 ^ t + u) ≠ sqm a then 1 else 0) = s * 2 ^ (t + 1) + (2 * u + (if (s * 2 ^ t + u) * (s * 2 ^ t + u) ≠ sqm a then 1 else 0)) := by
    rw [Nat.mul_add, Nat.pow_succ, ← Nat.mul_assoc, Nat.mul_comm 2 s, Nat.mul_assoc s, Nat.mul_comm 2, Nat.add_assoc]
  rw [e3, pat_sticky s (t + 1) _ ((se a - i - δ - 62) / 2) _ ls (by rw [Nat.pow_succ]; split <;> omega) (by omega)]
  refine congrArg (pat s ((se a - i - δ - 62) / 2)) (decide_eq_decide.2 ?_)
  constructor
  · intro c g
    apply c
    by_cases g2 : (s * 2 ^ t + u) * (s * 2 ^ t + u) ≠ sqm a
    · rw [if_pos g2] at g; omega
    · rw [if_neg g2] at g
      exact hu1 (Decidable.not_not.1 g2) (by omega)
  · intro c g
    obtain ⟨k1, k2⟩ := hu2 g
    rw [if_neg (fun g2 => g2 k2), k1] at c
    omega
end Go.Proofs.Ytkifdppppihjcaa.SF

namespace Go.Proofs.Ytkifdppppihjcaa.SF
set_option linter.unusedVariables false
set_option linter.unusedSimpArgs false

/-- A number that fits is its own nearest float. -/
theorem patG_fit {p : Nat} {low high : Int} {m : Nat} {e : Int} {rest : Bool} (hp : 1 ≤ p) (h0 : m ≠ 0) (hq : qz p low (bl m) e ≤ e) (hh : qz p low (bl m) e ≤ high) (hl : low ≤ high) :
    patG p low high m e rest = (qz p low (bl m) e - low).toNat * 2 ^ (p - 1) + m * 2 ^ (e - qz p low (bl m) e).toNat := by
  rw [patG_ne h0, ← vz_pos (rest := rest) hq]
  have h1 := vz_lt (rest := rest) hq
  have h2 := qz_ge p low (bl m) e
  have e1 : 2 ^ p = 2 * 2 ^ (p - 1) := by rw [Nat.mul_comm, ← Nat.pow_succ]; congr 1; omega
  apply Nat.min_eq_left
  calc (qz p low (bl m) e - low).toNat * 2 ^ (p - 1) + vz p low m e rest ≤ (qz p low (bl m) e - low).toNat * 2 ^ (p - 1) + 2 * 2 ^ (p - 1) := by omega
    _ = ((qz p low (bl m) e - low).toNat + 2) * 2 ^ (p - 1) := by rw [Nat.add_mul]
    _ ≤ _ := Nat.mul_le_mul_right _ (by omega)
/-- A float of a number of few digits, neither small nor great. -/
structure Nf (s : Bool) (m : Nat) (e : Int) : Prop where
  W : W (sg s (pat m e false))
  ng : ng (sg s (pat m e false)) = s
  mag : mag (sg s (pat m e false)) = pat m e false
  nan : nan (sg s (pat m e false)) = false
  inf : inf (sg s (pat m e false)) = false
  zer : zer (sg s (pat m e false)) = false
  sm : sm (sg s (pat m e false)) = m * 2 ^ (53 - bl m)
  se : se (sg s (pat m e false)) = bl m + e - 53
theorem nf (s : Bool) {m : Nat} {e : Int} (h0 : m ≠ 0) (hb : bl m ≤ 53) (h1 : -1074 < (bl m : Int) + e - 53) (h2 : (bl m : Int) + e - 53 ≤ 971) : Nf s m e := by
  have hq : qz 53 (-1074) (bl m) e = bl m + e - 53 := by unfold qz; omega
  have hbp := bl_pos h0
  have hp : pat m e false = ((bl m : Int) + e - 53 + 1074).toNat * 4503599627370496 + m * 2 ^ (53 - bl m) := by
    unfold pat
    rw [patG_fit (by decide) h0 (by omega) (by omega) (by decide), hq]
    rw [show (e - ((bl m : Int) + e - 53)).toNat = 53 - bl m by omega, Int.sub_neg]
  have l1 : 4503599627370496 ≤ m * 2 ^ (53 - bl m) := by
    calc 4503599627370496 = 2 ^ (bl m - 1) * 2 ^ (53 - bl m) := by rw [← Nat.pow_add, show bl m - 1 + (53 - bl m) = 52 by omega]
      _ ≤ _ := Nat.mul_le_mul_right _ (bl_le h0)
  have l2 : m * 2 ^ (53 - bl m) < 9007199254740992 := by
    calc m * 2 ^ (53 - bl m) < 2 ^ bl m * 2 ^ (53 - bl m) := Nat.mul_lt_mul_of_pos_right (bl_lt m) (pow_pos _)
      _ = 9007199254740992 := by rw [← Nat.pow_add, show bl m + (53 - bl m) = 53 by omega]
  obtain ⟨v, hv⟩ : ∃ v, m * 2 ^ (53 - bl m) = v := ⟨_, rfl⟩
  obtain ⟨x, hx⟩ : ∃ x : Nat, ((bl m : Int) + e - 53 + 1074).toNat = x := ⟨_, rfl⟩
  rw [hv, hx] at hp
  rw [hv] at l1 l2
  obtain ⟨P, hP⟩ : ∃ P, pat m e false = P := ⟨_, rfl⟩
  rw [hP] at hp
  have hlt : P < 9223372036854775808 := by omega
  have em : SF.mag (sg s P) = P := mag_sg hlt
  have ex' : ex (sg s P) = x + 1 := by unfold ex; rw [em]; omega
  have ef : fr (sg s P) = v - 4503599627370496 := by
    have : fr (sg s P) = SF.mag (sg s P) % 4503599627370496 := by unfold fr SF.mag; omega
    rw [this, em]; omega
  constructor <;> rw [hP]
  · exact W_sg hlt
  · exact ng_sg hlt
  · exact em
  · unfold SF.nan; rw [em, decide_eq_false]; omega
  · unfold SF.inf; rw [em, decide_eq_false]; omega
  · unfold SF.zer; rw [em, decide_eq_false]; omega
  · unfold SF.sm; rw [ex', if_neg (by omega), ef, hv]; omega
  · unfold SF.se; rw [ex', if_neg (by omega)]; omega
def negV (a : Nat) : Nat := if nan a then NaN else sg (!ng a) (mag a)
def absV (a : Nat) : Nat := if nan a then NaN else mag a
def subV (a b : Nat) : Nat := addV a (negV b)
def ordV (a : Nat) : Int := if ng a then -(mag a : Int) else (mag a : Int)
def cmpI (a b : Int) : Int := if a < b then -1 else if b < a then 1 else 0
def cmpV (a b : Nat) : Int := if nan a || nan b then 0 else cmpI (ordV a) (ordV b)
def okV (a b : Nat) : Bool := !(nan a || nan b)
def wq (how : Nat) (n : Bool) (m c : Nat) : Nat := if how = 2 then rne m c false else if how = 1 ∧ n = true ∧ m % 2 ^ c ≠ 0 then m / 2 ^ c + 1 else m / 2 ^ c
def wholeV (how a : Nat) : Nat :=
  if nan a then NaN else if inf a || zer a then a else if 0 ≤ se a then a else sg (ng a) (pat (wq how (ng a) (sm a) (-se a).toNat) 0 false)
def scaleV (a : Nat) (n : Int) : Nat := if nan a then NaN else if inf a || zer a then a else sg (ng a) (pat (sm a) (se a + min (max n (-100000)) 100000) false)
def dI (lo hi : Int) : Int := lo % 18446744073709551616 + hi * 18446744073709551616
def fromV (lo hi : Int) : Nat := packI (dI lo hi) 0
def wr (x : Int) : Int := (x + 9223372036854775808) % 18446744073709551616 - 9223372036854775808
/-- A float's integer. -/
def toM (t : Nat) : Nat := if 0 ≤ se t then sm t * 2 ^ (se t).toNat else sm t / 2 ^ (-se t).toNat
def toBad (t : Nat) : Bool := decide (170141183460469231731687303715884105728 ≤ toM t) && !(ng t && decide (toM t = 170141183460469231731687303715884105728))
def toI (t : Nat) : Int := if ng t then -(toM t : Int) else (toM t : Int)
def toFail (a : Nat) : Bool := nan a || inf a || toBad (wholeV 0 a)
def toLo (a : Nat) : Int := if toFail a then 0 else wr (toI (wholeV 0 a))
def toHi (a : Nat) : Int := if toFail a then 0 else toI (wholeV 0 a) / 18446744073709551616
def toT (a : Nat) : Int := if toFail a then -43 else 0
def makeV (n : Bool) (M : Nat) (e : Int) : Nat := sg n (pat M e false)

/-! What holds outright. -/
theorem mulF_comm (a b : Nat) : mulF a b = mulF b a := by
  unfold mulF
  rw [Nat.mul_comm, Int.add_comm]
  congr 1
  cases ng a <;> cases ng b <;> rfl
theorem mulV_comm (a b : Nat) : mulV a b = mulV b a := by
  unfold mulV
  rw [mulF_comm]
  cases nan a <;> cases nan b <;> cases inf a <;> cases inf b <;> cases zer a <;> cases zer b <;> cases ng a <;> cases ng b <;> rfl
def One : Nat := 4607182418800017408
theorem negV_ok {a : Nat} (h1 : nan a = false) : negV a = sg (!ng a) (mag a) := by unfold negV; rw [h1]; rfl
theorem same_mag {a b : Nat} (h : mag a = mag b) : nan a = nan b ∧ inf a = inf b ∧ zer a = zer b ∧ sm a = sm b ∧ se a = se b := by
  have hf : ∀ x, fr x = mag x % 4503599627370496 := fun x => by unfold fr mag; omega
  unfold nan inf zer sm se ex
  rw [hf a, hf b, h]
  exact ⟨rfl, rfl, rfl, rfl, rfl⟩
theorem negV_mag {a : Nat} (h1 : nan a = false) : mag (negV a) = mag a := by rw [negV_ok h1]; exact mag_sg (mag_lt a)
theorem negV_ng {a : Nat} (h1 : nan a = false) : ng (negV a) = !ng a := by rw [negV_ok h1]; exact ng_sg (mag_lt a)
theorem nan_NaN : nan NaN = true := by decide
end Go.Proofs.Ytkifdppppihjcaa.SF

namespace Go.Proofs.Ytkifdppppihjcaa.SF
set_option linter.unusedVariables false
set_option linter.unusedSimpArgs false

/-- A float's size in the least units. -/
def vl (a : Nat) : Nat := sm a * 2 ^ (se a + 1074).toNat
end Go.Proofs.Ytkifdppppihjcaa.SF

namespace Go.Proofs.Ytkifdppppihjcaa.SF
set_option linter.unusedVariables false
set_option linter.unusedSimpArgs false

theorem nf_whole {m : Nat} (s : Bool) (h0 : m ≠ 0) (h : m ≤ 67108864) : Nf s m 0 := nf s h0 (by have := bl_le_of_lt (n := m) (k := 27) (by omega); omega) (by have := bl_pos h0; omega) (by have := bl_le_of_lt (n := m) (k := 27) (by omega); omega)
theorem bl27 {m : Nat} (h : m ≤ 67108864) : bl m ≤ 27 := bl_le_of_lt (n := m) (k := 27) (by omega)
theorem toM_whole {m : Nat} (s : Bool) (h0 : m ≠ 0) (h : m ≤ 67108864) : toM (sg s (pat m 0 false)) = m := by
  have F := nf_whole s h0 h
  have hb := bl27 h
  unfold toM
  rw [F.se, F.sm, if_neg (by omega), show (-((bl m : Int) + 0 - 53)).toNat = 53 - bl m by omega, Nat.mul_div_cancel _ (pow_pos _)]
theorem toM_zero : toM 0 = 0 := by
  unfold toM
  rw [show sm 0 = 0 by decide, Nat.zero_mul, Nat.zero_div, ite_self]
theorem whole_zero (how : Nat) : wholeV how 0 = 0 := rfl
theorem to_zero : toFail 0 = false ∧ toI (wholeV 0 0) = 0 := by
  unfold toFail toBad toI
  rw [whole_zero, toM_zero]
  exact ⟨by decide, by decide⟩
theorem zero_facts : nan 0 = false ∧ inf 0 = false ∧ zer 0 = true ∧ toFail 0 = false ∧ toI (wholeV 0 0) = 0 ∧ sqrtV 0 = 0 ∧ mulV 0 0 = 0 ∧ absV 0 = 0 ∧ wholeV 1 0 = 0 ∧ wholeV 2 0 = 0 :=
  ⟨by decide, by decide, by decide, to_zero.1, to_zero.2, by decide, by decide, by decide, whole_zero 1, whole_zero 2⟩
end Go.Proofs.Ytkifdppppihjcaa.SF

namespace Go.Proofs.Ytkifdppppihjcaa.SF
set_option linter.unusedVariables false
set_option linter.unusedSimpArgs false

theorem mod_top (m d : Nat) : m % 2 ^ (d + 1) = m / 2 ^ d % 2 * 2 ^ d + m % 2 ^ d ∧ m / 2 ^ (d + 1) = m / 2 ^ d / 2 := by
  constructor
  · rw [Nat.pow_succ, Nat.mod_mul, Nat.mul_comm (2 ^ d), Nat.add_comm]
  · rw [Nat.pow_succ, Nat.div_div_eq_div_mul]
/-- By the digit behind the last one. -/
theorem rne_half (m d : Nat) (rest : Bool) : rne m (d + 1) rest = if m / 2 ^ d % 2 = 1 ∧ (m % 2 ^ d ≠ 0 ∨ rest = true ∨ m / 2 ^ (d + 1) % 2 = 1) then m / 2 ^ (d + 1) + 1 else m / 2 ^ (d + 1) := by
  obtain ⟨h1, h2⟩ := mod_top m d
  unfold rne
  have hl := Nat.mod_lt m (pow_pos d)
  rw [h1]
  obtain ⟨b, hb⟩ : ∃ b, m / 2 ^ d % 2 = b := ⟨_, rfl⟩
  have hb2 : b < 2 := by rw [← hb]; exact Nat.mod_lt _ (by decide)
  obtain ⟨r, hr⟩ : ∃ r, m % 2 ^ d = r := ⟨_, rfl⟩
  obtain ⟨H, hH⟩ : ∃ H, 2 ^ d = H := ⟨_, rfl⟩
  obtain ⟨n, hn⟩ : ∃ n, m / 2 ^ (d + 1) = n := ⟨_, rfl⟩
  rw [hr, hH] at hl
  rw [hb, hr, hH, hn, show 2 ^ (d + 1) = 2 * H by rw [← hH, Nat.pow_succ]; omega]
  have key : (2 * H < 2 * (b * H + r) ∨ 2 * (b * H + r) = 2 * H ∧ (rest = true ∨ n % 2 = 1)) ↔ (b = 1 ∧ (r ≠ 0 ∨ rest = true ∨ n % 2 = 1)) := by
    rcases (show b = 0 ∨ b = 1 by omega) with rfl | rfl
    · constructor
      · rintro (h | ⟨h, _⟩) <;> omega
      · rintro ⟨h, _⟩; omega
    · constructor
      · rintro (h | ⟨h, g⟩)
        · exact ⟨rfl, .inl (by omega)⟩
        · exact ⟨rfl, .inr g⟩
      · rintro ⟨_, h⟩
        by_cases c : r = 0
        · rcases h with h | h
          · exact absurd c h
          · exact .inr ⟨by omega, h⟩
        · exact .inl (by omega)
  by_cases k : (2 * H < 2 * (b * H + r) ∨ 2 * (b * H + r) = 2 * H ∧ (rest = true ∨ n % 2 = 1))
  · rw [if_pos k, if_pos (key.1 k)]
  · rw [if_neg k, if_neg (fun g => k (key.2 g))]
/-- The integer of a float: when it is too great. -/
theorem toM_big {t : Nat} (h1 : 0 ≤ se t) : (170141183460469231731687303715884105728 ≤ toM t ↔ (sm t ≠ 0 ∧ 128 ≤ (bl (sm t) : Int) + se t)) ∧ (toM t = 170141183460469231731687303715884105728 ↔ (sm t = 4503599627370496 ∧ se t = 75)) := by
  have e : toM t = sm t * 2 ^ (se t).toNat := by unfold toM; rw [if_pos h1]
  have P127 : (2 : Nat) ^ 127 = 170141183460469231731687303715884105728 := by decide
  rw [e]
  by_cases z : sm t = 0
  · rw [z]; simp
  have hb := bl_mul (se t).toNat z
  constructor
  · constructor
    · intro h
      refine ⟨z, ?_⟩
      have := lt_bl_of_le (k := 127) (by rw [P127]; exact h)
      omega
    · rintro ⟨_, h⟩
      rw [← P127]
      have g := bl_le (Nat.mul_ne_zero z (show 2 ^ (se t).toNat ≠ 0 by have := pow_pos (se t).toNat; omega))
      exact Nat.le_trans (pow_le (by omega)) g
  · have hl := sm_lt t
    have hn := sm_norm (a := t) (by omega)
    constructor
    · intro h
      have b1 : bl (sm t) = 53 := by
        have : bl (sm t) ≤ 53 := bl_le_of_lt (k := 53) hl
        have : 52 < bl (sm t) := lt_bl_of_le (k := 52) hn
        omega
      have b2 : bl (sm t * 2 ^ (se t).toNat) = 128 := by rw [h]; decide
      have e75 : (se t).toNat = 75 := by omega
      rw [e75] at h
      refine ⟨?_, by omega⟩
      have : 4503599627370496 * 2 ^ 75 = 170141183460469231731687303715884105728 := by decide
      rw [← this] at h
      exact Nat.eq_of_mul_eq_mul_right (pow_pos 75) h
    · rintro ⟨h, g⟩
      rw [h, g]
      decide
theorem toM_small {t : Nat} (h1 : se t < 0) : toM t = sm t / 2 ^ (min (-se t) 63).toNat ∧ toM t < 9007199254740992 := by
  have e : toM t = sm t / 2 ^ (-se t).toNat := by unfold toM; rw [if_neg (by omega)]
  have hl := sm_lt t
  constructor
  · rw [e]
    by_cases c : -se t ≤ 63
    · rw [show min (-se t) 63 = -se t by omega]
    · rw [show min (-se t) 63 = 63 by omega]
      have : sm t < 2 ^ 63 := by have : (2 : Nat) ^ 63 = 9223372036854775808 := by decide
                                 omega
      have : sm t < 2 ^ (-se t).toNat := Nat.lt_of_lt_of_le this (pow_le (by omega))
      rw [Nat.div_eq_of_lt this, Nat.div_eq_of_lt (by assumption)]
  · rw [e]
    exact Nat.lt_of_le_of_lt (Nat.div_le_self _ _) hl
/-- The most and the least 128 digits. -/
theorem make_top (V n : Nat) (e : Int) (hb : bl V = 128 + n) : pat V e false = pat (V / 2 ^ n) (e + n) (decide (V % 2 ^ n ≠ 0)) := by
  have h := Nat.div_add_mod V (2 ^ n)
  rw [Nat.mul_comm] at h
  have hv : V ≠ 0 := by intro c; subst c; rw [bl_zero] at hb; omega
  have big : 2 ^ 127 ≤ V / 2 ^ n := by
    rw [Nat.le_div_iff_mul_le (pow_pos n), ← Nat.pow_add]
    have := bl_le hv
    rw [hb] at this
    exact Nat.le_trans (pow_le (by omega)) this
  have := pat_sticky (V / 2 ^ n) n (V % 2 ^ n) (e + n) e (Nat.le_trans (by decide) big) (Nat.mod_lt _ (pow_pos n)) (by omega)
  rw [h] at this
  exact this
end Go.Proofs.Ytkifdppppihjcaa.SF

namespace Go.Proofs.Ytkifdppppihjcaa.SF
set_option linter.unusedVariables false
set_option linter.unusedSimpArgs false

/-- Two words. -/
def two (hi lo : Nat) : Nat := hi * 18446744073709551616 + lo
theorem two_lt {hi lo : Nat} (h1 : W hi) (h2 : W lo) : two hi lo < 340282366920938463463374607431768211456 := by unfold two W at *; omega
theorem P64n {n : Nat} (h : n ≤ 64) : (18446744073709551616 : Nat) = 2 ^ n * 2 ^ (64 - n) := by
  rw [← Nat.pow_add, show n + (64 - n) = 64 by omega]
theorem shl_mod (x n : Nat) (h : n ≤ 64) : x * 2 ^ (64 - n) % 18446744073709551616 = x % 2 ^ n * 2 ^ (64 - n) := by
  rw [P64n h, Nat.mul_mod_mul_right]
theorem right_small {hi lo n : Nat} (h : n ≤ 64) (hl : W lo) :
    two hi lo / 2 ^ n = two (hi / 2 ^ n) (hi % 2 ^ n * 2 ^ (64 - n) + lo / 2 ^ n) ∧ hi % 2 ^ n * 2 ^ (64 - n) + lo / 2 ^ n < 18446744073709551616 ∧ two hi lo % 2 ^ n = lo % 2 ^ n := by
  have pn := pow_pos n
  have pk := pow_pos (64 - n)
  have e := P64n h
  have hd := Nat.div_add_mod hi (2 ^ n)
  have ld := Nat.div_add_mod lo (2 ^ n)
  have hm := Nat.mod_lt hi pn
  have hlo : lo / 2 ^ n < 2 ^ (64 - n) := by
    rw [Nat.div_lt_iff_lt_mul pn, Nat.mul_comm, ← e]; exact hl
  have e1 : two hi lo = lo + 2 ^ n * (hi * 2 ^ (64 - n)) := by
    unfold two; rw [e]
    rw [show hi * (2 ^ n * 2 ^ (64 - n)) = 2 ^ n * (hi * 2 ^ (64 - n)) by rw [Nat.mul_left_comm]]
    omega
  refine ⟨?_, ?_, ?_⟩
  · rw [e1, Nat.add_mul_div_left _ _ pn]
    unfold two
    rw [e]
    have e2 : hi * 2 ^ (64 - n) = hi / 2 ^ n * (2 ^ n * 2 ^ (64 - n)) + hi % 2 ^ n * 2 ^ (64 - n) := by
      conv => lhs; rw [← hd]
      rw [Nat.add_mul, Nat.mul_comm (2 ^ n), Nat.mul_assoc]
    rw [e2]
    omega
  · have : (hi % 2 ^ n + 1) * 2 ^ (64 - n) ≤ 2 ^ n * 2 ^ (64 - n) := Nat.mul_le_mul_right _ hm
    rw [Nat.add_mul, Nat.one_mul, ← e] at this
    omega
  · rw [e1, Nat.add_mul_mod_self_left]
theorem right_big {hi lo k : Nat} (hh : W hi) (hl : W lo) :
    two hi lo / 2 ^ (64 + k) = hi / 2 ^ k ∧ (two hi lo % 2 ^ (64 + k) = 0 ↔ (lo = 0 ∧ hi % 2 ^ k = 0)) := by
  have e : (18446744073709551616 : Nat) = 2 ^ 64 := by decide
  unfold W at *
  unfold two
  rw [e] at *
  have p := pow_pos 64
  have pk := pow_pos k
  constructor
  · rw [Nat.pow_add, ← Nat.div_div_eq_div_mul, Nat.add_comm, Nat.add_mul_div_right _ _ p, Nat.div_eq_of_lt hl, Nat.zero_add]
  · have q1 : (hi * 2 ^ 64 + lo) % 2 ^ 64 = lo := by rw [Nat.add_comm, Nat.add_mul_mod_self_right, Nat.mod_eq_of_lt hl]
    have q2 : (hi * 2 ^ 64 + lo) / 2 ^ 64 = hi := by rw [Nat.add_comm, Nat.add_mul_div_right _ _ p, Nat.div_eq_of_lt hl, Nat.zero_add]
    rw [Nat.pow_add, Nat.mod_mul, q1, q2]
    constructor
    · intro h
      have h1 : lo = 0 := by omega
      refine ⟨h1, ?_⟩
      have h2 : 2 ^ 64 * (hi % 2 ^ k) = 0 := by omega
      rcases Nat.mul_eq_zero.1 h2 with h3 | h3
      · omega
      · exact h3
    · rintro ⟨h1, h2⟩
      rw [h1, h2]
theorem right_huge {hi lo n : Nat} (h : 128 ≤ n) (hh : W hi) (hl : W lo) : two hi lo / 2 ^ n = 0 ∧ two hi lo % 2 ^ n = two hi lo := by
  have h1 := two_lt hh hl
  have h2 : two hi lo < 2 ^ n := Nat.lt_of_lt_of_le (m := 2 ^ 128) (by rw [show (2 : Nat) ^ 128 = 340282366920938463463374607431768211456 by decide]; exact h1) (pow_le h)
  exact ⟨Nat.div_eq_of_lt h2, Nat.mod_eq_of_lt h2⟩
theorem two_parts {hi lo : Nat} (hl : lo < 18446744073709551616) : two hi lo / 18446744073709551616 = hi ∧ two hi lo % 18446744073709551616 = lo := by unfold two; omega
theorem two_zero {hi lo : Nat} : two hi lo = 0 ↔ hi = 0 ∧ lo = 0 := by unfold two; omega
/-- What 'right' gives. -/
def rH (hi lo n : Nat) : Nat := two hi lo / 2 ^ n / 18446744073709551616
def rL (hi lo n : Nat) : Nat := two hi lo / 2 ^ n % 18446744073709551616
def rT (hi lo n : Nat) : Bool := decide (two hi lo % 2 ^ n ≠ 0)
theorem rights_small {hi lo n : Nat} (h0 : 0 < n) (h : n ≤ 64) (hl : W lo) : rH hi lo n = hi / 2 ^ n ∧ rL hi lo n = hi % 2 ^ n * 2 ^ (64 - n) + lo / 2 ^ n ∧ rT hi lo n = decide (lo % 2 ^ n ≠ 0) := by
  obtain ⟨a, b, c⟩ := right_small (hi := hi) h hl
  unfold rH rL rT
  rw [a, c, (two_parts b).1, (two_parts b).2]
  exact ⟨rfl, rfl, rfl⟩
theorem rights_big {hi lo k : Nat} (hh : W hi) (hl : W lo) : rH hi lo (64 + k) = 0 ∧ rL hi lo (64 + k) = hi / 2 ^ k ∧ rT hi lo (64 + k) = decide (lo ≠ 0 ∨ hi % 2 ^ k ≠ 0) := by
  obtain ⟨a, b⟩ := right_big (k := k) hh hl
  have hd : hi / 2 ^ k < 18446744073709551616 := Nat.lt_of_le_of_lt (Nat.div_le_self _ _) hh
  unfold rH rL rT
  rw [a, Nat.div_eq_of_lt hd, Nat.mod_eq_of_lt hd]
  refine ⟨rfl, rfl, ?_⟩
  rw [decide_eq_decide]
  constructor
  · intro h
    by_cases c : lo = 0
    · exact .inr fun g => h (b.2 ⟨c, g⟩)
    · exact .inl c
  · rintro (h | h) g
    · exact h (b.1 g).1
    · exact h (b.1 g).2
theorem rights_huge {hi lo n : Nat} (h : 128 ≤ n) (hh : W hi) (hl : W lo) : rH hi lo n = 0 ∧ rL hi lo n = 0 ∧ rT hi lo n = decide (hi ≠ 0 ∨ lo ≠ 0) := by
  obtain ⟨a, b⟩ := right_huge h hh hl
  unfold rH rL rT
  rw [a, b]
  refine ⟨rfl, rfl, ?_⟩
  rw [decide_eq_decide]
  have := @two_zero hi lo
  omega
theorem rights_zero {hi lo : Nat} (hh : W hi) (hl : W lo) : rH hi lo 0 = hi ∧ rL hi lo 0 = lo ∧ rT hi lo 0 = false := by
  unfold rH rL rT
  rw [Nat.pow_zero, Nat.div_one, Nat.mod_one, (two_parts hl).1, (two_parts hl).2]
  exact ⟨rfl, rfl, rfl⟩
theorem rL_lt (hi lo n : Nat) : W (rL hi lo n) := Nat.mod_lt _ (by decide)
theorem rH_lt {hi lo n : Nat} (hh : W hi) (hl : W lo) : W (rH hi lo n) := by
  unfold rH W
  have h1 := two_lt hh hl
  have h2 : two hi lo / 2 ^ n ≤ two hi lo := Nat.div_le_self _ _
  omega
end Go.Proofs.Ytkifdppppihjcaa.SF

namespace Go.Proofs.Ytkifdppppihjcaa.SF
set_option linter.unusedVariables false
set_option linter.unusedSimpArgs false

theorem two_back {M : Nat} (h : M < 340282366920938463463374607431768211456) : two (M / 18446744073709551616) (M % 18446744073709551616) = M := by unfold two; omega
/-- Rounding by the words that 'right' gives. -/
theorem vz_right {p : Nat} {low : Int} {hi lo d : Nat} {e : Int} (rest : Bool) (hp : p ≤ 53) (hh : W hi) (hl : W lo) (hd : qz p low (bl (two hi lo)) e - e - 1 = (d : Int)) :
    vz p low (two hi lo) e rest = (if (rL hi lo d % 2 = 1 ∧ (rT hi lo d = true ∨ rest = true ∨ rL (rH hi lo d) (rL hi lo d) 1 % 2 = 1)) then rL (rH hi lo d) (rL hi lo d) 1 + 1 else rL (rH hi lo d) (rL hi lo d) 1) ∧ rL (rH hi lo d) (rL hi lo d) 1 < 2 ^ p := by
  have hM := two_lt hh hl
  obtain ⟨q, hq⟩ : ∃ q, qz p low (bl (two hi lo)) e = q := ⟨_, rfl⟩
  rw [hq] at hd
  have hlt : e < qz p low (bl (two hi lo)) e := by rw [hq]; omega
  have hge : (bl (two hi lo) : Int) + e - p ≤ q := by rw [← hq]; unfold qz; omega
  have c1 : (q - e).toNat = d + 1 := by omega
  rw [vz_neg hlt, hq, c1, rne_half]
  obtain ⟨M, hMe⟩ : ∃ M, two hi lo = M := ⟨_, rfl⟩
  have hMd : M / 2 ^ d < 340282366920938463463374607431768211456 := Nat.lt_of_le_of_lt (Nat.div_le_self _ _) (by rw [← hMe]; exact hM)
  have small : M / 2 ^ (d + 1) < 2 ^ p := by
    rw [Nat.div_lt_iff_lt_mul (pow_pos _), ← Nat.pow_add]
    have := bl_lt M
    rw [hMe] at hge
    exact Nat.lt_of_lt_of_le this (pow_le (by omega))
  have p64 : 2 ^ p ≤ 18446744073709551616 := Nat.le_trans (pow_le hp) (by decide)
  have eL : rL hi lo d = M / 2 ^ d % 18446744073709551616 := by unfold rL; rw [hMe]
  have eH : rH hi lo d = M / 2 ^ d / 18446744073709551616 := by unfold rH; rw [hMe]
  have eT : rT hi lo d = decide (M % 2 ^ d ≠ 0) := by unfold rT; rw [hMe]
  have e1 : rL (rH hi lo d) (rL hi lo d) 1 = M / 2 ^ (d + 1) := by
    have : rL (rH hi lo d) (rL hi lo d) 1 = two (rH hi lo d) (rL hi lo d) / 2 ^ 1 % 18446744073709551616 := rfl
    rw [this, eL, eH, two_back hMd, (mod_top M d).2, Nat.pow_one]
    apply Nat.mod_eq_of_lt
    have := (mod_top M d).2
    omega
  have e2 : rL hi lo d % 2 = M / 2 ^ d % 2 := by rw [eL]; omega
  rw [e1, e2, eT, hMe]
  refine ⟨?_, small⟩
  simp only [decide_eq_true_eq]
theorem vz_left {p : Nat} {low : Int} {hi lo s : Nat} {e : Int} (rest : Bool) (hp : p ≤ 53) (hh : W hi) (hl : W lo) (hs : e - qz p low (bl (two hi lo)) e = (s : Int)) :
    hi = 0 ∧ vz p low (two hi lo) e rest = lo * 2 ^ s ∧ lo * 2 ^ s < 2 ^ p := by
  have hge : (bl (two hi lo) : Int) + e - p ≤ qz p low (bl (two hi lo)) e := by unfold qz; omega
  have h0 : hi = 0 := by
    by_cases g : hi = 0
    · exact g
    · exfalso
      have h1 := bl_add (n := hi) (s := 64) (r := lo) g (by rw [show (2 : Nat) ^ 64 = 18446744073709551616 by decide]; exact hl)
      rw [show (2 : Nat) ^ 64 = 18446744073709551616 by decide] at h1
      have h2 : two hi lo = hi * 18446744073709551616 + lo := rfl
      rw [h2, h1] at hge
      rw [h2, h1] at hs
      omega
  subst h0
  have e0 : two 0 lo = lo := by unfold two; omega
  have hle : qz p low (bl (two 0 lo)) e ≤ e := by omega
  have h3 := vz_lt (rest := rest) hle
  have h4 : vz p low (two 0 lo) e rest = lo * 2 ^ s := by
    rw [vz_pos hle, e0]
    rw [e0] at hs
    rw [hs]; rfl
  rw [h4] at h3
  exact ⟨rfl, h4, h3⟩
end Go.Proofs.Ytkifdppppihjcaa.SF

namespace Go.Proofs.Ytkifdppppihjcaa.SF
set_option linter.unusedVariables false
set_option linter.unusedSimpArgs false
/-- The number that words make, the lowest first. -/
def wv : List Int → Nat
  | [] => 0
  | x :: l => x.toNat + 4294967296 * wv l
/-- A number's words. -/
def ws (n : Nat) : List Int := if h : n = 0 then [] else ((n % 4294967296 : Nat) : Int) :: ws (n / 4294967296)
termination_by n
decreasing_by omega
def Words (l : List Int) : Prop := ∀ x ∈ l, 0 ≤ x ∧ x < 4294967296
theorem ws_zero : ws 0 = [] := by unfold ws; rfl
theorem ws_pos {n : Nat} (h : n ≠ 0) : ws n = ((n % 4294967296 : Nat) : Int) :: ws (n / 4294967296) := by rw [ws, dif_neg h]
theorem words_nil : Words [] := by intro x h; cases h
theorem words_cons {x : Int} {l : List Int} : Words (x :: l) ↔ (0 ≤ x ∧ x < 4294967296) ∧ Words l := by
  unfold Words; simp
theorem words_append {a b : List Int} : Words (a ++ b) ↔ Words a ∧ Words b := by
  unfold Words
  constructor
  · intro h; exact ⟨fun x hx => h x (by simp [hx]), fun x hx => h x (by simp [hx])⟩
  · rintro ⟨h1, h2⟩ x hx
    rcases List.mem_append.1 hx with g | g
    · exact h1 x g
    · exact h2 x g
theorem ws_words : ∀ (k n : Nat), n ≤ k → Words (ws n)
  | 0, n, h => by have : n = 0 := by omega
                  subst this; rw [ws_zero]; exact words_nil
  | k + 1, n, h => by
    by_cases h0 : n = 0
    · subst h0; rw [ws_zero]; exact words_nil
    · rw [ws_pos h0]
      exact words_cons.2 ⟨by omega, ws_words k (n / 4294967296) (by omega)⟩
theorem words_ws (n : Nat) : Words (ws n) := ws_words n n (Nat.le_refl _)
theorem wv_ws_le : ∀ (k n : Nat), n ≤ k → wv (ws n) = n
  | 0, n, h => by have : n = 0 := by omega
                  subst this; rw [ws_zero]; rfl
  | k + 1, n, h => by
    by_cases h0 : n = 0
    · subst h0; rw [ws_zero]; rfl
    · rw [ws_pos h0]
      show (((n % 4294967296 : Nat) : Int)).toNat + 4294967296 * wv (ws (n / 4294967296)) = n
      rw [wv_ws_le k (n / 4294967296) (by omega), Int.toNat_natCast]
      omega
theorem wv_ws (n : Nat) : wv (ws n) = n := wv_ws_le n n (Nat.le_refl _)
theorem wv_append (a b : List Int) : wv (a ++ b) = wv a + 2 ^ (32 * a.length) * wv b := by
  induction a with
  | nil => simp [wv]
  | cons x l ih =>
    rw [List.cons_append, wv, ih, wv, List.length_cons, Nat.mul_add 32, Nat.pow_add, Nat.mul_add 4294967296, show (2 : Nat) ^ (32 * 1) = 4294967296 by decide]
    rw [Nat.mul_comm (2 ^ (32 * l.length)) 4294967296, Nat.mul_assoc, Nat.add_assoc]
theorem wv_lt {l : List Int} (h : Words l) : wv l < 2 ^ (32 * l.length) := by
  induction l with
  | nil => simp [wv]
  | cons x l ih =>
    have hx := (words_cons.1 h).1
    have := ih (words_cons.1 h).2
    rw [wv, List.length_cons, Nat.mul_add 32, Nat.pow_add, show (2 : Nat) ^ (32 * 1) = 4294967296 by decide]
    omega
/-- The last word is not 0. -/
def Tight (l : List Int) : Prop := ∀ x, l.getLast? = some x → x ≠ 0
theorem tight_nil : Tight [] := by intro x h; cases h
theorem tight_tail {x : Int} {l : List Int} (h : Tight (x :: l)) : Tight l := by
  intro y hy
  cases l with
  | nil => cases hy
  | cons z l => exact h y (by rw [List.getLast?_cons_cons]; exact hy)
theorem tight_eq : ∀ {l : List Int}, Words l → Tight l → l = ws (wv l)
  | [], _, _ => by rw [wv, ws_zero]
  | x :: l, hw, ht => by
    have hx := (words_cons.1 hw).1
    have ih := tight_eq (words_cons.1 hw).2 (tight_tail ht)
    obtain ⟨X, rfl⟩ := Int.eq_ofNat_of_zero_le hx.1
    have hX : X < 4294967296 := by omega
    have e : wv ((X : Int) :: l) = X + 4294967296 * wv l := rfl
    by_cases h0 : wv ((X : Int) :: l) = 0
    · exfalso
      rw [e] at h0
      have l0 : wv l = 0 := by omega
      have X0 : X = 0 := by omega
      rw [l0, ws_zero] at ih
      subst ih
      subst X0
      exact ht 0 rfl rfl
    · rw [ws_pos h0, e]
      rw [show (X + 4294967296 * wv l) % 4294967296 = X by omega, show (X + 4294967296 * wv l) / 4294967296 = wv l by omega, ← ih]
theorem ws_tight (n : Nat) : Tight (ws n) := by
  have key : ∀ k n : Nat, n ≤ k → Tight (ws n) := by
    intro k
    induction k with
    | zero => intro n h; have : n = 0 := by omega
              subst this; rw [ws_zero]; exact tight_nil
    | succ k ih =>
      intro n h
      by_cases h0 : n = 0
      · subst h0; rw [ws_zero]; exact tight_nil
      · rw [ws_pos h0]
        intro x hx
        by_cases g : n / 4294967296 = 0
        · rw [g, ws_zero] at hx
          simp at hx
          omega
        · have := ih (n / 4294967296) (by omega)
          rw [ws_pos g, List.getLast?_cons_cons, ← ws_pos g] at hx
          exact this x hx
  exact key n n (Nat.le_refl _)
/-- A word of 0 more at the end changes nothing. -/
theorem wv_snoc (l : List Int) (x : Int) : wv (l ++ [x]) = wv l + 2 ^ (32 * l.length) * x.toNat := by
  rw [wv_append]; simp [wv]
theorem wv_zeros (l : List Int) (k : Nat) : wv (l ++ List.replicate k 0) = wv l := by
  rw [wv_append]
  have : wv (List.replicate k (0 : Int)) = 0 := by
    induction k with
    | zero => rfl
    | succ k ih => rw [List.replicate_succ, wv, ih]; rfl
  rw [this]; omega
/-- What is above its highest word that is not 0 can be cut. -/
theorem take_wv {l : List Int} {n : Nat} (h : ∀ i, n ≤ i → i < l.length → l[i]? = some 0) (hn : n ≤ l.length) : wv (l.take n) = wv l := by
  have e : l = l.take n ++ List.replicate (l.length - n) 0 := by
    apply List.ext_getElem?
    intro i
    by_cases c : i < n
    · rw [List.getElem?_append_left (by rw [List.length_take]; omega), List.getElem?_take_of_lt c]
    · rw [List.getElem?_append_right (by rw [List.length_take]; omega), List.length_take]
      by_cases d : i < l.length
      · rw [h i (by omega) d, List.getElem?_replicate, if_pos (by omega)]
      · rw [List.getElem?_eq_none (by omega), List.getElem?_replicate, if_neg (by omega)]
  have := wv_zeros (l.take n) (l.length - n)
  rw [← e] at this
  exact this.symm
theorem ws_length (n : Nat) : (ws n).length = (bl n + 31) / 32 := by
  have key : ∀ k n : Nat, n ≤ k → (ws n).length = (bl n + 31) / 32 := by
    intro k
    induction k with
    | zero => intro n h; have : n = 0 := by omega
              subst this; rw [ws_zero]; rfl
    | succ k ih =>
      intro n h
      by_cases h0 : n = 0
      · subst h0; rw [ws_zero]; rfl
      · rw [ws_pos h0, List.length_cons, ih (n / 4294967296) (by omega)]
        by_cases g : n / 4294967296 = 0
        · rw [g]
          have b1 := bl_pos h0
          have b2 : bl n ≤ 32 := bl_le_of_lt (k := 32) (by rw [show (2 : Nat) ^ 32 = 4294967296 by decide]; omega)
          have : bl 0 = 0 := rfl
          omega
        · have := bl_add (n := n / 4294967296) (s := 32) (r := n % 4294967296) g (by rw [show (2 : Nat) ^ 32 = 4294967296 by decide]; omega)
          rw [show (2 : Nat) ^ 32 = 4294967296 by decide, show n / 4294967296 * 4294967296 + n % 4294967296 = n by omega] at this
          rw [this]; omega
  exact key n n (Nat.le_refl _)
/-- The weight of a place. -/
def Q (k : Nat) : Int := ((2 ^ (32 * k) : Nat) : Int)
theorem Q_pos (k : Nat) : 0 < Q k := by unfold Q; exact Int.natCast_pos.2 (Nat.two_pow_pos _)
theorem wi_nil : (wv [] : Int) = 0 := rfl
theorem wi_cons {x : Int} (hx : 0 ≤ x) (l : List Int) : (wv (x :: l) : Int) = x + 4294967296 * wv l := by
  rw [wv]; omega
theorem wi_append (a b : List Int) : (wv (a ++ b) : Int) = wv a + Q a.length * wv b := by
  rw [wv_append]; unfold Q; rw [Int.natCast_add, Int.natCast_mul]
theorem wi_snoc {x : Int} (hx : 0 ≤ x) (l : List Int) : (wv (l ++ [x]) : Int) = wv l + Q l.length * x := by
  rw [wi_append, wi_cons hx]; rw [wi_nil]; simp
theorem getD_word {l : List Int} (h : Words l) (i : Nat) : 0 ≤ l.getD i 0 ∧ l.getD i 0 < 4294967296 := by
  rw [List.getD_eq_getElem?_getD]
  by_cases c : i < l.length
  · rw [List.getElem?_eq_getElem c]; exact h _ (List.getElem_mem c)
  · rw [List.getElem?_eq_none (by omega)]; exact ⟨by decide, by decide⟩
theorem words_take {l : List Int} (h : Words l) (i : Nat) : Words (l.take i) := fun x hx => h x (List.mem_of_mem_take hx)
theorem words_drop {l : List Int} (h : Words l) (i : Nat) : Words (l.drop i) := fun x hx => h x (List.mem_of_mem_drop hx)
theorem take_getD {l : List Int} {k : Nat} (h : k < l.length) : l.take (k + 1) = l.take k ++ [l.getD k 0] := by
  rw [List.take_succ_eq_append_getElem h, List.getD_eq_getElem?_getD, List.getElem?_eq_getElem h]; rfl
theorem drop_getD {l : List Int} {k : Nat} (h : k < l.length) : l.drop k = l.getD k 0 :: l.drop (k + 1) := by
  rw [List.getD_eq_getElem?_getD, List.getElem?_eq_getElem h]; exact List.drop_eq_getElem_cons h
theorem wi_take {l : List Int} (hw : Words l) (k : Nat) : (wv (l.take (k + 1)) : Int) = wv (l.take k) + Q k * l.getD k 0 := by
  by_cases h : k < l.length
  · rw [take_getD h, wi_snoc (getD_word hw k).1, List.length_take, Nat.min_eq_left (by omega)]
  · rw [List.take_of_length_le (by omega), List.take_of_length_le (by omega), List.getD_eq_getElem?_getD, List.getElem?_eq_none (by omega)]; simp
theorem wi_drop {l : List Int} (hw : Words l) (k : Nat) : (wv (l.drop k) : Int) = l.getD k 0 + 4294967296 * wv (l.drop (k + 1)) := by
  by_cases h : k < l.length
  · rw [drop_getD h, wi_cons (getD_word hw k).1]
  · rw [List.drop_of_length_le (by omega), List.drop_of_length_le (by omega), List.getD_eq_getElem?_getD, List.getElem?_eq_none (by omega)]; simp [wi_nil]
theorem wi_split (l : List Int) (k : Nat) : (wv l : Int) = wv (l.take k) + Q k * wv (l.drop k) := by
  have := wi_append (l.take k) (l.drop k)
  rw [List.take_append_drop] at this
  by_cases h : k ≤ l.length
  · rw [this, List.length_take, Nat.min_eq_left h]
  · rw [List.take_of_length_le (by omega), List.drop_of_length_le (by omega), wi_nil]; simp
theorem wi_lt {l : List Int} (h : Words l) : (wv l : Int) < Q l.length := by unfold Q; exact Int.ofNat_lt.2 (wv_lt h)
theorem wi_take_lt {l : List Int} (h : Words l) (k : Nat) : (wv (l.take k) : Int) < Q k := by
  have h1 := wi_lt (words_take h k)
  rw [List.length_take] at h1
  have h2 : Q (min k l.length) ≤ Q k := by unfold Q; exact Int.ofNat_le.2 (pow_le (by omega))
  omega
theorem words_snoc {l : List Int} {x : Int} (h : Words l) (h0 : 0 ≤ x) (h1 : x < 4294967296) : Words (l ++ [x]) := words_append.2 ⟨h, words_cons.2 ⟨⟨h0, h1⟩, words_nil⟩⟩
/-- Cut where the words behind are 0. -/
theorem trim_done {l : List Int} {n : Nat} (hw : Words l) (hn : n ≤ l.length) (h0 : ∀ i, n ≤ i → i < l.length → l.getD i 0 = 0) (ht : n = 0 ∨ l.getD (n - 1) 0 ≠ 0) : l.take n = ws (wv l) ∧ n = (ws (wv l)).length := by
  have e1 : wv (l.take n) = wv l := take_wv (fun i h1 h2 => by
    have := h0 i h1 h2
    rw [List.getD_eq_getElem?_getD, List.getElem?_eq_getElem h2] at this
    rw [List.getElem?_eq_getElem h2]; exact congrArg some this) hn
  have t : Tight (l.take n) := by
    intro x hx
    rcases ht with rfl | ht
    · simp at hx
    · by_cases c : n = 0
      · subst c; simp at hx
      · rw [List.getLast?_eq_getElem?, List.length_take, Nat.min_eq_left hn, List.getElem?_take_of_lt (by omega)] at hx
        rw [List.getD_eq_getElem?_getD, hx] at ht
        exact ht
  have e2 := tight_eq (words_take hw n) t
  rw [e1] at e2
  exact ⟨e2, by rw [← e2, List.length_take]; omega⟩
theorem words_set {l : List Int} {j : Nat} {x : Int} (h : Words l) (h0 : 0 ≤ x) (h1 : x < 4294967296) : Words (l.set j x) := by
  intro y hy
  rcases List.mem_or_eq_of_mem_set hy with g | g
  · exact h y g
  · subst g; exact ⟨h0, h1⟩
theorem getD_set {l : List Int} {j i : Nat} {x : Int} (h : j < l.length) : (l.set j x).getD i 0 = if i = j then x else l.getD i 0 := by
  rw [List.getD_eq_getElem?_getD, List.getD_eq_getElem?_getD, List.getElem?_set]
  by_cases c : j = i
  · subst c; rw [if_pos rfl, if_pos rfl, if_pos h]; rfl
  · rw [if_neg c, if_neg (fun e => c e.symm)]
theorem words_zeros (n : Nat) : Words (List.replicate n 0) := by
  intro x hx; have := List.eq_of_mem_replicate hx; subst this; exact ⟨by decide, by decide⟩
theorem pow_split32 {r : Nat} (h : r ≤ 32) : (4294967296 : Nat) = 2 ^ r * 2 ^ (32 - r) := by
  rw [← Nat.pow_add, show r + (32 - r) = 32 by omega]
theorem div_pow_mod {X b0 b1 Y r : Nat} (hr : r ≤ 32) (h : X = b0 + 4294967296 * b1 + 18446744073709551616 * Y) : X / 2 ^ r % 4294967296 = (b0 + 4294967296 * b1) / 2 ^ r % 4294967296 := by
  have e := pow_split32 (r := r) hr
  have p2 : 0 < 2 ^ r := Nat.two_pow_pos _
  have : X = (b0 + 4294967296 * b1) + 2 ^ r * (4294967296 * (2 ^ (32 - r) * Y)) := by
    rw [h]
    have : 2 ^ r * (4294967296 * (2 ^ (32 - r) * Y)) = 4294967296 * ((2 ^ r * 2 ^ (32 - r)) * Y) := by
      rw [← Nat.mul_assoc, Nat.mul_comm (2 ^ r) 4294967296, Nat.mul_assoc, ← Nat.mul_assoc (2 ^ r)]
    rw [this, ← e]; omega
  rw [this, Nat.add_mul_div_left _ _ p2]
  omega
/-- Right, word by word. -/
theorem shr_step {o b : List Int} {k r : Nat} (hb : Words b) (ho : o.length = k) (hr : r < 32) (h : wv o = wv b / 2 ^ r % 2 ^ (32 * k)) :
    wv (o ++ [((((b.getD k 0).toNat + 4294967296 * (b.getD (k + 1) 0).toNat) / 2 ^ r % 4294967296 : Nat) : Int)]) = wv b / 2 ^ r % 2 ^ (32 * (k + 1)) := by
  have g0 := getD_word hb k
  have g1 := getD_word hb (k + 1)
  have d0 := wi_drop hb k
  have d1 := wi_drop hb (k + 1)
  have key := div_pow_mod (X := wv (b.drop k)) (b0 := (b.getD k 0).toNat) (b1 := (b.getD (k + 1) 0).toNat) (Y := wv (b.drop (k + 1 + 1))) (r := r) (by omega) (by omega)
  rw [← key, wv_snoc, ho, h, Int.toNat_natCast]
  have sp : wv b / 2 ^ (32 * k) = wv (b.drop k) := by
    have e := wi_split b k
    have l := wi_take_lt hb k
    unfold Q at e l
    have l' : wv (b.take k) < 2 ^ (32 * k) := Int.ofNat_lt.1 l
    have e' : wv b = wv (b.take k) + 2 ^ (32 * k) * wv (b.drop k) := by
      have : ((wv b : Nat) : Int) = ((wv (b.take k) + 2 ^ (32 * k) * wv (b.drop k) : Nat) : Int) := by rw [Int.natCast_add, Int.natCast_mul]; exact e
      exact Int.ofNat_inj.1 this
    rw [e', Nat.add_mul_div_left _ _ (Nat.two_pow_pos _), Nat.div_eq_of_lt l', Nat.zero_add]
  have sw : wv b / 2 ^ (32 * k) / 2 ^ r = wv b / 2 ^ r / 2 ^ (32 * k) := by rw [Nat.div_div_eq_div_mul, Nat.div_div_eq_div_mul, Nat.mul_comm]
  rw [← sp, sw, Nat.mul_add 32, Nat.pow_add, show (2 : Nat) ^ (32 * 1) = 4294967296 by decide, Nat.mod_mul]
theorem wv_dropQ {b : List Int} (hb : Words b) (k : Nat) : wv (b.drop k) = wv b / 2 ^ (32 * k) := by
  have e := wi_split b k
  have l := wi_take_lt hb k
  unfold Q at e l
  have l' : wv (b.take k) < 2 ^ (32 * k) := Int.ofNat_lt.1 l
  have e' : wv b = wv (b.take k) + 2 ^ (32 * k) * wv (b.drop k) := by
    have : ((wv b : Nat) : Int) = ((wv (b.take k) + 2 ^ (32 * k) * wv (b.drop k) : Nat) : Int) := by rw [Int.natCast_add, Int.natCast_mul]; exact e
    exact Int.ofNat_inj.1 this
  rw [e', Nat.add_mul_div_left _ _ (Nat.two_pow_pos _), Nat.div_eq_of_lt l', Nat.zero_add]
theorem shr_all {b : List Int} (hb : Words b) (n : Nat) : wv (b.drop (n / 32)) / 2 ^ (n % 32) = wv b / 2 ^ n := by
  rw [wv_dropQ hb, Nat.div_div_eq_div_mul, ← Nat.pow_add, show 32 * (n / 32) + n % 32 = n by omega]
/-- The length in digits, by the highest word. -/
theorem bl_words {A : Nat} (h : A ≠ 0) : bl A = 32 * ((ws A).length - 1) + bl ((ws A).getD ((ws A).length - 1) 0).toNat ∧ (ws A).getD ((ws A).length - 1) 0 ≠ 0 ∧ 1 ≤ (ws A).length := by
  have hl : 1 ≤ (ws A).length := by rw [ws_pos h]; simp
  have hw := words_ws A
  have t := ws_tight A ((ws A).getD ((ws A).length - 1) 0) (by
    rw [List.getLast?_eq_getElem?, List.getD_eq_getElem?_getD, List.getElem?_eq_getElem (by omega)]; rfl)
  have g := getD_word hw ((ws A).length - 1)
  have e := wi_split (ws A) ((ws A).length - 1)
  have d := wi_drop hw ((ws A).length - 1)
  rw [List.drop_of_length_le (show (ws A).length ≤ (ws A).length - 1 + 1 by omega), wi_nil, Int.mul_zero, Int.add_zero] at d
  rw [d, wv_ws] at e
  have l := wi_take_lt hw ((ws A).length - 1)
  unfold Q at e l
  generalize (ws A).getD ((ws A).length - 1) 0 = y at *
  generalize (ws A).length - 1 = n at *
  obtain ⟨Y, rfl⟩ := Int.eq_ofNat_of_zero_le g.1
  have l' : wv ((ws A).take n) < 2 ^ (32 * n) := Int.ofNat_lt.1 l
  have e' : A = Y * 2 ^ (32 * n) + wv ((ws A).take n) := by
    rw [← Int.natCast_mul, ← Int.natCast_add] at e
    have := Int.ofNat_inj.1 e
    rw [Nat.mul_comm, Nat.add_comm]; exact this
  have Y0 : Y ≠ 0 := fun c => t (by rw [c]; rfl)
  refine ⟨?_, t, hl⟩
  have := bl_add Y0 l'
  rw [← e'] at this
  rw [this, Int.toNat_natCast]; omega
theorem len_bound {l : List Int} (h : Words l) : bl (wv l) ≤ 32 * l.length := bl_le_of_lt (wv_lt h)
theorem ws_len_le {A n : Nat} (h : bl A ≤ 32 * n) : (ws A).length ≤ n := by rw [ws_length]; omega
theorem getD0 {l : List Int} {i : Nat} (h : l.length ≤ i) : l.getD i 0 = 0 := by rw [List.getD_eq_getElem?_getD, List.getElem?_eq_none h]; rfl
theorem wv_takeQ {b : List Int} (hb : Words b) (k : Nat) : wv (b.take k) = wv b % 2 ^ (32 * k) := by
  have e := wi_split b k
  have l := wi_take_lt hb k
  unfold Q at e l
  have l' : wv (b.take k) < 2 ^ (32 * k) := Int.ofNat_lt.1 l
  have e' : wv b = wv (b.take k) + 2 ^ (32 * k) * wv (b.drop k) := by
    have : ((wv b : Nat) : Int) = ((wv (b.take k) + 2 ^ (32 * k) * wv (b.drop k) : Nat) : Int) := by rw [Int.natCast_add, Int.natCast_mul]; exact e
    exact Int.ofNat_inj.1 this
  rw [e', Nat.add_mul_mod_self_left, Nat.mod_eq_of_lt l']
/-- Is a word not 0 among the first ones? -/
def some0 (l : List Int) (k : Nat) : Bool := decide (wv (l.take k) ≠ 0)
theorem some0_zero (l : List Int) : some0 l 0 = false := by unfold some0; rw [List.take_zero]; rfl
theorem some0_succ {l : List Int} (hw : Words l) (k : Nat) : some0 l (k + 1) = (some0 l k || (l.getD k 0 != 0)) := by
  unfold some0
  have e := wi_take hw k
  have g := getD_word hw k
  have q := Q_pos k
  have p : 0 ≤ Q k * l.getD k 0 := Int.mul_nonneg (Int.le_of_lt q) g.1
  rw [Bool.eq_iff_iff]
  simp only [decide_eq_true_eq, Bool.or_eq_true, bne_iff_ne, ne_eq]
  constructor
  · intro h
    by_cases c : l.getD k 0 = 0
    · left; intro d; apply h; rw [c] at e; rw [d] at e; simp at e; exact e
    · exact .inr c
  · rintro (h | h) d
    · omega
    · have : 0 < Q k * l.getD k 0 := Int.mul_pos q (by omega)
      omega
theorem low_bits {l : List Int} (hw : Words l) (s r : Nat) (hr : r ≤ 32) : wv l / 2 ^ (32 * s) % 2 ^ r = (l.getD s 0).toNat % 2 ^ r := by
  rw [← wv_dropQ hw]
  have d := wi_drop hw s
  have g := getD_word hw s
  have e : wv (l.drop s) = (l.getD s 0).toNat + 4294967296 * wv (l.drop (s + 1)) := by omega
  rw [e, pow_split32 hr, Nat.mul_assoc, Nat.add_mul_mod_self_left]
/-- What a shift to the right loses. -/
theorem rest_words {l : List Int} (hw : Words l) (n : Nat) : decide (wv l % 2 ^ n ≠ 0) = (some0 l (n / 32) || decide ((l.getD (n / 32) 0).toNat % 2 ^ (n % 32) ≠ 0)) := by
  have e : 2 ^ n = 2 ^ (32 * (n / 32)) * 2 ^ (n % 32) := by rw [← Nat.pow_add]; congr 1; omega
  unfold some0
  rw [e, Nat.mod_mul, wv_takeQ hw, low_bits hw _ _ (by omega)]
  have p : 0 < 2 ^ (32 * (n / 32)) := Nat.two_pow_pos _
  rw [Bool.eq_iff_iff]
  simp only [decide_eq_true_eq, Bool.or_eq_true, ne_eq]
  generalize wv l % 2 ^ (32 * (n / 32)) = A
  generalize (l.getD (n / 32) 0).toNat % 2 ^ (n % 32) = B
  generalize 2 ^ (32 * (n / 32)) = D at *
  by_cases hA : A = 0
  · subst hA
    rw [Nat.zero_add, Nat.mul_eq_zero]
    constructor
    · intro h; right; intro c; exact h (.inr c)
    · rintro (h | h) c
      · exact h rfl
      · rcases c with c | c
        · omega
        · exact h c
  · constructor
    · intro _; exact .inl hA
    · intro _ c; omega
/-- The clamp of the program's Make. -/
theorem make_clamp (n : Bool) (M : Nat) (e c : Int) (hc : 1024 ≤ c) (hb : (bl M : Int) + 1076 ≤ c) : makeV n M (min (max e (-c)) c) = makeV n M e := by
  unfold makeV; rw [pat_clamp M e false c hc hb]
end Go.Proofs.Ytkifdppppihjcaa.SF
