/- Floats as exact numbers, rounded once: plainly (0). -/
namespace Go.Proofs.Ytecgkhijiogggaa.SF
set_option linter.unusedVariables false
set_option linter.unusedSimpArgs false

def bl (n : Nat) : Nat := if n = 0 then 0 else n.log2 + 1
theorem bl_zero : bl 0 = 0 := rfl
theorem bl_lt (n : Nat) : n < 2 ^ bl n := by
  unfold bl; split
  · subst_vars; simp
  · exact Nat.lt_log2_self
theorem bl_le {n : Nat} (h : n ≠ 0) : 2 ^ (bl n - 1) ≤ n := by
  unfold bl; rw [if_neg h]; simpa using Nat.log2_self_le h
theorem bl_pos {n : Nat} (h : n ≠ 0) : 1 ≤ bl n := by unfold bl; rw [if_neg h]; omega
theorem pow_le {a b : Nat} (h : a ≤ b) : 2 ^ a ≤ 2 ^ b := Nat.pow_le_pow_right (by decide) h
theorem pow_pos (a : Nat) : 0 < 2 ^ a := Nat.two_pow_pos a
theorem lt_of_pow {a b : Nat} (h : 2 ^ a < 2 ^ b) : a < b := (Nat.pow_lt_pow_iff_right (by decide)).1 h
theorem bl_le_of_lt {n k : Nat} (h : n < 2 ^ k) : bl n ≤ k := by
  by_cases h0 : n = 0
  · subst h0; exact Nat.zero_le _
  · have h1 := bl_le h0
    have h2 := lt_of_pow (Nat.lt_of_le_of_lt h1 h)
    omega
theorem lt_bl_of_le {n k : Nat} (h : 2 ^ k ≤ n) : k < bl n := lt_of_pow (Nat.lt_of_le_of_lt h (bl_lt n))
theorem bl_eq {n k : Nat} (h1 : 2 ^ k ≤ n) (h2 : n < 2 ^ (k + 1)) : bl n = k + 1 := by
  have := bl_le_of_lt h2
  have := lt_bl_of_le h1
  omega
theorem bl_mono {a b : Nat} (h : a ≤ b) : bl a ≤ bl b := bl_le_of_lt (Nat.lt_of_le_of_lt h (bl_lt b))
theorem bl_add {n s r : Nat} (h : n ≠ 0) (hr : r < 2 ^ s) : bl (n * 2 ^ s + r) = bl n + s := by
  have hp := bl_pos h
  have e1 : bl n + s = (bl n - 1 + s) + 1 := by omega
  rw [e1]
  apply bl_eq
  · rw [Nat.pow_add]
    exact Nat.le_trans (Nat.mul_le_mul_right _ (bl_le h)) (Nat.le_add_right _ _)
  · rw [show bl n - 1 + s + 1 = bl n + s by omega, Nat.pow_add]
    calc n * 2 ^ s + r < n * 2 ^ s + 2 ^ s := by omega
      _ = (n + 1) * 2 ^ s := by rw [Nat.add_mul, Nat.one_mul]
      _ ≤ 2 ^ bl n * 2 ^ s := Nat.mul_le_mul_right _ (bl_lt n)
theorem bl_mul {n : Nat} (s : Nat) (h : n ≠ 0) : bl (n * 2 ^ s) = bl n + s := by
  have := bl_add (s := s) (r := 0) h (pow_pos s)
  simpa using this

/-- To the nearest, ties to even; 'rest': there is a little more. -/
def rne (m c : Nat) (rest : Bool) : Nat :=
  if 2 ^ c < 2 * (m % 2 ^ c) ∨ (2 * (m % 2 ^ c) = 2 ^ c ∧ (rest = true ∨ m / 2 ^ c % 2 = 1)) then m / 2 ^ c + 1 else m / 2 ^ c
theorem rne_ge (m c : Nat) (rest : Bool) : m / 2 ^ c ≤ rne m c rest := by unfold rne; split <;> omega
theorem rne_le (m c : Nat) (rest : Bool) : rne m c rest ≤ m / 2 ^ c + 1 := by unfold rne; split <;> omega
theorem rne_zero (m : Nat) (rest : Bool) : rne m 0 rest = m := by
  unfold rne
  rw [if_neg (by simp [Nat.mod_one])]
  simp
theorem rne_exact (m c : Nat) : rne (m * 2 ^ c) c false = m := by
  unfold rne
  have := pow_pos c
  rw [Nat.mul_mod_left, Nat.mul_div_cancel _ this, if_neg (by omega)]
theorem mod_split (m c s r : Nat) (hr : r < 2 ^ s) : (m * 2 ^ s + r) / 2 ^ (c + s) = m / 2 ^ c ∧ (m * 2 ^ s + r) % 2 ^ (c + s) = (m % 2 ^ c) * 2 ^ s + r := by
  have hp := pow_pos s
  have h1 : (m * 2 ^ s + r) / 2 ^ s = m := by
    rw [Nat.add_comm, Nat.add_mul_div_right _ _ hp, Nat.div_eq_of_lt hr, Nat.zero_add]
  have h2 : (m * 2 ^ s + r) % 2 ^ s = r := by
    rw [Nat.add_comm, Nat.add_mul_mod_self_right, Nat.mod_eq_of_lt hr]
  constructor
  · rw [Nat.pow_add, Nat.mul_comm (2 ^ c), ← Nat.div_div_eq_div_mul, h1]
  · rw [Nat.pow_add, Nat.mul_comm (2 ^ c), Nat.mod_mul, h1, h2, Nat.mul_comm (2 ^ s), Nat.add_comm]
theorem rne_sticky (m c s r : Nat) (hr : r < 2 ^ s) (hc : 1 ≤ c) : rne (m * 2 ^ s + r) (c + s) false = rne m c (decide (r ≠ 0)) := by
  obtain ⟨h1, h2⟩ := mod_split m c s r hr
  unfold rne
  rw [h1, h2]
  obtain ⟨d, rfl⟩ : ∃ d, c = d + 1 := ⟨c - 1, by omega⟩
  have hlt : m % 2 ^ (d + 1) < 2 ^ (d + 1) := Nat.mod_lt _ (pow_pos _)
  obtain ⟨R, hR⟩ : ∃ R, m % 2 ^ (d + 1) = R := ⟨_, rfl⟩
  obtain ⟨H, hH⟩ : ∃ H, 2 ^ d = H := ⟨_, rfl⟩
  have e1 : 2 ^ (d + 1) = 2 * H := by rw [← hH, Nat.pow_succ]; omega
  have e2 : 2 ^ (d + 1 + s) = 2 * (H * 2 ^ s) := by rw [Nat.pow_add, e1, Nat.mul_assoc]
  rw [hR, e1, e2]
  have k1 : 2 * (H * 2 ^ s) < 2 * (R * 2 ^ s + r) ↔ (H < R ∨ (R = H ∧ r ≠ 0)) := by
    constructor
    · intro h
      rcases Nat.lt_trichotomy H R with g | g | g
      · exact .inl g
      · subst g; exact .inr ⟨rfl, by omega⟩
      · exfalso
        have : (R + 1) * 2 ^ s ≤ H * 2 ^ s := Nat.mul_le_mul_right _ g
        rw [Nat.add_mul] at this
        omega
    · rintro (h | ⟨rfl, h⟩)
      · have : (H + 1) * 2 ^ s ≤ R * 2 ^ s := Nat.mul_le_mul_right _ h
        rw [Nat.add_mul] at this
        have := pow_pos s
        omega
      · omega
  have k2 : 2 * (R * 2 ^ s + r) = 2 * (H * 2 ^ s) ↔ (R = H ∧ r = 0) := by
    constructor
    · intro h
      rcases Nat.lt_trichotomy H R with g | g | g
      · exfalso
        have : (H + 1) * 2 ^ s ≤ R * 2 ^ s := Nat.mul_le_mul_right _ g
        rw [Nat.add_mul] at this
        omega
      · subst g; exact ⟨rfl, by omega⟩
      · exfalso
        have : (R + 1) * 2 ^ s ≤ H * 2 ^ s := Nat.mul_le_mul_right _ g
        rw [Nat.add_mul] at this
        omega
    · rintro ⟨rfl, rfl⟩; rfl
  have k3 : (2 * (H * 2 ^ s) < 2 * (R * 2 ^ s + r) ∨ (2 * (R * 2 ^ s + r) = 2 * (H * 2 ^ s) ∧ (false = true ∨ m / (2 * H) % 2 = 1))) ↔
      (2 * H < 2 * R ∨ (2 * R = 2 * H ∧ (decide (r ≠ 0) = true ∨ m / (2 * H) % 2 = 1))) := by
    rw [k1, k2]
    simp only [decide_eq_true_eq]
    constructor
    · rintro ((h | ⟨rfl, h⟩) | ⟨⟨rfl, h⟩, h2 | h2⟩)
      · exact .inl (by omega)
      · exact .inr ⟨rfl, .inl h⟩
      · simp at h2
      · exact .inr ⟨rfl, .inr h2⟩
    · rintro (h | ⟨h, h2 | h2⟩)
      · exact .inl (.inl (by omega))
      · exact .inl (.inr ⟨by omega, h2⟩)
      · by_cases hz : r = 0
        · exact .inr ⟨⟨by omega, hz⟩, .inr h2⟩
        · exact .inl (.inr ⟨by omega, hz⟩)
  by_cases hk : 2 * H < 2 * R ∨ (2 * R = 2 * H ∧ (decide (r ≠ 0) = true ∨ m / (2 * H) % 2 = 1))
  · rw [if_pos hk, if_pos (k3.2 hk)]
  · rw [if_neg hk, if_neg (fun h => hk (k3.1 h))]
theorem rne_mono {a b c : Nat} (h : a ≤ b) : rne a c false ≤ rne b c false := by
  have hp := pow_pos c
  have hd : a / 2 ^ c ≤ b / 2 ^ c := Nat.div_le_div_right h
  rcases Nat.lt_or_eq_of_le hd with hl | he
  · exact Nat.le_trans (rne_le a c false) (Nat.le_trans hl (rne_ge b c false))
  · have ea := Nat.div_add_mod a (2 ^ c)
    have eb := Nat.div_add_mod b (2 ^ c)
    rw [he] at ea
    have hm : a % 2 ^ c ≤ b % 2 ^ c := by omega
    unfold rne
    rw [he]
    split
    · rename_i g
      rw [if_pos (by simp only [Bool.false_eq_true, false_or] at g ⊢; omega)]
      exact Nat.le_refl _
    · split <;> omega
/-- The exponent of the last digit. -/
def qz (p : Nat) (low : Int) (b : Nat) (e : Int) : Int := max ((b : Int) + e - p) low
def vz (p : Nat) (low : Int) (m : Nat) (e : Int) (rest : Bool) : Nat :=
  if qz p low (bl m) e ≤ e then m * 2 ^ (e - qz p low (bl m) e).toNat else rne m (qz p low (bl m) e - e).toNat rest
/-- The size of the nearest float of a format, as a pattern. -/
def patG (p : Nat) (low high : Int) (m : Nat) (e : Int) (rest : Bool) : Nat :=
  if m = 0 then 0 else min ((qz p low (bl m) e - low).toNat * 2 ^ (p - 1) + vz p low m e rest) ((high - low + 2).toNat * 2 ^ (p - 1))
theorem vz_pos {p : Nat} {low : Int} {m : Nat} {e : Int} {rest : Bool} (h : qz p low (bl m) e ≤ e) : vz p low m e rest = m * 2 ^ (e - qz p low (bl m) e).toNat := by unfold vz; rw [if_pos h]
theorem vz_neg {p : Nat} {low : Int} {m : Nat} {e : Int} {rest : Bool} (h : e < qz p low (bl m) e) : vz p low m e rest = rne m (qz p low (bl m) e - e).toNat rest := by unfold vz; rw [if_neg (by omega)]
theorem vz_le (p : Nat) (low : Int) (m : Nat) (e : Int) (rest : Bool) : vz p low m e rest ≤ 2 ^ p := by
  obtain ⟨q, hq⟩ : ∃ q, qz p low (bl m) e = q := ⟨_, rfl⟩
  have hq' : (bl m : Int) + e - p ≤ q := by rw [← hq]; unfold qz; omega
  by_cases h : q ≤ e
  · rw [vz_pos (by rw [hq]; exact h), hq]
    have h1 := bl_lt m
    calc m * 2 ^ (e - q).toNat ≤ 2 ^ bl m * 2 ^ (e - q).toNat := Nat.mul_le_mul_right _ (Nat.le_of_lt h1)
      _ = 2 ^ (bl m + (e - q).toNat) := (Nat.pow_add _ _ _).symm
      _ ≤ 2 ^ p := pow_le (by omega)
  · rw [vz_neg (by rw [hq]; omega), hq]
    have h1 := bl_lt m
    have h2 : m / 2 ^ (q - e).toNat < 2 ^ p := by
      rw [Nat.div_lt_iff_lt_mul (pow_pos _), ← Nat.pow_add]
      exact Nat.lt_of_lt_of_le h1 (pow_le (by omega))
    have := rne_le m (q - e).toNat rest
    omega
theorem vz_lt {p : Nat} {low : Int} {m : Nat} {e : Int} {rest : Bool} (h : qz p low (bl m) e ≤ e) : vz p low m e rest < 2 ^ p := by
  rw [vz_pos h]
  obtain ⟨q, hq⟩ : ∃ q, qz p low (bl m) e = q := ⟨_, rfl⟩
  have hq' : (bl m : Int) + e - p ≤ q := by rw [← hq]; unfold qz; omega
  rw [hq] at h ⊢
  have h1 := bl_lt m
  calc m * 2 ^ (e - q).toNat < 2 ^ bl m * 2 ^ (e - q).toNat := Nat.mul_lt_mul_of_pos_right h1 (pow_pos _)
    _ = 2 ^ (bl m + (e - q).toNat) := (Nat.pow_add _ _ _).symm
    _ ≤ 2 ^ p := pow_le (by omega)
/-- A float that is not of the least ones has its highest digit. -/
theorem vz_ge {p : Nat} {low : Int} {m : Nat} {e : Int} {rest : Bool} (hp : 1 ≤ p) (h0 : m ≠ 0) (h : low < qz p low (bl m) e) : 2 ^ (p - 1) ≤ vz p low m e rest := by
  obtain ⟨q, hq⟩ : ∃ q, qz p low (bl m) e = q := ⟨_, rfl⟩
  have hq' : (bl m : Int) + e - p = q := by rw [hq] at h; rw [← hq] at h ⊢; unfold qz at *; omega
  have h1 := bl_le h0
  have h2 := bl_pos h0
  by_cases g : q ≤ e
  · rw [vz_pos (by rw [hq]; exact g), hq]
    calc 2 ^ (p - 1) ≤ 2 ^ (bl m - 1 + (e - q).toNat) := pow_le (by omega)
      _ = 2 ^ (bl m - 1) * 2 ^ (e - q).toNat := Nat.pow_add _ _ _
      _ ≤ m * 2 ^ (e - q).toNat := Nat.mul_le_mul_right _ h1
  · rw [vz_neg (by rw [hq]; omega), hq]
    refine Nat.le_trans ?_ (rne_ge _ _ _)
    rw [Nat.le_div_iff_mul_le (pow_pos _), ← Nat.pow_add]
    exact Nat.le_trans (pow_le (by omega)) h1
theorem patG_zero (p : Nat) (low high : Int) (e : Int) (rest : Bool) : patG p low high 0 e rest = 0 := by unfold patG; rw [if_pos rfl]
theorem patG_ne {p : Nat} {low high : Int} {m : Nat} (h : m ≠ 0) (e : Int) (rest : Bool) : patG p low high m e rest = min ((qz p low (bl m) e - low).toNat * 2 ^ (p - 1) + vz p low m e rest) ((high - low + 2).toNat * 2 ^ (p - 1)) := by unfold patG; rw [if_neg h]
theorem patG_le (p : Nat) (low high : Int) (m : Nat) (e : Int) (rest : Bool) : patG p low high m e rest ≤ (high - low + 2).toNat * 2 ^ (p - 1) := by
  unfold patG; split
  · exact Nat.zero_le _
  · exact Nat.min_le_right _ _
/-- Digits and exponent, as both texts make them; and the pattern out of them. -/
def rv (p : Nat) (low : Int) (m : Nat) (e : Int) (rest : Bool) : Nat := if vz p low m e rest = 2 ^ p then 2 ^ (p - 1) else vz p low m e rest
def rx (p : Nat) (low : Int) (m : Nat) (e : Int) (rest : Bool) : Int := if vz p low m e rest = 2 ^ p then qz p low (bl m) e + 1 else qz p low (bl m) e
theorem patG_over {p : Nat} {low high : Int} {m : Nat} {e : Int} {rest : Bool} (hp : 1 ≤ p) (h0 : m ≠ 0) (hl : low ≤ high) (h : high < rx p low m e rest) : patG p low high m e rest = (high - low + 2).toNat * 2 ^ (p - 1) := by
  rw [patG_ne h0]
  apply Nat.min_eq_right
  obtain ⟨q, hq⟩ : ∃ q, qz p low (bl m) e = q := ⟨_, rfl⟩
  unfold rx at h
  rw [hq] at h ⊢
  by_cases hv : vz p low m e rest = 2 ^ p
  · rw [if_pos hv] at h
    rw [hv]
    have e1 : 2 ^ p = 2 * 2 ^ (p - 1) := by rw [Nat.mul_comm, ← Nat.pow_succ]; congr 1; omega
    rw [e1, ← Nat.add_mul]
    exact Nat.mul_le_mul_right _ (by omega)
  · rw [if_neg hv] at h
    have := vz_ge (rest := rest) hp h0 (by rw [hq]; omega)
    calc (high - low + 2).toNat * 2 ^ (p - 1) ≤ ((q - low).toNat + 1) * 2 ^ (p - 1) := Nat.mul_le_mul_right _ (by omega)
      _ = (q - low).toNat * 2 ^ (p - 1) + 2 ^ (p - 1) := by rw [Nat.add_mul, Nat.one_mul]
      _ ≤ _ := by omega
theorem qz_ge (p : Nat) (low : Int) (b : Nat) (e : Int) : low ≤ qz p low b e := by unfold qz; omega
theorem patG_under {p : Nat} {low high : Int} {m : Nat} {e : Int} {rest : Bool} (hp : 1 ≤ p) (h0 : m ≠ 0) (hl : low ≤ high) (h : rx p low m e rest ≤ high) :
    patG p low high m e rest = (if rv p low m e rest < 2 ^ (p - 1) then rv p low m e rest else (rx p low m e rest - low + 1).toNat * 2 ^ (p - 1) + (rv p low m e rest - 2 ^ (p - 1))) := by
  rw [patG_ne h0]
  have e1 : 2 ^ p = 2 * 2 ^ (p - 1) := by rw [Nat.mul_comm, ← Nat.pow_succ]; congr 1; omega
  have pp := pow_pos (p - 1)
  have hge := qz_ge p low (bl m) e
  have hvl := vz_le p low m e rest
  have hvg := fun h => vz_ge (rest := rest) (e := e) (low := low) hp h0 h
  obtain ⟨q, hq⟩ : ∃ q, qz p low (bl m) e = q := ⟨_, rfl⟩
  obtain ⟨v, hv⟩ : ∃ v, vz p low m e rest = v := ⟨_, rfl⟩
  unfold rx rv at *
  rw [hq] at h hge hvg ⊢
  rw [hv] at h hvl hvg ⊢
  by_cases g : v = 2 ^ p
  · rw [if_pos g] at h
    rw [if_pos g, if_pos g, if_neg (Nat.lt_irrefl _), Nat.sub_self, Nat.add_zero, g, e1, ← Nat.add_mul]
    rw [Nat.min_eq_left (Nat.mul_le_mul_right _ (by omega))]
    congr 1
    omega
  · rw [if_neg g] at h
    rw [if_neg g, if_neg g]
    have hv2 : v < 2 ^ p := by omega
    rw [Nat.min_eq_left]
    · by_cases s : v < 2 ^ (p - 1)
      · rw [if_pos s]
        have : q = low := by
          rcases Int.lt_or_eq_of_le hge with c | c
          · exact absurd (hvg c) (by omega)
          · omega
        subst this
        simp
      · rw [if_neg s]
        have e2 : (q - low + 1).toNat = (q - low).toNat + 1 := by omega
        rw [e2, Nat.add_mul, Nat.one_mul]
        omega
    · calc (q - low).toNat * 2 ^ (p - 1) + v ≤ (q - low).toNat * 2 ^ (p - 1) + 2 * 2 ^ (p - 1) := by omega
        _ = ((q - low).toNat + 2) * 2 ^ (p - 1) := by rw [Nat.add_mul]
        _ ≤ _ := Nat.mul_le_mul_right _ (by omega)
/-- Scaling changes nothing. -/
theorem patG_scale {p : Nat} {low high : Int} (m k : Nat) (e : Int) : patG p low high (m * 2 ^ k) (e - k) false = patG p low high m e false := by
  by_cases h0 : m = 0
  · subst h0; rw [Nat.zero_mul, patG_zero, patG_zero]
  have h1 : m * 2 ^ k ≠ 0 := Nat.mul_ne_zero h0 (by have := pow_pos k; omega)
  rw [patG_ne h0, patG_ne h1, bl_mul k h0]
  have eq : qz p low (bl m + k) (e - k) = qz p low (bl m) e := by unfold qz; omega
  have ev : vz p low (m * 2 ^ k) (e - k) false = vz p low m e false := by
    obtain ⟨q, hq⟩ : ∃ q, qz p low (bl m) e = q := ⟨_, rfl⟩
    have eq2 : qz p low (bl (m * 2 ^ k)) (e - k) = q := by rw [bl_mul k h0, eq, hq]
    by_cases g : q ≤ e
    · rw [vz_pos (m := m) (e := e) (by rw [hq]; exact g), hq]
      by_cases g2 : q ≤ e - k
      · rw [vz_pos (by rw [eq2]; exact g2), eq2, Nat.mul_assoc, ← Nat.pow_add]
        congr 2
        omega
      · rw [vz_neg (by rw [eq2]; omega), eq2]
        have : k = (e - q).toNat + (q - (e - k)).toNat := by omega
        conv => lhs; arg 1; rw [this]
        rw [Nat.pow_add, ← Nat.mul_assoc, rne_exact]
    · rw [vz_neg (m := m) (e := e) (by rw [hq]; omega), hq, vz_neg (by rw [eq2]; omega), eq2]
      have := rne_sticky m (q - e).toNat k 0 (pow_pos k) (by omega)
      rw [Nat.add_zero] at this
      rw [show (q - (e - (k : Int))).toNat = (q - e).toNat + k by omega, this]
      simp
  rw [eq, ev]
/-- A little more, told by one digit. -/
theorem patG_sticky {p : Nat} {low high : Int} (m s r : Nat) (e : Int) (h0 : m ≠ 0) (hr : r < 2 ^ s) (hq : e < qz p low (bl m) e) : patG p low high (m * 2 ^ s + r) (e - s) false = patG p low high m e (decide (r ≠ 0)) := by
  have h1 : m * 2 ^ s + r ≠ 0 := by
    have := Nat.mul_ne_zero h0 (show 2 ^ s ≠ 0 by have := pow_pos s; omega)
    omega
  have eb := bl_add (s := s) h0 hr
  rw [patG_ne h0, patG_ne h1, eb]
  have eq : qz p low (bl m + s) (e - s) = qz p low (bl m) e := by unfold qz; omega
  rw [eq]
  have ev : vz p low (m * 2 ^ s + r) (e - s) false = vz p low m e (decide (r ≠ 0)) := by
    rw [vz_neg (by rw [eb, eq]; omega), vz_neg hq, eb, eq, ← rne_sticky m _ s r hr (by omega)]
    congr 1
    omega
  rw [ev]
/-- The order is kept. -/
theorem vz_mono {p : Nat} {low : Int} {a b : Nat} {e : Int} (h : a ≤ b) (hq : qz p low (bl a) e = qz p low (bl b) e) : vz p low a e false ≤ vz p low b e false := by
  unfold vz
  rw [hq]
  split
  · exact Nat.mul_le_mul_right _ h
  · exact rne_mono h
theorem patG_mono {p : Nat} {low high : Int} {a b : Nat} (hp : 1 ≤ p) (e : Int) (h : a ≤ b) : patG p low high a e false ≤ patG p low high b e false := by
  by_cases h0 : a = 0
  · subst h0; rw [patG_zero]; exact Nat.zero_le _
  have h1 : b ≠ 0 := by omega
  rw [patG_ne h0, patG_ne h1]
  refine Nat.le_min.2 ⟨Nat.le_trans (Nat.min_le_left _ _) ?_, Nat.min_le_right _ _⟩
  have hb := bl_mono h
  have hq : qz p low (bl a) e ≤ qz p low (bl b) e := by unfold qz; omega
  rcases Int.lt_or_eq_of_le hq with hl | he
  · have g1 := qz_ge p low (bl a) e
    have g2 := vz_ge (rest := false) (e := e) (low := low) (m := b) hp h1 (by omega)
    have g3 := vz_le p low a e false
    have e1 : 2 ^ p = 2 * 2 ^ (p - 1) := by rw [Nat.mul_comm, ← Nat.pow_succ]; congr 1; omega
    obtain ⟨x, hx⟩ : ∃ x, qz p low (bl a) e = x := ⟨_, rfl⟩
    obtain ⟨y, hy⟩ : ∃ y, qz p low (bl b) e = y := ⟨_, rfl⟩
    rw [hx] at hl ⊢
    rw [hy] at hl ⊢
    calc (x - low).toNat * 2 ^ (p - 1) + vz p low a e false ≤ (x - low).toNat * 2 ^ (p - 1) + 2 * 2 ^ (p - 1) := by omega
      _ = ((x - low).toNat + 1) * 2 ^ (p - 1) + 2 ^ (p - 1) := by rw [Nat.add_mul, Nat.one_mul]; omega
      _ ≤ (y - low).toNat * 2 ^ (p - 1) + 2 ^ (p - 1) := Nat.add_le_add_right (Nat.mul_le_mul_right _ (by omega)) _
      _ ≤ _ := by omega
  · rw [he]
    exact Nat.add_le_add_left (vz_mono h he) _
end Go.Proofs.Ytecgkhijiogggaa.SF
