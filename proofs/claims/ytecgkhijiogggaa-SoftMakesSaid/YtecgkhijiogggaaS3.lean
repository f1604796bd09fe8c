/- Floats as exact numbers, rounded once: plainly (3). -/
import Derived.Test.YtecgkhijiogggaaS2
namespace Go.Proofs.Ytecgkhijiogggaa.SF
set_option linter.unusedVariables false
set_option linter.unusedSimpArgs false

def mulF (a b : Nat) : Nat := sg (ng a != ng b) (pat (sm a * sm b) (se a + se b) false)
def mulV (a b : Nat) : Nat :=
  if (nan a || nan b) || (inf a && zer b || zer a && inf b) then NaN
  else if inf a || inf b then sg (ng a != ng b) Inf else mulF a b
/-- a by b, times 2^e: a quotient and what tells whether something is left. -/
def quoV (x y : Nat) (e : Int) : Nat := pat (2 * (x * 2 ^ (70 + bl y - bl x) / y) + (if x * 2 ^ (70 + bl y - bl x) % y ≠ 0 then 1 else 0)) (e - ((70 + bl y - bl x : Nat) : Int) - 1) false
def divF (a b : Nat) : Nat := sg (ng a != ng b) (quoV (sm a) (sm b) (se a - se b))
def divV (a b : Nat) : Nat :=
  if (nan a || nan b) || (inf a && inf b || zer a && zer b) then NaN
  else if inf a || zer b then sg (ng a != ng b) Inf else if inf b || zer a then sg (ng a != ng b) 0 else divF a b
/-- The program's quotient: digits moved up to 53, 63 more. -/
theorem quo_mid (x y k j s : Nat) (hy : 0 < y) (hk : k = j + s) :
    ∃ r, r < 2 ^ (s + 1) ∧ 2 * (x * 2 ^ k / y) + (if x * 2 ^ k % y ≠ 0 then 1 else 0) = x * 2 ^ j / y * 2 ^ (s + 1) + r ∧ (r ≠ 0 ↔ x * 2 ^ j % y ≠ 0) := by
  subst hk
  obtain ⟨Q, hQ⟩ : ∃ Q, x * 2 ^ j / y = Q := ⟨_, rfl⟩
  obtain ⟨R, hR⟩ : ∃ R, x * 2 ^ j % y = R := ⟨_, rfl⟩
  have h1 := Nat.div_add_mod (x * 2 ^ j) y
  rw [hQ, hR] at h1
  have hRl : R < y := by rw [← hR]; exact Nat.mod_lt _ hy
  have e1 : x * 2 ^ (j + s) = y * (Q * 2 ^ s) + R * 2 ^ s := by
    rw [Nat.pow_add, ← Nat.mul_assoc, ← h1, Nat.add_mul, Nat.mul_assoc]
  have e2 : x * 2 ^ (j + s) / y = Q * 2 ^ s + R * 2 ^ s / y := by rw [e1, Nat.mul_add_div hy]
  have e3 : x * 2 ^ (j + s) % y = R * 2 ^ s % y := by rw [e1, Nat.mul_add_mod]
  rw [e2, e3, hQ, hR]
  have ps := pow_pos s
  have lt : R * 2 ^ s / y < 2 ^ s := by
    rw [Nat.div_lt_iff_lt_mul hy, Nat.mul_comm (2 ^ s)]
    exact Nat.mul_lt_mul_of_pos_right hRl ps
  refine ⟨2 * (R * 2 ^ s / y) + (if R * 2 ^ s % y ≠ 0 then 1 else 0), ?_, ?_, ?_⟩
  · rw [Nat.pow_succ]; split <;> omega
  · rw [Nat.pow_succ, Nat.mul_add, ← Nat.mul_assoc, Nat.mul_comm 2 Q, ← Nat.add_assoc, Nat.mul_assoc Q, Nat.mul_comm 2 (2 ^ s)]
  · have h4 := Nat.div_add_mod (R * 2 ^ s) y
    constructor
    · intro c g
      subst g
      simp at c
    · intro g c
      have hz : R * 2 ^ s / y = 0 ∧ R * 2 ^ s % y = 0 := by
        by_cases hm : R * 2 ^ s % y ≠ 0
        · rw [if_pos hm] at c; omega
        · rw [if_neg hm] at c; omega
      rw [hz.1, hz.2, Nat.mul_zero, Nat.zero_add] at h4
      have := Nat.mul_ne_zero g (show 2 ^ s ≠ 0 by omega)
      omega
theorem quo_prog {x y : Nat} (e : Int) (i j : Nat) (hx : bl x + i = 53) (hy : bl y + j = 53) (hx0 : x ≠ 0) (hy0 : y ≠ 0) :
    pat (x * 2 ^ i * 2 ^ 63 / (y * 2 ^ j)) (e - i + j - 63) (decide (x * 2 ^ i * 2 ^ 63 % (y * 2 ^ j) ≠ 0)) = quoV x y e ∧ x * 2 ^ i * 2 ^ 63 / (y * 2 ^ j) < 2 ^ 64 := by
  have pj := pow_pos j
  have bx := bl_pos hx0
  have by' := bl_pos hy0
  have e1 : x * 2 ^ i * 2 ^ 63 = x * 2 ^ (63 + i - j) * 2 ^ j := by
    rw [Nat.mul_assoc, Nat.mul_assoc, ← Nat.pow_add, ← Nat.pow_add]; congr 2; omega
  have e2 : x * 2 ^ i * 2 ^ 63 / (y * 2 ^ j) = x * 2 ^ (63 + i - j) / y := by rw [e1, Nat.mul_div_mul_right _ _ pj]
  have e3 : x * 2 ^ i * 2 ^ 63 % (y * 2 ^ j) = x * 2 ^ (63 + i - j) % y * 2 ^ j := by rw [e1, Nat.mul_mod_mul_right]
  have e4 : decide (x * 2 ^ i * 2 ^ 63 % (y * 2 ^ j) ≠ 0) = decide (x * 2 ^ (63 + i - j) % y ≠ 0) := by
    rw [decide_eq_decide, e3]
    constructor
    · intro g c
      rw [c, Nat.zero_mul] at g
      exact g rfl
    · intro g
      exact Nat.mul_ne_zero g (by omega)
  obtain ⟨r, hr, h1, h2⟩ := quo_mid x y (70 + bl y - bl x) (63 + i - j) 7 (by omega) (by omega)
  have lx : 2 ^ 52 ≤ x * 2 ^ i := by
    calc 2 ^ 52 = 2 ^ (bl x - 1) * 2 ^ i := by rw [← Nat.pow_add]; congr 1; omega
      _ ≤ _ := Nat.mul_le_mul_right _ (bl_le hx0)
  have ux : x * 2 ^ i < 2 ^ 53 := by
    calc x * 2 ^ i < 2 ^ bl x * 2 ^ i := Nat.mul_lt_mul_of_pos_right (bl_lt x) (pow_pos i)
      _ = 2 ^ 53 := by rw [← Nat.pow_add, hx]
  have ly : 2 ^ 52 ≤ y * 2 ^ j := by
    calc 2 ^ 52 = 2 ^ (bl y - 1) * 2 ^ j := by rw [← Nat.pow_add]; congr 1; omega
      _ ≤ _ := Nat.mul_le_mul_right _ (bl_le hy0)
  have uy : y * 2 ^ j < 2 ^ 53 := by
    calc y * 2 ^ j < 2 ^ bl y * 2 ^ j := Nat.mul_lt_mul_of_pos_right (bl_lt y) pj
      _ = 2 ^ 53 := by rw [← Nat.pow_add, hy]
  have lq : 2 ^ 53 ≤ x * 2 ^ i * 2 ^ 63 / (y * 2 ^ j) := by
    rw [Nat.le_div_iff_mul_le (by omega)]
    calc 2 ^ 53 * (y * 2 ^ j) ≤ 2 ^ 53 * 2 ^ 53 := Nat.mul_le_mul_left _ (Nat.le_of_lt uy)
      _ ≤ 2 ^ 52 * 2 ^ 63 := by decide
      _ ≤ _ := Nat.mul_le_mul_right _ lx
  have uq : x * 2 ^ i * 2 ^ 63 / (y * 2 ^ j) < 2 ^ 64 := by
    rw [Nat.div_lt_iff_lt_mul (by omega)]
    calc x * 2 ^ i * 2 ^ 63 < 2 ^ 53 * 2 ^ 63 := Nat.mul_lt_mul_of_pos_right ux (by decide)
      _ = 2 ^ 64 * 2 ^ 52 := by decide
      _ ≤ _ := Nat.mul_le_mul_left _ ly
  refine ⟨?_, uq⟩
  unfold quoV
  rw [h1, e4, e2]
  rw [e2] at lq
  have := pat_sticky (x * 2 ^ (63 + i - j) / y) 8 r (e - i + j - 63) (e - ((70 + bl y - bl x : Nat) : Int) - 1) lq hr (by omega)
  rw [this]
  congr 1
  rw [decide_eq_decide]
  exact h2.symm
/-- Roots. -/
def IsRoot (s m : Nat) : Prop := s * s ≤ m ∧ m < (s + 1) * (s + 1)
theorem root_unique {s t m : Nat} (h : IsRoot s m) (g : IsRoot t m) : s = t := by
  rcases Nat.lt_trichotomy s t with c | c | c
  · have := Nat.mul_le_mul c c
    have h1 := h.2; have g1 := g.1
    simp only [Nat.succ_eq_add_one] at this
    omega
  · exact c
  · have := Nat.mul_le_mul c c
    have h1 := h.1; have g1 := g.2
    simp only [Nat.succ_eq_add_one] at this
    omega
def rootL (m : Nat) : Nat → Nat → Nat
  | 0, r => r
  | i + 1, r => if (r + 2 ^ i) * (r + 2 ^ i) ≤ m then rootL m i (r + 2 ^ i) else rootL m i r
theorem rootL_is (m : Nat) : ∀ (i r : Nat), r * r ≤ m → m < (r + 2 ^ i) * (r + 2 ^ i) → IsRoot (rootL m i r) m
  | 0, r, h1, h2 => ⟨h1, by rw [Nat.pow_zero] at h2; exact h2⟩
  | i + 1, r, h1, h2 => by
    unfold rootL
    split
    · rename_i g
      refine rootL_is m i _ g ?_
      rw [Nat.add_assoc, ← Nat.two_mul, Nat.mul_comm 2, ← Nat.pow_succ]
      exact h2
    · rename_i g
      exact rootL_is m i r h1 (by omega)
def isq (m : Nat) : Nat := rootL m 67 0
theorem isq_is {m : Nat} (h : m < 2 ^ 134) : IsRoot (isq m) m := rootL_is m 67 0 (by omega) (by rw [Nat.zero_add, ← Nat.pow_add]; exact h)
/-- The root of a float that is above 0 and no infinity. -/
def sqk (b : Nat) (e : Int) : Nat := if (e - ((130 - b : Nat) : Int)) % 2 = 0 then 130 - b else 131 - b
def sqm (a : Nat) : Nat := sm a * 2 ^ sqk (bl (sm a)) (se a)
def sqrtF (a : Nat) : Nat := pat (2 * isq (sqm a) + (if isq (sqm a) * isq (sqm a) ≠ sqm a then 1 else 0)) ((se a - (sqk (bl (sm a)) (se a) : Int)) / 2 - 1) false
def sqrtV (a : Nat) : Nat := if nan a then NaN else if zer a then a else if ng a then NaN else if inf a then a else sqrtF a
theorem root_scale {s m : Nat} (t : Nat) (h : IsRoot s m) : ∃ u, u < 2 ^ t ∧ IsRoot (s * 2 ^ t + u) (m * 2 ^ (2 * t)) ∧ ((s * 2 ^ t + u) * (s * 2 ^ t + u) = m * 2 ^ (2 * t) → u = 0 → s * s = m) ∧ (s * s = m → u = 0 ∧ (s * 2 ^ t + u) * (s * 2 ^ t + u) = m * 2 ^ (2 * t)) := by
  have e1 : 2 ^ (2 * t) = 2 ^ t * 2 ^ t := by rw [Nat.two_mul, Nat.pow_add]
  rw [e1]
  have pt := pow_pos t
  obtain ⟨T, hT⟩ : ∃ T, 2 ^ t = T := ⟨_, rfl⟩
  rw [hT] at pt ⊢
  clear e1 hT
  -- some root of the greater number
  have ex : ∀ M : Nat, ∃ r, IsRoot r M := by
    intro M
    have hb : M < 2 ^ bl M * 2 ^ bl M := Nat.lt_of_lt_of_le (bl_lt M) (Nat.le_mul_of_pos_left _ (pow_pos _))
    exact ⟨rootL M (bl M) 0, rootL_is M (bl M) 0 (by omega) (by simpa using hb)⟩
  obtain ⟨r, hr⟩ := ex (m * (T * T))
  have lo : s * T ≤ r := by
    rcases Nat.lt_or_ge r (s * T) with c | c
    · exfalso
      have h1 := Nat.mul_le_mul c c
      simp only [Nat.succ_eq_add_one] at h1
      have h2 : s * T * (s * T) ≤ m * (T * T) := by
        rw [show s * T * (s * T) = s * s * (T * T) by simp only [Nat.mul_assoc, Nat.mul_left_comm, Nat.mul_comm]]
        exact Nat.mul_le_mul_right _ h.1
      have h3 := hr.2
      omega
    · exact c
  have hi : r < s * T + T := by
    rcases Nat.lt_or_ge r (s * T + T) with c | c
    · exact c
    · exfalso
      have h1 := Nat.mul_le_mul c c
      have h2 : m * (T * T) < (s * T + T) * (s * T + T) := by
        rw [show s * T + T = (s + 1) * T by rw [Nat.add_mul, Nat.one_mul], show (s + 1) * T * ((s + 1) * T) = (s + 1) * (s + 1) * (T * T) by simp only [Nat.mul_assoc, Nat.mul_left_comm, Nat.mul_comm]]
        exact Nat.mul_lt_mul_of_pos_right h.2 (Nat.mul_pos pt pt)
      have h3 := hr.1
      omega
  refine ⟨r - s * T, by omega, by rw [show s * T + (r - s * T) = r by omega]; exact hr, ?_, ?_⟩
  · intro h1 h2
    rw [h2, Nat.add_zero, show s * T * (s * T) = s * s * (T * T) by simp only [Nat.mul_assoc, Nat.mul_left_comm, Nat.mul_comm]] at h1
    exact Nat.eq_of_mul_eq_mul_right (Nat.mul_pos pt pt) h1
  · intro h1
    have h2 : IsRoot (s * T) (m * (T * T)) := by
      have e2 : s * T * (s * T) = m * (T * T) := by
        rw [show s * T * (s * T) = s * s * (T * T) by simp only [Nat.mul_assoc, Nat.mul_left_comm, Nat.mul_comm], h1]
      exact ⟨Nat.le_of_eq e2, by rw [← e2]; exact Nat.mul_lt_mul_of_lt_of_le (Nat.lt_succ_self _) (Nat.le_succ _) (Nat.succ_pos _)⟩
    have h3 := root_unique hr h2
    subst h3
    refine ⟨Nat.sub_self _, ?_⟩
    rw [Nat.sub_self, Nat.add_zero, show s * T * (s * T) = s * s * (T * T) by simp only [Nat.mul_assoc, Nat.mul_left_comm, Nat.mul_comm], h1]
/-- The program's root: x is the digits, moved up to 53, once more where the exponent is odd, and by 62. -/
theorem sqrt_prog {a : Nat} (i δ s : Nat) (h0 : sm a ≠ 0) (hi : bl (sm a) + i = 53) (hd : δ = 0 ∨ δ = 1) (he : (se a - i - δ) % 2 = 0) (hs : IsRoot s (sm a * 2 ^ (i + δ + 62))) :
    pat s ((se a - i - δ - 62) / 2) (decide (s * s ≠ sm a * 2 ^ (i + δ + 62))) = sqrtF a := by
  have hb := bl_pos h0
  obtain ⟨t, ht⟩ : ∃ t, t = 8 - δ := ⟨_, rfl⟩
  have ek : sqk (bl (sm a)) (se a) = i + δ + 62 + 2 * t := by
    unfold sqk
    split <;> omega
  have em : sqm a = sm a * 2 ^ (i + δ + 62) * 2 ^ (2 * t) := by
    unfold sqm; rw [ek, Nat.pow_add, ← Nat.mul_assoc]
  have um : sm a * 2 ^ (i + δ + 62) < 2 ^ 116 := by
    calc sm a * 2 ^ (i + δ + 62) < 2 ^ bl (sm a) * 2 ^ (i + δ + 62) := Nat.mul_lt_mul_of_pos_right (bl_lt _) (pow_pos _)
      _ = 2 ^ (bl (sm a) + (i + δ + 62)) := (Nat.pow_add _ _ _).symm
      _ ≤ 2 ^ 116 := pow_le (by omega)
  have lm : 2 ^ 114 ≤ sm a * 2 ^ (i + δ + 62) := by
    calc 2 ^ 114 ≤ 2 ^ (bl (sm a) - 1 + (i + δ + 62)) := pow_le (by omega)
      _ = 2 ^ (bl (sm a) - 1) * 2 ^ (i + δ + 62) := Nat.pow_add _ _ _
      _ ≤ _ := Nat.mul_le_mul_right _ (bl_le h0)
  obtain ⟨V, hV⟩ : ∃ V, sm a * 2 ^ (i + δ + 62) = V := ⟨_, rfl⟩
  rw [hV] at hs em um lm ⊢
  have us : sqm a < 2 ^ 134 := by
    rw [em]
    calc V * 2 ^ (2 * t) < 2 ^ 116 * 2 ^ (2 * t) := Nat.mul_lt_mul_of_pos_right um (pow_pos _)
      _ = 2 ^ (116 + 2 * t) := (Nat.pow_add _ _ _).symm
      _ ≤ 2 ^ 134 := pow_le (by omega)
  have ls : 2 ^ 53 ≤ s := by
    rcases Nat.lt_or_ge s (2 ^ 53) with c | c
    · exfalso
      have h1 := hs.2
      have h2 : (s + 1) * (s + 1) ≤ 2 ^ 53 * 2 ^ 53 := Nat.mul_le_mul c c
      have h3 : (2 : Nat) ^ 53 * 2 ^ 53 ≤ 2 ^ 114 := by decide
      omega
    · exact c
  obtain ⟨u, hu, hur, hu1, hu2⟩ := root_scale t hs
  rw [← em] at hur hu1 hu2
  have er := root_unique (isq_is us) hur
  unfold sqrtF
  rw [er, ek]
  have pt := pow_pos t
  have e3 : 2 * (s * 2 ^ t + u) + (if (s * 2 ^ t + u) * (s * 2 ^ t + u) ≠ sqm a then 1 else 0) = s * 2 ^ (t + 1) + (2 * u + (if (s * 2 ^ t + u) * (s * 2 ^ t + u) ≠ sqm a then 1 else 0)) := by
    rw [Nat.mul_add, Nat.pow_succ, ← Nat.mul_assoc, Nat.mul_comm 2 s, Nat.mul_assoc s, Nat.mul_comm 2, Nat.add_assoc]
  rw [e3, pat_sticky s (t + 1) _ ((se a - i - δ - 62) / 2) _ ls (by rw [Nat.pow_succ]; split <;> omega) (by omega)]
  refine congrArg (pat s ((se a - i - δ - 62) / 2)) (decide_eq_decide.2 ?_)
  constructor
  · intro c g
    apply c
    by_cases g2 : (s * 2 ^ t + u) * (s * 2 ^ t + u) ≠ sqm a
    · rw [if_pos g2] at g; omega
    · rw [if_neg g2] at g
      exact hu1 (Decidable.not_not.1 g2) (by omega)
  · intro c g
    obtain ⟨k1, k2⟩ := hu2 g
    rw [if_neg (fun g2 => g2 k2), k1] at c
    omega
end Go.Proofs.Ytecgkhijiogggaa.SF
