/- Floats as exact numbers, rounded once: plainly (9). -/
import Derived.Test.YtecgkhijiogggaaS8
namespace Go.Proofs.Ytecgkhijiogggaa.SF
set_option linter.unusedVariables false
set_option linter.unusedSimpArgs false

theorem two_back {M : Nat} (h : M < 340282366920938463463374607431768211456) : two (M / 18446744073709551616) (M % 18446744073709551616) = M := by unfold two; omega
/-- Rounding by the words that 'right' gives. -/
theorem vz_right {p : Nat} {low : Int} {hi lo d : Nat} {e : Int} (rest : Bool) (hp : p ≤ 53) (hh : W hi) (hl : W lo) (hd : qz p low (bl (two hi lo)) e - e - 1 = (d : Int)) :
    vz p low (two hi lo) e rest = (if (rL hi lo d % 2 = 1 ∧ (rT hi lo d = true ∨ rest = true ∨ rL (rH hi lo d) (rL hi lo d) 1 % 2 = 1)) then rL (rH hi lo d) (rL hi lo d) 1 + 1 else rL (rH hi lo d) (rL hi lo d) 1) ∧ rL (rH hi lo d) (rL hi lo d) 1 < 2 ^ p := by
  have hM := two_lt hh hl
  obtain ⟨q, hq⟩ : ∃ q, qz p low (bl (two hi lo)) e = q := ⟨_, rfl⟩
  rw [hq] at hd
  have hlt : e < qz p low (bl (two hi lo)) e := by rw [hq]; omega
  have hge : (bl (two hi lo) : Int) + e - p ≤ q := by rw [← hq]; unfold qz; omega
  have c1 : (q - e).toNat = d + 1 := by omega
  rw [vz_neg hlt, hq, c1, rne_half]
  obtain ⟨M, hMe⟩ : ∃ M, two hi lo = M := ⟨_, rfl⟩
  have hMd : M / 2 ^ d < 340282366920938463463374607431768211456 := Nat.lt_of_le_of_lt (Nat.div_le_self _ _) (by rw [← hMe]; exact hM)
  have small : M / 2 ^ (d + 1) < 2 ^ p := by
    rw [Nat.div_lt_iff_lt_mul (pow_pos _), ← Nat.pow_add]
    have := bl_lt M
    rw [hMe] at hge
    exact Nat.lt_of_lt_of_le this (pow_le (by omega))
  have p64 : 2 ^ p ≤ 18446744073709551616 := Nat.le_trans (pow_le hp) (by decide)
  have eL : rL hi lo d = M / 2 ^ d % 18446744073709551616 := by unfold rL; rw [hMe]
  have eH : rH hi lo d = M / 2 ^ d / 18446744073709551616 := by unfold rH; rw [hMe]
  have eT : rT hi lo d = decide (M % 2 ^ d ≠ 0) := by unfold rT; rw [hMe]
  have e1 : rL (rH hi lo d) (rL hi lo d) 1 = M / 2 ^ (d + 1) := by
    have : rL (rH hi lo d) (rL hi lo d) 1 = two (rH hi lo d) (rL hi lo d) / 2 ^ 1 % 18446744073709551616 := rfl
    rw [this, eL, eH, two_back hMd, (mod_top M d).2, Nat.pow_one]
    apply Nat.mod_eq_of_lt
    have := (mod_top M d).2
    omega
  have e2 : rL hi lo d % 2 = M / 2 ^ d % 2 := by rw [eL]; omega
  rw [e1, e2, eT, hMe]
  refine ⟨?_, small⟩
  simp only [decide_eq_true_eq]
theorem vz_left {p : Nat} {low : Int} {hi lo s : Nat} {e : Int} (rest : Bool) (hp : p ≤ 53) (hh : W hi) (hl : W lo) (hs : e - qz p low (bl (two hi lo)) e = (s : Int)) :
    hi = 0 ∧ vz p low (two hi lo) e rest = lo * 2 ^ s ∧ lo * 2 ^ s < 2 ^ p := by
  have hge : (bl (two hi lo) : Int) + e - p ≤ qz p low (bl (two hi lo)) e := by unfold qz; omega
  have h0 : hi = 0 := by
    by_cases g : hi = 0
    · exact g
    · exfalso
      have h1 := bl_add (n := hi) (s := 64) (r := lo) g (by rw [show (2 : Nat) ^ 64 = 18446744073709551616 by decide]; exact hl)
      rw [show (2 : Nat) ^ 64 = 18446744073709551616 by decide] at h1
      have h2 : two hi lo = hi * 18446744073709551616 + lo := rfl
      rw [h2, h1] at hge
      rw [h2, h1] at hs
      omega
  subst h0
  have e0 : two 0 lo = lo := by unfold two; omega
  have hle : qz p low (bl (two 0 lo)) e ≤ e := by omega
  have h3 := vz_lt (rest := rest) hle
  have h4 : vz p low (two 0 lo) e rest = lo * 2 ^ s := by
    rw [vz_pos hle, e0]
    rw [e0] at hs
    rw [hs]; rfl
  rw [h4] at h3
  exact ⟨rfl, h4, h3⟩
end Go.Proofs.Ytecgkhijiogggaa.SF
