/- pack. -/
import Derived.Test.YtecgkhijiogggaaC
namespace Go.Proofs.Ytecgkhijiogggaa
set_option linter.unusedVariables false
set_option linter.unusedSimpArgs false
open Go.RowKit Go.Shelf SF

theorem double_c (w : World) : Calls Try.prog 108 #[] w fun e w' => e = .returned (fmt 53 (-1074) 971) ∧ Below w.heap.size w w' := by
  go_enter Try.func108, Try.ntmps108
  go_wp2
  exact bodyPost_ret (v := fmt 53 (-1074) 971) (by simp [fmt, results, Try.results108, go_sem]) rfl ⟨rfl, (Below.refl _ _).alloc (Nat.le_refl _) _⟩
theorem sg_lt {n : Bool} {p : Nat} (h : p < 9223372036854775808) : W (sg n p) := W_sg h
set_option maxRecDepth 100000 in
set_option maxHeartbeats 2000000 in
theorem pack_c (neg : Bool) (hi lo : Nat) (e : Int) (rest : Bool) (hh : W hi) (hl : W lo) (w : World) : Calls Try.prog 69 #[.bool neg, .int .u64 hi, .int .u64 lo, .int .i64 e, .bool rest] w fun e' w' => e' = .returned (.int .u64 ((sg neg (pat (two hi lo) e rest) : Nat) : Int)) ∧ Below w.heap.size w w' := by
  have bz := bor_eq hh hl
  have tz := two_zero (hi := hi) (lo := lo)
  by_cases h0 : hi = 0 ∧ lo = 0
  · have e0 : two hi lo = 0 := tz.2 h0
    rw [e0, pat_zero]
    rw [decide_eq_true h0] at bz
    have SS := Lib.hid (fun w => sign_c 0 neg (by decide) w)
    obtain ⟨r, hr⟩ : ∃ r, sg neg 0 = r := ⟨_, rfl⟩
    have S0 : Hid (∀ w, Calls Try.prog 65 #[.int .u64 0, .bool neg] w fun e w' => e = .returned (.int .u64 (r : Int)) ∧ w = w') := Lib.hid (by rw [← hr]; exact SS.out)
    rw [hr]
    clear SS tz e0 hr hh hl h0
    go_enter Try.func69, Try.ntmps69
    go_wp2_with (go_at_call 65; (with_reducible refine (S0.out _).mono ?_); rintro e w' ⟨rfl, rfl⟩)
    go_ret
    exact ⟨rfl, Below.refl _ _⟩
  · have n0 : two hi lo ≠ 0 := fun g => h0 (tz.1 g)
    rw [decide_eq_false h0] at bz
    have hb : bl (two hi lo) ≤ 128 := bl_le_of_lt (k := 128) (by rw [show (2 : Nat) ^ 128 = 340282366920938463463374607431768211456 by decide]; exact two_lt hh hl)
    have pc := pat_clamp (two hi lo) e rest 100000 (by decide) (by omega)
    obtain ⟨c, hc⟩ : ∃ c, min (max e (-100000)) 100000 = c := ⟨_, rfl⟩
    rw [hc] at pc
    rw [← pc]
    have cb : -100000 ≤ c ∧ c ≤ 100000 := by omega
    have R := fun w => round_c 53 (-1074) 971 hi lo c rest hh hl (by omega) (.inl rfl) (by decide) w
    unfold RoundV at R
    have ov := patG_over (p := 53) (low := -1074) (high := 971) (m := two hi lo) (e := c) (rest := rest) (by decide) n0 (by decide)
    have un := patG_under (p := 53) (low := -1074) (high := 971) (m := two hi lo) (e := c) (rest := rest) (by decide) n0 (by decide)
    have vl : rv 53 (-1074) (two hi lo) c rest < 9007199254740992 := by
      have := vz_le 53 (-1074) (two hi lo) c rest
      unfold rv
      by_cases g : vz 53 (-1074) (two hi lo) c rest = 2 ^ 53
      · rw [if_pos g]; decide
      · rw [if_neg g]
        have e53 : (2 : Nat) ^ 53 = 9007199254740992 := by decide
        omega
    have xl : -1074 ≤ rx 53 (-1074) (two hi lo) c rest := by
      have := qz_ge 53 (-1074) (bl (two hi lo)) c
      unfold rx; split <;> omega
    have pe : pat (two hi lo) c rest = patG 53 (-1074) 971 (two hi lo) c rest := rfl
    obtain ⟨V, hV⟩ : ∃ v, rv 53 (-1074) (two hi lo) c rest = v := ⟨_, rfl⟩
    obtain ⟨X, hX⟩ : ∃ v, rx 53 (-1074) (two hi lo) c rest = v := ⟨_, rfl⟩
    obtain ⟨P, hP⟩ : ∃ v, patG 53 (-1074) 971 (two hi lo) c rest = v := ⟨_, rfl⟩
    rw [hV, hX] at R
    rw [hV] at un vl
    rw [hX] at ov un xl
    rw [hP] at ov un pe
    have hPle := hP
    rw [pe]
    have DB := Lib.hid double_c
    have hc' := hc
    have Pl : P ≤ 9218868437227405312 := by rw [← hP]; exact patG_le 53 (-1074) 971 _ _ _
    clear pe hV hX hP hPle pc hb n0 tz hh hl h0 hc
    by_cases hx : 971 < X
    · have hp : P = 9218868437227405312 := ov hx
      have SS := fun w => sign_c P neg (by omega) w
      rw [hp] at SS ⊢
      obtain ⟨r, hr⟩ : ∃ r, sg neg 9218868437227405312 = r := ⟨_, rfl⟩
      rw [hr] at SS ⊢
      have S0 : Hid (∀ w, Calls Try.prog 65 #[.int .u64 9218868437227405312, .bool neg] w fun e w' => e = .returned (.int .u64 (r : Int)) ∧ w = w') := Lib.hid SS
      have HR := Lib.hid R
      clear SS R ov un hp hr vl Pl
      go_enter Try.func69, Try.ntmps69
      go_wp2_with (first
        | (go_at_call 108; (with_reducible refine (DB.out _).mono ?_); rintro e1 w1 ⟨rfl, hb1⟩)
        | (go_at_call 97; (with_reducible refine (HR.out _).mono ?_); rintro e2 w2 ⟨rfl, hb2⟩)
        | (go_at_call 65; (with_reducible refine (S0.out _).mono ?_); rintro e3 w3 ⟨rfl, rfl⟩))
      go_ret
      exact ⟨rfl, below_then hb1 hb1.size hb2⟩
    · have hp := un (by omega)
      rw [show (2 : Nat) ^ (53 - 1) = 4503599627370496 by decide] at hp
      clear ov un
      by_cases hv : V < 4503599627370496
      · rw [if_pos hv] at hp
        subst hp
        have SS := fun w => sign_c P neg (by omega) w
        obtain ⟨r, hr⟩ : ∃ r, sg neg P = r := ⟨_, rfl⟩
        rw [hr] at SS ⊢
        obtain ⟨z, hz⟩ : ∃ z : Int, (P : Int) = z := ⟨_, rfl⟩
        rw [hz] at SS R
        have S0 := Lib.hid SS
        have HR := Lib.hid R
        have hvi : z < 4503599627370496 := by omega
        clear SS R hr Pl hv vl hz
        go_enter Try.func69, Try.ntmps69
        go_wp2_with (first
          | (go_at_call 108; (with_reducible refine (DB.out _).mono ?_); rintro e1 w1 ⟨rfl, hb1⟩)
          | (go_at_call 97; (with_reducible refine (HR.out _).mono ?_); rintro e2 w2 ⟨rfl, hb2⟩)
          | (go_at_call 65; (with_reducible refine (S0.out _).mono ?_); rintro e3 w3 ⟨rfl, rfl⟩))
        go_ret
        exact ⟨rfl, below_then hb1 hb1.size hb2⟩
      · rw [if_neg hv] at hp
        have SS := fun w => sign_c P neg (by omega) w
        obtain ⟨r, hr⟩ : ∃ r, sg neg P = r := ⟨_, rfl⟩
        rw [hr] at SS ⊢
        obtain ⟨z, hz⟩ : ∃ z : Int, (V : Int) = z := ⟨_, rfl⟩
        rw [hz] at R
        have HR := Lib.hid R
        obtain ⟨Y, hY⟩ : ∃ Y : Nat, X + 1074 + 1 = (Y : Int) := ⟨(X + 1075).toNat, by omega⟩
        have eq : bits .or .u64 ((X + 1074 + 1) * 4503599627370496) (bits .and .u64 z 4503599627370495) = (P : Int) := by
          rw [← hz, band_frac (W_of (by omega)), hY, show ((Y : Int) * 4503599627370496) = ((Y * 4503599627370496 : Nat) : Int) by omega]
          rw [bor_at (s := 52) (by rw [show (2 : Nat) ^ 52 = 4503599627370496 by decide]; exact Nat.mul_mod_left _ _) (by rw [show (2 : Nat) ^ 52 = 4503599627370496 by decide]; unfold fr; omega) (W_of (by omega)) (W_of (by unfold fr; omega))]
          unfold fr
          rw [show (X - -1074 + 1).toNat = Y by omega] at hp
          omega
        obtain ⟨y, hy⟩ : ∃ y : Int, (P : Int) = y := ⟨_, rfl⟩
        rw [hy] at SS eq
        have S0 := Lib.hid SS
        have hvi : ¬ z < 4503599627370496 := by omega
        clear SS R hr hp Pl hv vl hz hY hy
        go_enter Try.func69, Try.ntmps69
        go_wp2_with (first
          | (go_at_call 108; (with_reducible refine (DB.out _).mono ?_); rintro e1 w1 ⟨rfl, hb1⟩)
          | (go_at_call 97; (with_reducible refine (HR.out _).mono ?_); rintro e2 w2 ⟨rfl, hb2⟩)
          | (go_at_call 65; (with_reducible refine (S0.out _).mono ?_); rintro e3 w3 ⟨rfl, rfl⟩))
        go_ret
        exact ⟨rfl, below_then hb1 hb1.size hb2⟩
end Go.Proofs.Ytecgkhijiogggaa
