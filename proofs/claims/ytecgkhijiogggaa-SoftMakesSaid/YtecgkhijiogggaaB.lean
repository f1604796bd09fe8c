/- split, right, length. -/
import Derived.Test.YtecgkhijiogggaaA
import Derived.BigQuiet
import Derived.IntWalk
import Derived.Deep.RegionWith
namespace Go.Proofs.Ytecgkhijiogggaa
set_option linter.unusedVariables false
set_option linter.unusedSimpArgs false
open Go.RowKit Go.Shelf SF

theorem ex_bits {a : Nat} (h : W a) : bits .and .u64 ((a : Int) / 4503599627370496) 2047 = ((ex a : Nat) : Int) := by
  unfold W at h
  have e : ((a : Int) / 4503599627370496) = ((a / 4503599627370496 : Nat) : Int) := by omega
  rw [e, band_2047 (W_of (by omega))]
  congr 1
  unfold ex mag
  omega
theorem ex_lt (a : Nat) : ex a < 2048 := by unfold ex mag; omega
def num (n : Bool) (m : Nat) (e : Int) : Value := .agg #[.bool n, .int .u64 (m : Int), .int .i64 e]
theorem split_c (a : Nat) (ha : W a) (w : World) : Calls Try.prog 67 #[.int .u64 a] w fun e w' => e = .returned (num (ng a) (sm a) (se a)) ∧ Below w.heap.size w w' := by
  have N := fun w => isneg_c a ha w
  have h1 := ex_bits ha
  have h2 := band_frac ha
  have xl := ex_lt a
  have fl : fr a < 4503599627370496 := by unfold fr; omega
  have h3 := bor_hidden fl
  have em : sm a = if ex a = 0 then fr a else fr a + 4503599627370496 := rfl
  have ee : se a = if ex a = 0 then -1074 else (ex a : Int) - 1075 := rfl
  obtain ⟨X, hX⟩ : ∃ X, ex a = X := ⟨_, rfl⟩
  obtain ⟨F, hF⟩ : ∃ F, fr a = F := ⟨_, rfl⟩
  obtain ⟨b, hb⟩ : ∃ b, ng a = b := ⟨_, rfl⟩
  obtain ⟨M, hM⟩ : ∃ M, F + 4503599627370496 = M := ⟨_, rfl⟩
  rw [hX] at h1 xl em ee
  rw [hF] at h2 h3 fl em
  rw [hM] at h3 em
  rw [hb] at N ⊢
  have HN := Lib.hid N
  have EM := Lib.hid em
  have EE := Lib.hid ee
  clear N hX hF hb hM em ee
  by_cases hx : X = 0
  · subst hx
    go_enter Try.func67, Try.ntmps67
    go_wp2_with (go_at_call 61; refine (HN.out _).mono ?_; rintro e w' ⟨rfl, rfl⟩)
    have e1 : sm a = F := EM.out
    have e2 : se a = -1074 := EE.out
    rw [e1, e2]
    exact bodyPost_ret (v := num b F (-1074)) (by simp [num, results, Try.results67, go_sem]) rfl ⟨rfl, ((Below.refl _ _).alloc (Nat.le_refl _) _).alloc (by simp) _⟩
  · have e1 : sm a = M := by have := EM.out; rwa [if_neg hx] at this
    have e2 : se a = (X : Int) - 1075 := by have := EE.out; rwa [if_neg hx] at this
    have hp : (0 : Int) < X := by omega
    rw [e1, e2]
    clear e1 e2 EM EE
    go_enter Try.func67, Try.ntmps67
    go_wp2_with (go_at_call 61; refine (HN.out _).mono ?_; rintro e w' ⟨rfl, rfl⟩)
    refine bodyPost_ret (v := num b M ((X : Int) - 1075)) (by simp [num, results, Try.results67, go_sem]; try omega) rfl ⟨rfl, ?_⟩
    exact ((Below.refl _ _).alloc (Nat.le_refl _) _).alloc (by simp) _
theorem bor_ne {a b : Nat} (h1 : W a) (h2 : W b) : (bits .or .u64 (a : Int) (b : Int) != 0) = decide (a ≠ 0 ∨ b ≠ 0) := by
  rw [u64_or_nat a b h1 h2, Bool.eq_iff_iff]
  simp only [bne_iff_ne, decide_eq_true_eq]
  have : a ||| b = 0 ↔ a = 0 ∧ b = 0 := Nat.or_eq_zero_iff
  omega
theorem bor_eq {a b : Nat} (h1 : W a) (h2 : W b) : (bits .or .u64 (a : Int) (b : Int) == 0) = decide (a = 0 ∧ b = 0) := by
  rw [u64_or_nat a b h1 h2, Bool.eq_iff_iff]
  simp only [beq_iff_eq, decide_eq_true_eq]
  have : a ||| b = 0 ↔ a = 0 ∧ b = 0 := Nat.or_eq_zero_iff
  omega
theorem wrap_shl (x n : Nat) (h : n ≤ 64) : IntKind.u64.wrap ((x : Int) * 2 ^ (64 - n)) = ((x % 2 ^ n * 2 ^ (64 - n) : Nat) : Int) := by
  have e : ((x : Int) * 2 ^ (64 - n)) = ((x * 2 ^ (64 - n) : Nat) : Int) := by rw [Int.natCast_mul, Int.natCast_pow]; rfl
  rw [IntKind.wrap_u64, e, ← shl_mod x n h]
  omega
def RightV (hi lo n : Nat) : Value := .tuple #[.int .u64 (rH hi lo n : Int), .int .u64 (rL hi lo n : Int), .bool (rT hi lo n)]
theorem right_ret {hi lo n : Nat} {a b : Nat} {t : Bool} (h1 : rH hi lo n = a) (h2 : rL hi lo n = b) (h3 : rT hi lo n = t) : Ending.returned (.tuple #[.int .u64 (a : Int), .int .u64 (b : Int), .bool t]) = .returned (RightV hi lo n) := by
  unfold RightV; rw [h1, h2, h3]
set_option maxRecDepth 100000 in
theorem right_mid (hi lo n : Nat) (hh : W hi) (hl : W lo) (h0 : 0 < n) (h1 : n < 64) (w : World) : Calls Try.prog 84 #[.int .u64 hi, .int .u64 lo, .int .i64 n] w fun e w' => e = .returned (RightV hi lo n) ∧ Below w.heap.size w w' := by
  obtain ⟨q1, q2, q3⟩ := rights_small (hi := hi) h0 (by omega) hl
  obtain ⟨_, r2, _⟩ := right_small (hi := hi) (n := n) (by omega) hl
  have w1 := wrap_shl hi n (by omega)
  have w2 := wrap_shl lo n (by omega)
  have pn := SF.pow_pos n
  have pk := SF.pow_pos (64 - n)
  have d1 : ((hi : Int) / 2 ^ n) = ((hi / 2 ^ n : Nat) : Int) := by rw [Int.natCast_ediv, Int.natCast_pow]; rfl
  have d2 : ((lo : Int) / 2 ^ n) = ((lo / 2 ^ n : Nat) : Int) := by rw [Int.natCast_ediv, Int.natCast_pow]; rfl
  have jn : bits .or .u64 ((lo / 2 ^ n : Nat) : Int) ((hi % 2 ^ n * 2 ^ (64 - n) : Nat) : Int) = ((hi % 2 ^ n * 2 ^ (64 - n) + lo / 2 ^ n : Nat) : Int) := by
    have hlo : lo / 2 ^ n < 2 ^ (64 - n) := by
      rw [Nat.div_lt_iff_lt_mul pn, Nat.mul_comm, ← P64n (n := n) (by omega)]; exact hl
    rw [u64_or_nat _ _ (Nat.lt_of_le_of_lt (Nat.le_add_left _ _) r2) (Nat.lt_of_le_of_lt (Nat.le_add_right _ _) r2), Nat.or_comm, nat_join (64 - n) _ _ (Nat.mul_mod_left _ _) hlo]
  have tz : (((lo % 2 ^ n * 2 ^ (64 - n) : Nat) : Int) != 0) = decide (lo % 2 ^ n ≠ 0) := by
    rw [Bool.eq_iff_iff]
    simp only [bne_iff_ne, decide_eq_true_eq]
    have := @Nat.mul_eq_zero (lo % 2 ^ n) (2 ^ (64 - n))
    constructor
    · intro h g; rw [g, Nat.zero_mul] at h; exact h rfl
    · intro h g
      have g2 : lo % 2 ^ n * 2 ^ (64 - n) = 0 := by omega
      rcases Nat.mul_eq_zero.1 g2 with g3 | g3
      · exact h g3
      · omega
  have e1 : IntKind.i64.wrap (64 - (n : Int)) = ((64 - n : Nat) : Int) := by rw [IntKind.wrap_i64]; omega
  have e0 : ((n : Int) == 0) = false := by simp; omega
  have H1 := Lib.hid q1
  have H2 := Lib.hid q2
  have H3 := Lib.hid q3
  have D1 := Lib.hid d1
  have D2 := Lib.hid d2
  have J := Lib.hid jn
  have T := Lib.hid tz
  have W1 := Lib.hid w1
  have W2 := Lib.hid w2
  have hh0 : (0 : Int) ≤ 64 - (n : Int) := by omega
  clear q1 q2 q3 r2 w1 w2 d1 d2 jn tz pn pk hh hl
  go_enter Try.func84, Try.ntmps84
  go_wp2
  go_quiet (fail)
  go_wp2
  go_ret3
  refine ⟨?_, below_drewN (Below.refl _ _) _⟩
  rw [D1.out, D2.out, W1.out, W2.out, J.out, T.out]
  exact right_ret H1.out H2.out H3.out
set_option maxRecDepth 100000 in
theorem right_64 (hi lo n k : Nat) (hn : n = 64 + k) (hh : W hi) (hl : W lo) (h1 : k < 64) (w : World) : Calls Try.prog 84 #[.int .u64 hi, .int .u64 lo, .int .i64 n] w fun e w' => e = .returned (RightV hi lo n) ∧ Below w.heap.size w w' := by
  obtain ⟨q1, q2, q3⟩ := rights_big (k := k) hh hl
  rw [← hn] at q1 q2 q3
  have w1 := wrap_shl hi k (by omega)
  have pn := SF.pow_pos k
  have pk := SF.pow_pos (64 - k)
  have d1 : ((hi : Int) / 2 ^ k) = ((hi / 2 ^ k : Nat) : Int) := by rw [Int.natCast_ediv, Int.natCast_pow]; rfl
  have tz : (((hi % 2 ^ k * 2 ^ (64 - k) : Nat) : Int) != 0) = decide (hi % 2 ^ k ≠ 0) := by
    rw [Bool.eq_iff_iff]
    simp only [bne_iff_ne, decide_eq_true_eq]
    constructor
    · intro h g; rw [g, Nat.zero_mul] at h; exact h rfl
    · intro h g
      have g2 : hi % 2 ^ k * 2 ^ (64 - k) = 0 := by omega
      rcases Nat.mul_eq_zero.1 g2 with g3 | g3
      · exact h g3
      · omega
  have e1 : IntKind.i64.wrap ((n : Int) - 64) = (k : Int) := by rw [IntKind.wrap_i64]; omega
  have e2 : IntKind.i64.wrap (128 - (n : Int)) = ((64 - k : Nat) : Int) := by rw [IntKind.wrap_i64]; omega
  have hn1 : ¬ (128 : Int) ≤ n := by omega
  have hn2 : (64 : Int) ≤ n := by omega
  have H1 := Lib.hid q1
  have H2 := Lib.hid q2
  have D1 := Lib.hid d1
  have W1 := Lib.hid w1
  have hk0 : (0 : Int) ≤ (k : Int) := by omega
  clear q1 q2 w1 d1 pn pk hh hl hn
  by_cases hz : lo = 0
  · subst hz
    by_cases h64 : k = 0
    · subst h64
      have q3' : Hid (rT hi 0 n = false) := Lib.hid (by rw [q3]; simp [Nat.mod_one])
      have g64 : ¬ (64 : Int) < (n : Int) := by rw [IntKind.wrap_i64] at e1; omega
      have z0 : (IntKind.u64.wrap ((hi : Int) * 18446744073709551616) != 0) = false := by rw [IntKind.wrap_u64, Int.mul_emod_left]; rfl
      have D2 : Hid (hi / 2 ^ 0 = hi) := Lib.hid (by simp)
      clear q3 tz
      go_enter Try.func84, Try.ntmps84
      go_wp2
      go_quiet (fail)
      go_wp2
      go_ret3
      refine ⟨?_, below_drewN (Below.refl _ _) _⟩
      exact right_ret H1.out (H2.out.trans D2.out) q3'.out
    · have g64 : (64 : Int) < (n : Int) := by rw [IntKind.wrap_i64] at e1; omega
      by_cases hr : hi % 2 ^ k = 0
      · have q3' : Hid (rT hi 0 n = false) := Lib.hid (by rw [q3, decide_eq_false]; rintro (h | h); exact h rfl; exact h hr)
        have z0 : (IntKind.u64.wrap ((hi : Int) * 2 ^ (64 - k)) != 0) = false := by rw [W1.out, tz, decide_eq_false]; exact fun h => h hr
        clear q3 tz hr
        go_enter Try.func84, Try.ntmps84
        go_wp2
        go_quiet (fail)
        go_wp2
        go_ret3
        refine ⟨?_, below_drewN (Below.refl _ _) _⟩
        rw [D1.out]
        exact right_ret H1.out H2.out q3'.out
      · have q3' : Hid (rT hi 0 n = true) := Lib.hid (by rw [q3, decide_eq_true (Or.inr hr)])
        have z0 : (IntKind.u64.wrap ((hi : Int) * 2 ^ (64 - k)) != 0) = true := by rw [W1.out, tz, decide_eq_true hr]
        clear q3 tz hr
        go_enter Try.func84, Try.ntmps84
        go_wp2
        go_quiet (fail)
        go_wp2
        go_ret3
        refine ⟨?_, below_drewN (Below.refl _ _) _⟩
        rw [D1.out]
        exact right_ret H1.out H2.out q3'.out
  · have q3' : Hid (rT hi lo n = true) := Lib.hid (by rw [q3, decide_eq_true (Or.inl hz)])
    have z1 : ((lo : Int) != 0) = true := by simp; omega
    clear q3 tz
    go_enter Try.func84, Try.ntmps84
    go_wp2
    go_quiet (fail)
    go_wp2
    go_ret3
    refine ⟨?_, below_drewN (Below.refl _ _) _⟩
    rw [D1.out]
    exact right_ret H1.out H2.out q3'.out
theorem right_end (hi lo n : Nat) (hh : W hi) (hl : W lo) (h : n = 0 ∨ 128 ≤ n) (w : World) : Calls Try.prog 84 #[.int .u64 hi, .int .u64 lo, .int .i64 n] w fun e w' => e = .returned (RightV hi lo n) ∧ Below w.heap.size w w' := by
  rcases h with rfl | h
  · obtain ⟨q1, q2, q3⟩ := rights_zero hh hl
    have H1 := Lib.hid q1
    have H2 := Lib.hid q2
    have H3 := Lib.hid q3
    clear q1 q2 q3 hh hl
    go_enter Try.func84, Try.ntmps84
    go_wp2
    go_ret3
    exact ⟨right_ret H1.out H2.out H3.out, Below.refl _ _⟩
  · obtain ⟨q1, q2, q3⟩ := rights_huge h hh hl
    have hb := bor_ne hh hl
    rw [← q3] at hb
    have H1 := Lib.hid q1
    have H2 := Lib.hid q2
    have h1 : (128 : Int) ≤ n := by omega
    have HB := Lib.hid hb
    clear q1 q2 q3 hh hl hb
    go_enter Try.func84, Try.ntmps84
    go_wp2
    go_ret3
    exact ⟨right_ret H1.out H2.out HB.out.symm, Below.refl _ _⟩
/-- Two words moved right, and whether a digit was lost. -/
theorem right_c (hi lo n : Nat) (hh : W hi) (hl : W lo) (w : World) : Calls Try.prog 84 #[.int .u64 hi, .int .u64 lo, .int .i64 n] w fun e w' => e = .returned (RightV hi lo n) ∧ Below w.heap.size w w' := by
  by_cases h0 : n = 0 ∨ 128 ≤ n
  · exact right_end hi lo n hh hl h0 w
  · by_cases h1 : n < 64
    · exact right_mid hi lo n hh hl (by omega) h1 w
    · exact right_64 hi lo n (n - 64) (by omega) hh hl (by omega) w
end Go.Proofs.Ytecgkhijiogggaa
