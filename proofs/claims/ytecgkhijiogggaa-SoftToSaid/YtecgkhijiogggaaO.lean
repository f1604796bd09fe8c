/- FromDouble, Widen, Narrow. -/
import Derived.Test.YtecgkhijiogggaaN
namespace Go.Proofs.Ytecgkhijiogggaa
set_option linter.unusedVariables false
set_option linter.unusedSimpArgs false
open Go.RowKit Go.Shelf SF
theorem packI_nat (n : Nat) (e : Int) : packI (n : Int) e = sg false (pat n e false) := by
  by_cases h : n = 0
  · subst h; unfold packI pat; rw [if_pos (by rfl), patG_zero, sg_false]
  · exact packI_pos e h
theorem neg_sum {x y : Nat} (h : x + y = 340282366920938463463374607431768211456) (hy : y < 340282366920938463463374607431768211456) : x ≠ 0 := by omega
set_option maxHeartbeats 1000000 in
theorem from_pos (lo hi l h R : Int) (hn : ¬ hi < 0) (HL : IntKind.u64.wrap lo = l) (HH : IntKind.u64.wrap hi = h) (HPK : Hid (PPack false h l 0 false R)) (w : World) : Calls Try.prog 29 #[.int .i64 lo, .int .i64 hi] w fun e w' => e = .returned (.int .u64 R) ∧ Below w.heap.size w w' := by
  go_enter Try.func29, Try.ntmps29
  go_wp2_with (first
    | (go_at_call 69; (with_reducible refine (HPK.out _).mono ?_); rintro e4 w4 ⟨rfl, hb4⟩))
  go_ret
  exact ⟨rfl, hb4⟩
set_option maxHeartbeats 1000000 in
theorem from_neg (lo hi l h l2 b h2 b2 R : Int) (hn : hi < 0) (HL : IntKind.u64.wrap lo = l) (HH : IntKind.u64.wrap hi = h)
    (C1 : ∀ w, (callFunc 86 #[.int .u64 0, .int .u64 l, .int .u64 0]).run Try.prog w = .ok (.value (.tuple #[.int .u64 l2, .int .u64 b])) w)
    (C2 : ∀ w, (callFunc 86 #[.int .u64 0, .int .u64 h, .int .u64 b]).run Try.prog w = .ok (.value (.tuple #[.int .u64 h2, .int .u64 b2])) w)
    (HPK : Hid (PPack true h2 l2 0 false R)) (w : World) : Calls Try.prog 29 #[.int .i64 lo, .int .i64 hi] w fun e w' => e = .returned (.int .u64 R) ∧ Below w.heap.size w w' := by
  go_enter Try.func29, Try.ntmps29
  go_wp2_with (first
    | (go_at_call 69; (with_reducible refine (HPK.out _).mono ?_); rintro e4 w4 ⟨rfl, hb4⟩))
  go_ret
  exact ⟨rfl, hb4⟩
/-- Two words with the sign turned. -/
theorem neg_two (H L : Nat) (hL : W L) (hH : W H) (h0 : two H L ≠ 0) : ∃ l2 b h2 : Nat, (18446744073709551616 - L) % 18446744073709551616 = l2 ∧ (if 0 < L then 1 else 0) = b ∧ (18446744073709551616 - H - b) % 18446744073709551616 = h2 ∧ W l2 ∧ W h2 ∧ b ≤ 1 ∧ two h2 l2 + two H L = 340282366920938463463374607431768211456 := by
  unfold two W at *
  by_cases c : 0 < L
  · refine ⟨18446744073709551616 - L, 1, 18446744073709551616 - H - 1, ?_, if_pos c, ?_, ?_⟩ <;> omega
  · have : L = 0 := by omega
    subst this
    refine ⟨0, 0, 18446744073709551616 - H, ?_, if_neg c, ?_, ?_⟩ <;> omega
theorem neg_walk (H L : Nat) (hL : W L) (hH : W H) (h0 : two H L ≠ 0) : ∃ l2 b h2 b2 : Nat, W l2 ∧ W h2 ∧ two h2 l2 + two H L = 340282366920938463463374607431768211456 ∧
    (∀ w, (callFunc 86 #[.int .u64 0, .int .u64 (L : Int), .int .u64 0]).run Try.prog w = .ok (.value (.tuple #[.int .u64 (l2 : Int), .int .u64 (b : Int)])) w) ∧
    (∀ w, (callFunc 86 #[.int .u64 0, .int .u64 (H : Int), .int .u64 (b : Int)]).run Try.prog w = .ok (.value (.tuple #[.int .u64 (h2 : Int), .int .u64 (b2 : Int)])) w) := by
  obtain ⟨l2, b, h2, e1, e2, e3, w1, w2, b1, s⟩ := neg_two H L hL hH h0
  refine ⟨l2, b, h2, (if 0 < H + b then 1 else 0), w1, w2, s, ?_, ?_⟩
  · intro w
    have := sub64 0 L 0 (by decide) w
    rw [Nat.zero_add, Nat.add_zero, Nat.sub_zero, e1, e2] at this
    exact this
  · intro w
    have := sub64 0 H b b1 w
    rw [Nat.zero_add, e3] at this
    exact this
theorem from_c (lo hi : Int) (h1 : -9223372036854775808 ≤ hi) (h2 : hi ≤ 9223372036854775807) (w : World) : Calls Try.prog 29 #[.int .i64 lo, .int .i64 hi] w fun e w' => e = .returned (.int .u64 ((fromV lo hi : Nat) : Int)) ∧ Below w.heap.size w w' := by
  obtain ⟨L, hL⟩ : ∃ L : Nat, lo % 18446744073709551616 = (L : Int) := ⟨(lo % 18446744073709551616).toNat, by omega⟩
  obtain ⟨H, hH⟩ : ∃ H : Nat, hi % 18446744073709551616 = (H : Int) := ⟨(hi % 18446744073709551616).toNat, by omega⟩
  have WL : W L := by unfold W; omega
  have WH : W H := by unfold W; omega
  have eL : IntKind.u64.wrap lo = (L : Int) := by rw [IntKind.wrap_u64]; exact hL
  have eH : IntKind.u64.wrap hi = (H : Int) := by rw [IntKind.wrap_u64]; exact hH
  unfold fromV dI
  by_cases hn : hi < 0
  · have n0 : two H L ≠ 0 := by unfold two; omega
    obtain ⟨l2, b, h2, b2, w1, w2, s, C1, C2⟩ := neg_walk H L WL WH n0
    have e : lo % 18446744073709551616 + hi * 18446744073709551616 = -((two h2 l2 : Nat) : Int) := by unfold two at *; omega
    have m0 : two h2 l2 ≠ 0 := neg_sum s (two_lt WH WL)
    rw [e, packI_neg 0 m0]
    exact from_neg lo hi L H l2 b h2 b2 _ hn eL eH C1 C2 (Lib.hid (pack_c true h2 l2 0 false w2 w1)) w
  · have e : lo % 18446744073709551616 + hi * 18446744073709551616 = ((two H L : Nat) : Int) := by unfold two at *; omega
    rw [e, packI_nat]
    exact from_pos lo hi L H _ hn eL eH (Lib.hid (pack_c false H L 0 false WH WL)) w
set_option maxHeartbeats 1000000 in
theorem widen_nan (a : Int) (p : Bool) (x m : Int) (A0 : (a / 2147483648 == 1) = p) (A1 : bits .and .u32 (a / 8388608) 255 = x) (A2 : bits .and .u32 a 8388607 = m) (bx : 0 ≤ x ∧ x ≤ 255) (bm : 0 ≤ m ∧ m < 8388608) (hx : x = 255) (hm : ¬ m = 0) (w : World) : Calls Try.prog 46 #[.int .u32 a] w fun e w' => e = .returned (.int .u64 (9221120237041090560)) ∧ Below w.heap.size w w' := by
  go_enter Try.func46, Try.ntmps46
  go_wp2
  go_ret
  exact ⟨rfl, Below.refl _ _⟩
set_option maxHeartbeats 1000000 in
theorem widen_inf (a : Int) (p : Bool) (x m : Int) (A0 : (a / 2147483648 == 1) = p) (A1 : bits .and .u32 (a / 8388608) 255 = x) (A2 : bits .and .u32 a 8388607 = m) (bx : 0 ≤ x ∧ x ≤ 255) (bm : 0 ≤ m ∧ m < 8388608) (hx : x = 255) (hm : m = 0) (R : Int) (SG : Hid (PSign 9218868437227405312 p R)) (w : World) : Calls Try.prog 46 #[.int .u32 a] w fun e w' => e = .returned (.int .u64 (R)) ∧ Below w.heap.size w w' := by
  go_enter Try.func46, Try.ntmps46
  go_wp2_with (first
    | (go_at_call 65; (with_reducible refine (SG.out _).mono ?_); rintro e1 w1 ⟨rfl, rfl⟩))
  go_ret
  exact ⟨rfl, Below.refl _ _⟩
set_option maxHeartbeats 1000000 in
theorem widen_sub (a : Int) (p : Bool) (x m : Int) (A0 : (a / 2147483648 == 1) = p) (A1 : bits .and .u32 (a / 8388608) 255 = x) (A2 : bits .and .u32 a 8388607 = m) (bx : 0 ≤ x ∧ x ≤ 255) (bm : 0 ≤ m ∧ m < 8388608) (hx : x = 0) (R : Int) (HPK : Hid (PPack p 0 m (-149) false R)) (w : World) : Calls Try.prog 46 #[.int .u32 a] w fun e w' => e = .returned (.int .u64 (R)) ∧ Below w.heap.size w w' := by
  go_enter Try.func46, Try.ntmps46
  go_wp2_with (first
    | (go_at_call 69; (with_reducible refine (HPK.out _).mono ?_); rintro e4 w4 ⟨rfl, hb4⟩))
  go_ret
  exact ⟨rfl, hb4⟩
set_option maxHeartbeats 1000000 in
theorem widen_norm (a : Int) (p : Bool) (x m : Int) (A0 : (a / 2147483648 == 1) = p) (A1 : bits .and .u32 (a / 8388608) 255 = x) (A2 : bits .and .u32 a 8388607 = m) (bx : 0 ≤ x ∧ x ≤ 255) (bm : 0 ≤ m ∧ m < 8388608) (hx : 0 < x) (hy : ¬ x = 255) (m2 R : Int) (A3 : bits .or .u64 m 8388608 = m2) (HPK : Hid (PPack p 0 m2 (x - 1 - 149) false R)) (w : World) : Calls Try.prog 46 #[.int .u32 a] w fun e w' => e = .returned (.int .u64 (R)) ∧ Below w.heap.size w w' := by
  go_enter Try.func46, Try.ntmps46
  go_wp2_with (first
    | (go_at_call 69; (with_reducible refine (HPK.out _).mono ?_); rintro e4 w4 ⟨rfl, hb4⟩))
  go_ret
  exact ⟨rfl, hb4⟩
theorem mask8 (x : Nat) : x &&& 255 = x % 256 := Nat.and_two_pow_sub_one_eq_mod x 8
theorem mask23 (x : Nat) : x &&& 8388607 = x % 8388608 := Nat.and_two_pow_sub_one_eq_mod x 23
theorem widen_c (a : Nat) (ha : a < 4294967296) (w : World) : Calls Try.prog 46 #[.int .u32 a] w fun e w' => e = .returned (.int .u64 ((widenV a : Nat) : Int)) ∧ Below w.heap.size w w' := by
  have A0 : ((a : Int) / 2147483648 == 1) = ng32 a := by unfold ng32; rw [Bool.eq_iff_iff]; simp only [beq_iff_eq, decide_eq_true_eq]; omega
  have A1 : bits .and .u32 ((a : Int) / 8388608) 255 = ((ex32 a : Nat) : Int) := by
    rw [show ((a : Int) / 8388608) = ((a / 8388608 : Nat) : Int) by omega, show (255 : Int) = ((255 : Nat) : Int) from rfl, u32_and_nat _ _ (by omega) (by decide), mask8]
    unfold ex32 mag32; omega
  have A2 : bits .and .u32 (a : Int) 8388607 = ((fr32 a : Nat) : Int) := by
    rw [show (8388607 : Int) = ((8388607 : Nat) : Int) from rfl, u32_and_nat _ _ (by omega) (by decide), mask23]; rfl
  have lf : fr32 a < 8388608 := Nat.mod_lt _ (by decide)
  have lx : ex32 a ≤ 255 := by unfold ex32 mag32; omega
  have bx : (0 : Int) ≤ ((ex32 a : Nat) : Int) ∧ ((ex32 a : Nat) : Int) ≤ 255 := by omega
  have bm : (0 : Int) ≤ ((fr32 a : Nat) : Int) ∧ ((fr32 a : Nat) : Int) < 8388608 := by omega
  by_cases c : ex32 a = 255
  · by_cases d : fr32 a = 0
    · rw [show widenV a = sg (ng32 a) Inf by simp [widenV, c, d]]
      exact widen_inf a _ _ _ A0 A1 A2 bx bm (by omega) (by omega) _ (Lib.hid (sign_c 9218868437227405312 (ng32 a) (by decide))) w
    · rw [show widenV a = NaN by simp [widenV, c, d]]
      exact widen_nan a _ _ _ A0 A1 A2 bx bm (by omega) (by omega) w
  rw [show widenV a = sg (ng32 a) (pat (sm32 a) (se32 a) false) by unfold widenV; rw [if_neg c]]
  by_cases d : ex32 a = 0
  · have e1 : sm32 a = fr32 a := by unfold sm32; rw [if_pos d]
    have e2 : se32 a = -149 := by unfold se32; rw [if_pos d]
    rw [e1, e2]
    have K := pack_c (ng32 a) 0 (fr32 a) (-149) false (W_of (by decide)) (W_of (by omega))
    rw [two_lo] at K
    exact widen_sub a _ _ _ A0 A1 A2 bx bm (by omega) _ (Lib.hid K) w
  · have e1 : sm32 a = fr32 a + 8388608 := by unfold sm32; rw [if_neg d]
    have e2 : se32 a = (ex32 a : Int) - 1 - 149 := by unfold se32; rw [if_neg d]; omega
    rw [e1, e2]
    have K := pack_c (ng32 a) 0 (fr32 a + 8388608) ((ex32 a : Int) - 1 - 149) false (W_of (by decide)) (W_of (by omega))
    rw [two_lo] at K
    have A3 : bits .or .u64 ((fr32 a : Nat) : Int) 8388608 = ((fr32 a + 8388608 : Nat) : Int) := by
      rw [show (8388608 : Int) = ((8388608 : Nat) : Int) from rfl, u64_or_nat _ _ (by omega) (by decide), Nat.or_comm, nat_join 23 8388608 (fr32 a) (by decide) lf]
      congr 1; omega
    exact widen_norm a _ _ _ A0 A1 A2 bx bm (by omega) (by omega) _ _ A3 (Lib.hid K) w
end Go.Proofs.Ytecgkhijiogggaa
