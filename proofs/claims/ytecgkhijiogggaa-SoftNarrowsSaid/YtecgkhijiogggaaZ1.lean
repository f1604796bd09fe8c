/- The reference's Widen and Narrow. -/
import Derived.Test.YtecgkhijiogggaaZ0
import Derived.Test.YtecgkhijiogggaaQ
namespace Go.Proofs.Ytecgkhijiogggaa
set_option linter.unusedVariables false
set_option linter.unusedSimpArgs false
open Go.RowKit Go.Shelf SF
set_option maxRecDepth 100000 in
set_option maxHeartbeats 2000000 in
theorem rWiden_nan (a : Int) (p : Bool) (x m : Int) (A0 : (a / 2147483648 == 1) = p) (A1 : bits .and .u32 (a / 8388608) 255 = x) (A2 : bits .and .u32 a 8388607 = m) (bx : 0 ≤ x ∧ x ≤ 255) (bm : 0 ≤ m ∧ m < 8388608) (hx : x = 255) (hm : ¬ m = 0) (w : World) : Calls Try.prog 47 #[.int .u32 a] w fun e w' => e = .returned (.int .u64 9221120237041090560) ∧ Below w.heap.size w w' := by
  go_enter Try.func47, Try.ntmps47
  go_wp2
  go_ret
  exact ⟨rfl, Below.refl _ _⟩
set_option maxRecDepth 100000 in
set_option maxHeartbeats 2000000 in
theorem rWiden_inf (a : Int) (p : Bool) (x m : Int) (A0 : (a / 2147483648 == 1) = p) (A1 : bits .and .u32 (a / 8388608) 255 = x) (A2 : bits .and .u32 a 8388607 = m) (bx : 0 ≤ x ∧ x ≤ 255) (bm : 0 ≤ m ∧ m < 8388608) (hx : x = 255) (hm : m = 0) (R : Int) (SG : Hid (∀ w, Calls Try.prog 74 #[.bool p, .int .u64 9218868437227405312] w fun e w' => e = .returned (.int .u64 R) ∧ w = w')) (w : World) : Calls Try.prog 47 #[.int .u32 a] w fun e w' => e = .returned (.int .u64 R) ∧ Below w.heap.size w w' := by
  go_enter Try.func47, Try.ntmps47
  go_wp2_with (first
    | (go_at_call 74; (with_reducible refine (SG.out _).mono ?_); rintro e1 w1 ⟨rfl, rfl⟩))
  go_ret
  exact ⟨rfl, Below.refl _ _⟩
set_option maxRecDepth 100000 in
set_option maxHeartbeats 2000000 in
theorem rWiden_sub (a : Int) (p : Bool) (x m : Int) (A0 : (a / 2147483648 == 1) = p) (A1 : bits .and .u32 (a / 8388608) 255 = x) (A2 : bits .and .u32 a 8388607 = m) (bx : 0 ≤ x ∧ x ≤ 255) (bm : 0 ≤ m ∧ m < 8388608) (hx : x = 0) (M : Nat) (R : Int) (HOf : Hid (∀ w, Calls Try.prog 83 #[.int .u64 m] w (One w M))) (HM : Hid (∀ (w1 : World) (a1 : Option Addr) (n1 c1 : Nat), Nw w1 (.slice a1 n1 c1) (M) → Calls Try.prog 58 #[.bool (p), .slice a1 n1 c1, .int .i64 (-149)] w1 fun e w' => e = .returned (.int .u64 R) ∧ Below w1.heap.size w1 w')) (w : World) : Calls Try.prog 47 #[.int .u32 a] w fun e w' => e = .returned (.int .u64 R) ∧ Below w.heap.size w w' := by
  go_enter Try.func47, Try.ntmps47
  go_wp2_with (first
    | (go_at_call 83; (with_reducible refine (HOf.out _).mono ?_); rintro e1 w1 ⟨a1, n1, c1, rfl, hv1, hb1⟩)
    | (go_at_call 58; (with_reducible refine (HM.out _ _ _ _ hv1).mono ?_); rintro e2 w2 ⟨rfl, hb2⟩))
  go_ret
  exact ⟨rfl, btn hb1 hb2⟩
set_option maxRecDepth 100000 in
set_option maxHeartbeats 2000000 in
theorem rWiden_norm (a : Int) (p : Bool) (x m : Int) (A0 : (a / 2147483648 == 1) = p) (A1 : bits .and .u32 (a / 8388608) 255 = x) (A2 : bits .and .u32 a 8388607 = m) (bx : 0 ≤ x ∧ x ≤ 255) (bm : 0 ≤ m ∧ m < 8388608) (hx : 0 < x) (hy : ¬ x = 255) (m2 : Int) (A3 : bits .or .u64 m 8388608 = m2) (M : Nat) (R : Int) (HOf : Hid (∀ w, Calls Try.prog 83 #[.int .u64 m2] w (One w M))) (HM : Hid (∀ (w1 : World) (a1 : Option Addr) (n1 c1 : Nat), Nw w1 (.slice a1 n1 c1) (M) → Calls Try.prog 58 #[.bool (p), .slice a1 n1 c1, .int .i64 (x - 150)] w1 fun e w' => e = .returned (.int .u64 R) ∧ Below w1.heap.size w1 w')) (w : World) : Calls Try.prog 47 #[.int .u32 a] w fun e w' => e = .returned (.int .u64 R) ∧ Below w.heap.size w w' := by
  go_enter Try.func47, Try.ntmps47
  go_wp2_with (first
    | (go_at_call 83; (with_reducible refine (HOf.out _).mono ?_); rintro e1 w1 ⟨a1, n1, c1, rfl, hv1, hb1⟩)
    | (go_at_call 58; (with_reducible refine (HM.out _ _ _ _ hv1).mono ?_); rintro e2 w2 ⟨rfl, hb2⟩))
  go_ret
  exact ⟨rfl, btn hb1 hb2⟩
theorem rWiden_c (a : Nat) (ha : W32 a) (w : World) : Calls Try.prog 47 #[.int .u32 (a : Int)] w fun e w' => e = .returned (.int .u64 ((widenV a : Nat) : Int)) ∧ Below w.heap.size w w' := by
  unfold W32 at ha
  have A0 : ((a : Int) / 2147483648 == 1) = ng32 a := by unfold ng32; rw [Bool.eq_iff_iff]; simp only [beq_iff_eq, decide_eq_true_eq]; omega
  have A1 : bits .and .u32 ((a : Int) / 8388608) 255 = ((ex32 a : Nat) : Int) := by
    rw [show ((a : Int) / 8388608) = ((a / 8388608 : Nat) : Int) by omega, show (255 : Int) = ((255 : Nat) : Int) from rfl, u32_and_nat _ _ (by omega) (by decide), mask8]
    unfold ex32 mag32; omega
  have A2 : bits .and .u32 (a : Int) 8388607 = ((fr32 a : Nat) : Int) := by
    rw [show (8388607 : Int) = ((8388607 : Nat) : Int) from rfl, u32_and_nat _ _ (by omega) (by decide), mask23]; rfl
  have lf : fr32 a < 8388608 := Nat.mod_lt _ (by decide)
  have lx : ex32 a ≤ 255 := by unfold ex32 mag32; omega
  have bx : (0 : Int) ≤ ((ex32 a : Nat) : Int) ∧ ((ex32 a : Nat) : Int) ≤ 255 := by omega
  have bm : (0 : Int) ≤ ((fr32 a : Nat) : Int) ∧ ((fr32 a : Nat) : Int) < 8388608 := by omega
  by_cases c : ex32 a = 255
  · by_cases d : fr32 a = 0
    · rw [show widenV a = sg (ng32 a) Inf by simp [widenV, c, d]]
      exact rWiden_inf a _ _ _ A0 A1 A2 bx bm (by omega) (by omega) _ (Lib.hid (rsigned_c 9218868437227405312 (ng32 a) (by decide))) w
    · rw [show widenV a = NaN by simp [widenV, c, d]]
      exact rWiden_nan a _ _ _ A0 A1 A2 bx bm (by omega) (by omega) w
  rw [show widenV a = makeV (ng32 a) (sm32 a) (se32 a) by unfold widenV makeV; rw [if_neg c]]
  have bl24 : bl (sm32 a) ≤ 24 := bl_le_of_lt (k := 24) (by rw [show (2 : Nat) ^ 24 = 16777216 by decide]; unfold sm32; split <;> omega)
  by_cases d : ex32 a = 0
  · have e1 : sm32 a = fr32 a := by unfold sm32; rw [if_pos d]
    have e2 : se32 a = -149 := by unfold se32; rw [if_pos d]
    rw [e1] at bl24
    rw [e1, e2]
    exact rWiden_sub a _ _ _ A0 A1 A2 bx bm (by omega) _ _ (Lib.hid (fun w => rof_n (fr32 a) w (W_of (by omega)))) (Lib.hid (fun w1 a1 n1 c1 h => rmake_n (ng32 a) h (by omega) (-149) (by decide))) w
  · have e1 : sm32 a = fr32 a + 8388608 := by unfold sm32; rw [if_neg d]
    have e2 : se32 a = (ex32 a : Int) - 150 := by unfold se32; rw [if_neg d]
    rw [e1] at bl24
    rw [e1, e2]
    have A3 : bits .or .u64 ((fr32 a : Nat) : Int) 8388608 = ((fr32 a + 8388608 : Nat) : Int) := by
      rw [show (8388608 : Int) = ((8388608 : Nat) : Int) from rfl, u64_or_nat _ _ (by omega) (by decide), Nat.or_comm, nat_join 23 8388608 (fr32 a) (by decide) lf]
      congr 1; omega
    exact rWiden_norm a _ _ _ A0 A1 A2 bx bm (by omega) (by omega) _ A3 _ _ (Lib.hid (fun w => rof_n (fr32 a + 8388608) w (W_of (by omega)))) (Lib.hid (fun w1 a1 n1 c1 h => rmake_n (ng32 a) h (by omega) ((ex32 a : Int) - 150) (by omega))) w
set_option maxRecDepth 100000 in
set_option maxHeartbeats 2000000 in
theorem rNarrow_n (a : Nat) (S : Int) (HS : bits .and .u64 ((a : Int) / 4294967296) 2147483648 = S) (bS : 0 ≤ S ∧ S ≤ 2147483648) (N1 : Hid (PB 71 a true)) (w : World) : Calls Try.prog 45 #[.int .u64 a] w fun e w' => e = .returned (.int .u32 2143289344) ∧ Below w.heap.size w w' := by
  go_enter Try.func45, Try.ntmps45
  go_wp2_with (first
    | (go_at_call 71; (with_reducible refine (N1.out _).mono ?_); rintro e1 w1 ⟨rfl, rfl⟩))
  go_ret
  exact ⟨rfl, Below.refl _ _⟩
set_option maxRecDepth 100000 in
set_option maxHeartbeats 2000000 in
theorem rNarrow_i (a : Nat) (S : Int) (HS : bits .and .u64 ((a : Int) / 4294967296) 2147483648 = S) (bS : 0 ≤ S ∧ S ≤ 2147483648) (N1 : Hid (PB 71 a false)) (I1 : Hid (PB 72 a true)) (r : Int) (OR : bits .or .u32 S 2139095040 = r) (w : World) : Calls Try.prog 45 #[.int .u64 a] w fun e w' => e = .returned (.int .u32 r) ∧ Below w.heap.size w w' := by
  go_enter Try.func45, Try.ntmps45
  go_wp2_with (first
    | (go_at_call 71; (with_reducible refine (N1.out _).mono ?_); rintro e1 w1 ⟨rfl, rfl⟩)
    | (go_at_call 72; (with_reducible refine (I1.out _).mono ?_); rintro e1 w1 ⟨rfl, rfl⟩))
  go_ret
  exact ⟨rfl, Below.refl _ _⟩
set_option maxRecDepth 100000 in
set_option maxHeartbeats 2000000 in
theorem rNarrow_z (a : Nat) (S : Int) (HS : bits .and .u64 ((a : Int) / 4294967296) 2147483648 = S) (bS : 0 ≤ S ∧ S ≤ 2147483648) (N1 : Hid (PB 71 a false)) (I1 : Hid (PB 72 a false)) (p : Bool) (e : Int) (SA : Hid (∀ w, Calls Try.prog 60 #[.int .u64 a] w (Sp w p 0 e))) (w : World) : Calls Try.prog 45 #[.int .u64 a] w fun e w' => e = .returned (.int .u32 S) ∧ Below w.heap.size w w' := by
  go_enter Try.func45, Try.ntmps45
  go_wp2_with (first
    | (go_at_call 71; (with_reducible refine (N1.out _).mono ?_); rintro e1 w1 ⟨rfl, rfl⟩)
    | (go_at_call 72; (with_reducible refine (I1.out _).mono ?_); rintro e1 w1 ⟨rfl, rfl⟩)
    | (go_at_call 60; (with_reducible refine (SA.out _).mono ?_); rintro e1 w1 ⟨a1, n1, c1, rfl, hv1, hb1⟩; obtain rfl := hv1.len0))
  go_ret
  exact ⟨rfl, hb1⟩
set_option maxRecDepth 100000 in
set_option maxHeartbeats 2000000 in
theorem rNarrow_over (a : Nat) (S : Int) (HS : bits .and .u64 ((a : Int) / 4294967296) 2147483648 = S) (bS : 0 ≤ S ∧ S ≤ 2147483648) (N1 : Hid (PB 71 a false)) (I1 : Hid (PB 72 a false)) (A : Nat) (h0 : A ≠ 0) (p : Bool) (e : Int) (SA : Hid (∀ w, Calls Try.prog 60 #[.int .u64 a] w (Sp w p A e))) (V X : Int) (HR : Hid (∀ (w1 : World) (a1 : Option Addr) (n1 c1 : Nat), Nw w1 (.slice a1 n1 c1) A → Calls Try.prog 98 #[.slice a1 n1 c1, .int .i64 e, .int .i64 24, .int .i64 (-149), .int .i64 104] w1 fun x w' => x = .returned (.tuple #[.int .u64 V, .int .i64 X, .bool true]) ∧ Below w1.heap.size w1 w')) (r : Int) (OR : bits .or .u32 S 2139095040 = r) (w : World) : Calls Try.prog 45 #[.int .u64 a] w fun e w' => e = .returned (.int .u32 r) ∧ Below w.heap.size w w' := by
  have H0 := Lib.hid h0
  clear h0
  go_enter Try.func45, Try.ntmps45
  go_wp2_with (first
    | (go_at_call 71; (with_reducible refine (N1.out _).mono ?_); rintro e1 w1 ⟨rfl, rfl⟩)
    | (go_at_call 72; (with_reducible refine (I1.out _).mono ?_); rintro e1 w1 ⟨rfl, rfl⟩)
    | (go_at_call 60; (with_reducible refine (SA.out _).mono ?_); rintro e1 w1 ⟨a1, n1, c1, rfl, hv1, hb1⟩; have hl1 := hv1.lenp H0.out)
    | (go_at_call 98; (with_reducible refine (HR.out _ _ _ _ hv1).mono ?_); rintro e2 w2 ⟨rfl, hb2⟩))
  go_ret
  exact ⟨rfl, btn hb1 hb2⟩
set_option maxRecDepth 100000 in
set_option maxHeartbeats 2000000 in
theorem rNarrow_sub (a : Nat) (S : Int) (HS : bits .and .u64 ((a : Int) / 4294967296) 2147483648 = S) (bS : 0 ≤ S ∧ S ≤ 2147483648) (N1 : Hid (PB 71 a false)) (I1 : Hid (PB 72 a false)) (A : Nat) (h0 : A ≠ 0) (p : Bool) (e : Int) (SA : Hid (∀ w, Calls Try.prog 60 #[.int .u64 a] w (Sp w p A e))) (V X : Int) (HR : Hid (∀ (w1 : World) (a1 : Option Addr) (n1 c1 : Nat), Nw w1 (.slice a1 n1 c1) A → Calls Try.prog 98 #[.slice a1 n1 c1, .int .i64 e, .int .i64 24, .int .i64 (-149), .int .i64 104] w1 fun x w' => x = .returned (.tuple #[.int .u64 V, .int .i64 X, .bool false]) ∧ Below w1.heap.size w1 w')) (bV : 0 ≤ V ∧ V < 8388608) (r : Int) (OR : bits .or .u32 S V = r) (w : World) : Calls Try.prog 45 #[.int .u64 a] w fun e w' => e = .returned (.int .u32 r) ∧ Below w.heap.size w w' := by
  have H0 := Lib.hid h0
  clear h0
  go_enter Try.func45, Try.ntmps45
  go_wp2_with (first
    | (go_at_call 71; (with_reducible refine (N1.out _).mono ?_); rintro e1 w1 ⟨rfl, rfl⟩)
    | (go_at_call 72; (with_reducible refine (I1.out _).mono ?_); rintro e1 w1 ⟨rfl, rfl⟩)
    | (go_at_call 60; (with_reducible refine (SA.out _).mono ?_); rintro e1 w1 ⟨a1, n1, c1, rfl, hv1, hb1⟩; have hl1 := hv1.lenp H0.out)
    | (go_at_call 98; (with_reducible refine (HR.out _ _ _ _ hv1).mono ?_); rintro e2 w2 ⟨rfl, hb2⟩))
  go_ret
  exact ⟨rfl, btn hb1 hb2⟩
set_option maxRecDepth 100000 in
set_option maxHeartbeats 2000000 in
theorem rNarrow_norm (a : Nat) (S : Int) (HS : bits .and .u64 ((a : Int) / 4294967296) 2147483648 = S) (bS : 0 ≤ S ∧ S ≤ 2147483648) (N1 : Hid (PB 71 a false)) (I1 : Hid (PB 72 a false)) (A : Nat) (h0 : A ≠ 0) (p : Bool) (e : Int) (SA : Hid (∀ w, Calls Try.prog 60 #[.int .u64 a] w (Sp w p A e))) (V X : Int) (HR : Hid (∀ (w1 : World) (a1 : Option Addr) (n1 c1 : Nat), Nw w1 (.slice a1 n1 c1) A → Calls Try.prog 98 #[.slice a1 n1 c1, .int .i64 e, .int .i64 24, .int .i64 (-149), .int .i64 104] w1 fun x w' => x = .returned (.tuple #[.int .u64 V, .int .i64 X, .bool false]) ∧ Below w1.heap.size w1 w')) (bV : 8388608 ≤ V ∧ V < 16777216) (bX : -149 ≤ X ∧ X ≤ 104) (m2 s r : Int) (O1 : bits .or .u32 S ((X + 150) * 8388608) = s) (O2 : bits .and .u64 V 8388607 = m2) (b2 : 0 ≤ m2 ∧ m2 < 8388608) (O3 : bits .or .u32 s m2 = r) (w : World) : Calls Try.prog 45 #[.int .u64 a] w fun e w' => e = .returned (.int .u32 r) ∧ Below w.heap.size w w' := by
  have H0 := Lib.hid h0
  clear h0
  go_enter Try.func45, Try.ntmps45
  go_wp2_with (first
    | (go_at_call 71; (with_reducible refine (N1.out _).mono ?_); rintro e1 w1 ⟨rfl, rfl⟩)
    | (go_at_call 72; (with_reducible refine (I1.out _).mono ?_); rintro e1 w1 ⟨rfl, rfl⟩)
    | (go_at_call 60; (with_reducible refine (SA.out _).mono ?_); rintro e1 w1 ⟨a1, n1, c1, rfl, hv1, hb1⟩; have hl1 := hv1.lenp H0.out)
    | (go_at_call 98; (with_reducible refine (HR.out _ _ _ _ hv1).mono ?_); rintro e2 w2 ⟨rfl, hb2⟩))
  go_ret
  exact ⟨rfl, btn hb1 hb2⟩
theorem sgn32 {a : Nat} (ha : W a) : bits .and .u64 ((a : Int) / 4294967296) 2147483648 = if ng a = true then 2147483648 else 0 := by
  unfold W at ha
  rw [show (a : Int) / 4294967296 = ((a / 4294967296 : Nat) : Int) by omega, show (2147483648 : Int) = ((2147483648 : Nat) : Int) from rfl, u64_and_nat _ _ (by omega) (by decide)]
  have := nat_bit 31 (a / 4294967296)
  rw [show (2 : Nat) ^ 31 = 2147483648 by decide] at this
  rw [this]
  unfold ng
  by_cases c : 9223372036854775808 ≤ a
  · rw [decide_eq_true c, if_pos rfl]; omega
  · rw [decide_eq_false c, if_neg Bool.false_ne_true]; omega
theorem rNarrow_c (a : Nat) (ha : W a) (w : World) : Calls Try.prog 45 #[.int .u64 a] w fun e w' => e = .returned (.int .u32 ((narrowV a : Nat) : Int)) ∧ Below w.heap.size w w' := by
  have N1 := Lib.hid (risnan_c a ha)
  have I1 := Lib.hid (risinf_c a ha)
  have HS := sgn32 ha
  have bS : (0 : Int) ≤ (if ng a = true then 2147483648 else 0) ∧ (if ng a = true then (2147483648 : Int) else 0) ≤ 2147483648 := by split <;> decide
  by_cases n1 : nan a = true
  · rw [show narrowV a = 2143289344 by simp [narrowV, n1]]; rw [n1] at N1
    exact rNarrow_n a _ HS bS N1 w
  have n1 := Bool.eq_false_iff.2 n1; rw [n1] at N1
  by_cases i1 : inf a = true
  · rw [show narrowV a = sg32 (ng a) 2139095040 by simp [narrowV, n1, i1]]; rw [i1] at I1
    exact rNarrow_i a _ HS bS N1 I1 _ (or_sg (ng a) (P := 2139095040) (by decide)) w
  have i1 := Bool.eq_false_iff.2 i1; rw [i1] at I1
  rw [show narrowV a = sg32 (ng a) (patG 24 (-149) 104 (sm a) (se a) false) by unfold narrowV; rw [if_neg (by rw [n1]; decide), if_neg (by rw [i1]; decide)]]
  have SA := fun w => rsplit_c a ha n1 i1 w
  by_cases n0 : sm a = 0
  · rw [n0, patG_zero]
    rw [n0] at SA
    have e : ((sg32 (ng a) 0 : Nat) : Int) = if ng a = true then 2147483648 else 0 := by unfold sg32; split <;> rfl
    rw [e]
    exact rNarrow_z a _ HS bS N1 I1 _ _ (Lib.hid SA) w
  have SA := Lib.hid SA
  have be : -1074 ≤ se a ∧ se a ≤ 971 := ⟨se_ge a, se_le n1 i1⟩
  have bA := bl_sm a
  have R := fun (w1 : World) (a1 : Option Addr) (n1 c1 : Nat) (h : Nw w1 (.slice a1 n1 c1) (sm a)) => rround24_c a1 n1 c1 (sm a) w1 h (by omega) (se a) (by omega) (by unfold qz; omega)
  unfold RndV at R
  have ov := patG_over (p := 24) (low := -149) (high := 104) (m := sm a) (e := se a) (rest := false) (by decide) n0 (by decide)
  have un := patG_under (p := 24) (low := -149) (high := 104) (m := sm a) (e := se a) (rest := false) (by decide) n0 (by decide)
  have e23 : (2 : Nat) ^ (24 - 1) = 8388608 := by decide
  have vl := rv_lt (p := 24) (by decide) (-149) (sm a) (se a) false
  rw [show (2 : Nat) ^ 24 = 16777216 by decide] at vl
  have xl := rx_ge 24 (-149) (sm a) (se a) false
  rw [e23] at un
  obtain ⟨V, hV⟩ : ∃ v, rv 24 (-149) (sm a) (se a) false = v := ⟨_, rfl⟩
  obtain ⟨X, hX⟩ : ∃ v, rx 24 (-149) (sm a) (se a) false = v := ⟨_, rfl⟩
  obtain ⟨P, hP⟩ : ∃ v, patG 24 (-149) 104 (sm a) (se a) false = v := ⟨_, rfl⟩
  rw [hV, hX] at R
  rw [hV] at un vl
  rw [hX] at ov un xl
  rw [hP] at ov un ⊢
  by_cases ho : 104 < X
  · rw [show decide (104 < X) = true from decide_eq_true ho] at R
    have e : P = 2139095040 := ov ho
    rw [e]
    exact rNarrow_over a _ HS bS N1 I1 _ n0 _ _ SA _ _ (Lib.hid R) _ (or_sg (ng a) (P := 2139095040) (by decide)) w
  rw [show decide (104 < X) = false from decide_eq_false ho] at R
  have R := Lib.hid R
  have hp := un (by omega)
  by_cases hn : V < 8388608
  · rw [if_pos hn] at hp
    rw [hp]
    exact rNarrow_sub a _ HS bS N1 I1 _ n0 _ _ SA _ _ R (by omega) _ (or_sg (ng a) (P := V) (by omega)) w
  · rw [if_neg hn] at hp
    obtain ⟨s, o1, o2⟩ := or_norm (ng a) xl (by omega) hn (by omega) hp
    have o3 : bits .and .u64 (V : Int) 8388607 = bits .and .u32 (V : Int) 8388607 := by
      rw [show (8388607 : Int) = ((8388607 : Nat) : Int) from rfl, u32_and_nat V 8388607 (by omega) (by decide), u64_and_nat V 8388607 (by omega) (by decide)]
    have o4 : bits .and .u32 (V : Int) 8388607 = ((V % 8388608 : Nat) : Int) := by
      rw [show (8388607 : Int) = ((8388607 : Nat) : Int) from rfl, u32_and_nat V 8388607 (by omega) (by decide), mask23]
    rw [show X + 149 + 1 = X + 150 by omega] at o1
    rw [o4] at o2 o3
    exact rNarrow_norm a _ HS bS N1 I1 _ n0 _ _ SA _ _ R (by omega) (by omega) _ _ _ o1 o3 (by omega) o2 w
end Go.Proofs.Ytecgkhijiogggaa
