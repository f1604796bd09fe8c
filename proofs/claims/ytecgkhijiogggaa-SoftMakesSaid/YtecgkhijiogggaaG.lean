/- Neg, Abs, Sub, Mul, full. -/
import Derived.Test.YtecgkhijiogggaaF
namespace Go.Proofs.Ytecgkhijiogggaa
set_option linter.unusedVariables false
set_option linter.unusedSimpArgs false
open Go.RowKit Go.Shelf SF
theorem neg_c (a : Nat) (ha : W a) (w : World) : Calls Try.prog 34 #[.int .u64 a] w fun e w' => e = .returned (.int .u64 ((negV a : Nat) : Int)) ∧ w = w' := by
  have N1 := Lib.hid (isnan_c a ha)
  have X := bxor_sign ha
  unfold negV
  obtain ⟨n, hn⟩ : ∃ n, nan a = n := ⟨_, rfl⟩
  rw [hn] at N1 ⊢
  clear hn
  cases n
  · go_enter Try.func34, Try.ntmps34
    go_wp2_with (first
      | (go_at_call 62; (with_reducible refine (N1.out _).mono ?_); rintro e1 w1 ⟨rfl, rfl⟩))
    go_ret
    exact ⟨rfl, rfl⟩
  · go_enter Try.func34, Try.ntmps34
    go_wp2_with (first
      | (go_at_call 62; (with_reducible refine (N1.out _).mono ?_); rintro e1 w1 ⟨rfl, rfl⟩))
    go_ret
    exact ⟨rfl, rfl⟩
theorem abs_c (a : Nat) (ha : W a) (w : World) : Calls Try.prog 43 #[.int .u64 a] w fun e w' => e = .returned (.int .u64 ((absV a : Nat) : Int)) ∧ w = w' := by
  have N1 := Lib.hid (isnan_c a ha)
  have X := bandnot_sign ha
  unfold absV
  obtain ⟨n, hn⟩ : ∃ n, nan a = n := ⟨_, rfl⟩
  rw [hn] at N1 ⊢
  clear hn
  cases n
  · go_enter Try.func43, Try.ntmps43
    go_wp2_with (first
      | (go_at_call 62; (with_reducible refine (N1.out _).mono ?_); rintro e1 w1 ⟨rfl, rfl⟩))
    go_ret
    exact ⟨rfl, rfl⟩
  · go_enter Try.func43, Try.ntmps43
    go_wp2_with (first
      | (go_at_call 62; (with_reducible refine (N1.out _).mono ?_); rintro e1 w1 ⟨rfl, rfl⟩))
    go_ret
    exact ⟨rfl, rfl⟩
theorem retI {k : IntKind} {a b : Int} (h : a = b) : Ending.returned (.int k a) = .returned (.int k b) := by rw [h]
theorem W_mag (a : Nat) : W (mag a) := W_of (by have := mag_lt a; omega)
theorem W_negV {a : Nat} (ha : W a) : W (negV a) := by unfold negV; split; exact W_of (by decide); exact W_sg (mag_lt a)
theorem W_absV {a : Nat} (ha : W a) : W (absV a) := by unfold absV; split; exact W_of (by decide); exact W_mag a
theorem sub_c (a b : Nat) (ha : W a) (hb : W b) (w : World) : Calls Try.prog 25 #[.int .u64 a, .int .u64 b] w fun e w' => e = .returned (.int .u64 ((subV a b : Nat) : Int)) ∧ Below w.heap.size w w' := by
  have N := Lib.hid (neg_c b hb)
  have A := Lib.hid (add_c a (negV b) ha (W_negV hb))
  go_enter Try.func25, Try.ntmps25
  go_wp2_with (first
    | (go_at_call 34; (with_reducible refine (N.out _).mono ?_); rintro e1 w1 ⟨rfl, rfl⟩)
    | (go_at_call 23; (with_reducible refine (A.out _).mono ?_); rintro e1 w1 ⟨rfl, hb1⟩))
  go_ret
  exact ⟨rfl, hb1⟩
theorem mul64_c (x y : Nat) (hx : W x) (hy : W y) (w : World) : Calls Try.prog 89 #[.int .u64 x, .int .u64 y] w fun e w' => e = .returned (.tuple #[.int .u64 ((x * y / 18446744073709551616 : Nat) : Int), .int .u64 ((x * y % 18446744073709551616 : Nat) : Int)]) ∧ w = w' :=
  (Try.bits_Mul64 x y hx hy w).mono fun _ _ ⟨h1, h2⟩ => ⟨h1, h2.symm⟩
theorem mul_fine {w w1 w2 w3 : World} {o1 o2 : Obj} (h1 : Below w.heap.size w w1) (h2 : Below w1.heap.size w1 w2) (h3 : Below ((w2.alloc o1).alloc o2).heap.size ((w2.alloc o1).alloc o2) w3) : Below w.heap.size w w3 := by
  have a := below_then h1 h1.size h2
  have b := (a.alloc a.size o1).alloc (by have := a.size; simp; omega) o2
  exact below_then b b.size h3
set_option maxHeartbeats 1000000 in
theorem mul_n1 (a b : Nat) (p q : Bool) (G1 : Hid (PB 61 a p)) (G2 : Hid (PB 61 b q)) (N1 : Hid (PB 62 a true)) (w : World) : Calls Try.prog 31 #[.int .u64 a, .int .u64 b] w fun e w' => e = .returned (.int .u64 (9221120237041090560)) ∧ Below w.heap.size w w' := by
  go_enter Try.func31, Try.ntmps31
  go_wp2_with (first
    | (go_at_call 61; (with_reducible refine (G1.out _).mono ?_); rintro e1 w1 ⟨rfl, rfl⟩)
    | (go_at_call 61; (with_reducible refine (G2.out _).mono ?_); rintro e1 w1 ⟨rfl, rfl⟩)
    | (go_at_call 62; (with_reducible refine (N1.out _).mono ?_); rintro e1 w1 ⟨rfl, rfl⟩))
  go_ret
  exact ⟨rfl, Below.refl _ _⟩
set_option maxHeartbeats 1000000 in
theorem mul_n2 (a b : Nat) (p q : Bool) (G1 : Hid (PB 61 a p)) (G2 : Hid (PB 61 b q)) (N1 : Hid (PB 62 a false)) (N2 : Hid (PB 62 b true)) (w : World) : Calls Try.prog 31 #[.int .u64 a, .int .u64 b] w fun e w' => e = .returned (.int .u64 (9221120237041090560)) ∧ Below w.heap.size w w' := by
  go_enter Try.func31, Try.ntmps31
  go_wp2_with (first
    | (go_at_call 61; (with_reducible refine (G1.out _).mono ?_); rintro e1 w1 ⟨rfl, rfl⟩)
    | (go_at_call 61; (with_reducible refine (G2.out _).mono ?_); rintro e1 w1 ⟨rfl, rfl⟩)
    | (go_at_call 62; (with_reducible refine (N1.out _).mono ?_); rintro e1 w1 ⟨rfl, rfl⟩)
    | (go_at_call 62; (with_reducible refine (N2.out _).mono ?_); rintro e1 w1 ⟨rfl, rfl⟩))
  go_ret
  exact ⟨rfl, Below.refl _ _⟩
set_option maxHeartbeats 1000000 in
theorem mul_iz (a b : Nat) (p q : Bool) (G1 : Hid (PB 61 a p)) (G2 : Hid (PB 61 b q)) (N1 : Hid (PB 62 a false)) (N2 : Hid (PB 62 b false)) (I1 : Hid (PB 63 a true)) (Z2 : Hid (PB 64 b true)) (w : World) : Calls Try.prog 31 #[.int .u64 a, .int .u64 b] w fun e w' => e = .returned (.int .u64 (9221120237041090560)) ∧ Below w.heap.size w w' := by
  go_enter Try.func31, Try.ntmps31
  go_wp2_with (first
    | (go_at_call 61; (with_reducible refine (G1.out _).mono ?_); rintro e1 w1 ⟨rfl, rfl⟩)
    | (go_at_call 61; (with_reducible refine (G2.out _).mono ?_); rintro e1 w1 ⟨rfl, rfl⟩)
    | (go_at_call 62; (with_reducible refine (N1.out _).mono ?_); rintro e1 w1 ⟨rfl, rfl⟩)
    | (go_at_call 62; (with_reducible refine (N2.out _).mono ?_); rintro e1 w1 ⟨rfl, rfl⟩)
    | (go_at_call 63; (with_reducible refine (I1.out _).mono ?_); rintro e1 w1 ⟨rfl, rfl⟩)
    | (go_at_call 64; (with_reducible refine (Z2.out _).mono ?_); rintro e1 w1 ⟨rfl, rfl⟩))
  go_ret
  exact ⟨rfl, Below.refl _ _⟩
set_option maxHeartbeats 1000000 in
theorem mul_zi (a b : Nat) (p q : Bool) (G1 : Hid (PB 61 a p)) (G2 : Hid (PB 61 b q)) (N1 : Hid (PB 62 a false)) (N2 : Hid (PB 62 b false)) (I1 : Hid (PB 63 a false)) (Z1 : Hid (PB 64 a true)) (I2 : Hid (PB 63 b true)) (w : World) : Calls Try.prog 31 #[.int .u64 a, .int .u64 b] w fun e w' => e = .returned (.int .u64 (9221120237041090560)) ∧ Below w.heap.size w w' := by
  go_enter Try.func31, Try.ntmps31
  go_wp2_with (first
    | (go_at_call 61; (with_reducible refine (G1.out _).mono ?_); rintro e1 w1 ⟨rfl, rfl⟩)
    | (go_at_call 61; (with_reducible refine (G2.out _).mono ?_); rintro e1 w1 ⟨rfl, rfl⟩)
    | (go_at_call 62; (with_reducible refine (N1.out _).mono ?_); rintro e1 w1 ⟨rfl, rfl⟩)
    | (go_at_call 62; (with_reducible refine (N2.out _).mono ?_); rintro e1 w1 ⟨rfl, rfl⟩)
    | (go_at_call 63; (with_reducible refine (I1.out _).mono ?_); rintro e1 w1 ⟨rfl, rfl⟩)
    | (go_at_call 64; (with_reducible refine (Z1.out _).mono ?_); rintro e1 w1 ⟨rfl, rfl⟩)
    | (go_at_call 63; (with_reducible refine (I2.out _).mono ?_); rintro e1 w1 ⟨rfl, rfl⟩))
  go_ret
  exact ⟨rfl, Below.refl _ _⟩
set_option maxHeartbeats 1000000 in
theorem mul_i1 (a b : Nat) (p q : Bool) (R : Int) (SG : Hid (∀ w, Calls Try.prog 65 #[.int .u64 9218868437227405312, .bool (!(p == q))] w fun e w' => e = .returned (.int .u64 R) ∧ w = w')) (G1 : Hid (PB 61 a p)) (G2 : Hid (PB 61 b q)) (N1 : Hid (PB 62 a false)) (N2 : Hid (PB 62 b false)) (I1 : Hid (PB 63 a true)) (Z2 : Hid (PB 64 b false)) (Z1 : Hid (PB 64 a false)) (w : World) : Calls Try.prog 31 #[.int .u64 a, .int .u64 b] w fun e w' => e = .returned (.int .u64 (R)) ∧ Below w.heap.size w w' := by
  go_enter Try.func31, Try.ntmps31
  go_wp2_with (first
    | (go_at_call 61; (with_reducible refine (G1.out _).mono ?_); rintro e1 w1 ⟨rfl, rfl⟩)
    | (go_at_call 61; (with_reducible refine (G2.out _).mono ?_); rintro e1 w1 ⟨rfl, rfl⟩)
    | (go_at_call 62; (with_reducible refine (N1.out _).mono ?_); rintro e1 w1 ⟨rfl, rfl⟩)
    | (go_at_call 62; (with_reducible refine (N2.out _).mono ?_); rintro e1 w1 ⟨rfl, rfl⟩)
    | (go_at_call 63; (with_reducible refine (I1.out _).mono ?_); rintro e1 w1 ⟨rfl, rfl⟩)
    | (go_at_call 64; (with_reducible refine (Z2.out _).mono ?_); rintro e1 w1 ⟨rfl, rfl⟩)
    | (go_at_call 64; (with_reducible refine (Z1.out _).mono ?_); rintro e1 w1 ⟨rfl, rfl⟩)
    | (go_at_call 65; (with_reducible refine (SG.out _).mono ?_); rintro e1 w1 ⟨rfl, rfl⟩))
  go_ret
  exact ⟨rfl, Below.refl _ _⟩
set_option maxHeartbeats 1000000 in
theorem mul_i2 (a b : Nat) (p q : Bool) (R : Int) (SG : Hid (∀ w, Calls Try.prog 65 #[.int .u64 9218868437227405312, .bool (!(p == q))] w fun e w' => e = .returned (.int .u64 R) ∧ w = w')) (G1 : Hid (PB 61 a p)) (G2 : Hid (PB 61 b q)) (N1 : Hid (PB 62 a false)) (N2 : Hid (PB 62 b false)) (I1 : Hid (PB 63 a false)) (Z1 : Hid (PB 64 a false)) (I2 : Hid (PB 63 b true)) (w : World) : Calls Try.prog 31 #[.int .u64 a, .int .u64 b] w fun e w' => e = .returned (.int .u64 (R)) ∧ Below w.heap.size w w' := by
  go_enter Try.func31, Try.ntmps31
  go_wp2_with (first
    | (go_at_call 61; (with_reducible refine (G1.out _).mono ?_); rintro e1 w1 ⟨rfl, rfl⟩)
    | (go_at_call 61; (with_reducible refine (G2.out _).mono ?_); rintro e1 w1 ⟨rfl, rfl⟩)
    | (go_at_call 62; (with_reducible refine (N1.out _).mono ?_); rintro e1 w1 ⟨rfl, rfl⟩)
    | (go_at_call 62; (with_reducible refine (N2.out _).mono ?_); rintro e1 w1 ⟨rfl, rfl⟩)
    | (go_at_call 63; (with_reducible refine (I1.out _).mono ?_); rintro e1 w1 ⟨rfl, rfl⟩)
    | (go_at_call 64; (with_reducible refine (Z1.out _).mono ?_); rintro e1 w1 ⟨rfl, rfl⟩)
    | (go_at_call 63; (with_reducible refine (I2.out _).mono ?_); rintro e1 w1 ⟨rfl, rfl⟩)
    | (go_at_call 65; (with_reducible refine (SG.out _).mono ?_); rintro e1 w1 ⟨rfl, rfl⟩))
  go_ret
  exact ⟨rfl, Below.refl _ _⟩
set_option maxHeartbeats 1000000 in
theorem mul_f0 (a b : Nat) (p q : Bool) (ma ea mb eb h l R : Int) (HSA : Hid (PSplit a p ma ea)) (HSB : Hid (PSplit b q mb eb)) (ba : -1074 ≤ ea ∧ ea ≤ 971) (bb : -1074 ≤ eb ∧ eb ≤ 971) (HM : Hid (∀ w, Calls Try.prog 89 #[.int .u64 ma, .int .u64 mb] w fun e w' => e = .returned (.tuple #[.int .u64 h, .int .u64 l]) ∧ w = w')) (HPK : Hid (PPack (!(p == q)) h l (ea + eb) false R)) (G1 : Hid (PB 61 a p)) (G2 : Hid (PB 61 b q)) (N1 : Hid (PB 62 a false)) (N2 : Hid (PB 62 b false)) (I1 : Hid (PB 63 a false)) (I2 : Hid (PB 63 b false)) (Z1 : Hid (PB 64 a false)) (w : World) : Calls Try.prog 31 #[.int .u64 a, .int .u64 b] w fun e w' => e = .returned (.int .u64 (R)) ∧ Below w.heap.size w w' := by
  go_enter Try.func31, Try.ntmps31
  go_wp2_with (first
    | (go_at_call 61; (with_reducible refine (G1.out _).mono ?_); rintro e1 w1 ⟨rfl, rfl⟩)
    | (go_at_call 61; (with_reducible refine (G2.out _).mono ?_); rintro e1 w1 ⟨rfl, rfl⟩)
    | (go_at_call 62; (with_reducible refine (N1.out _).mono ?_); rintro e1 w1 ⟨rfl, rfl⟩)
    | (go_at_call 62; (with_reducible refine (N2.out _).mono ?_); rintro e1 w1 ⟨rfl, rfl⟩)
    | (go_at_call 63; (with_reducible refine (I1.out _).mono ?_); rintro e1 w1 ⟨rfl, rfl⟩)
    | (go_at_call 63; (with_reducible refine (I2.out _).mono ?_); rintro e1 w1 ⟨rfl, rfl⟩)
    | (go_at_call 64; (with_reducible refine (Z1.out _).mono ?_); rintro e1 w1 ⟨rfl, rfl⟩)
    | (go_at_call 67; (with_reducible refine (HSA.out _).mono ?_); rintro e1 w1 ⟨rfl, hb1⟩)
    | (go_at_call 67; (with_reducible refine (HSB.out _).mono ?_); rintro e2 w2 ⟨rfl, hb2⟩)
    | (go_at_call 89; (with_reducible refine (HM.out _).mono ?_); rintro e3 w3 ⟨rfl, rfl⟩)
    | (go_at_call 69; (with_reducible refine (HPK.out _).mono ?_); rintro e4 w4 ⟨rfl, hb4⟩))
  go_ret
  exact ⟨rfl, mul_fine hb1 hb2 hb4⟩
set_option maxHeartbeats 1000000 in
theorem mul_f1 (a b : Nat) (p q : Bool) (ma ea mb eb h l R : Int) (HSA : Hid (PSplit a p ma ea)) (HSB : Hid (PSplit b q mb eb)) (ba : -1074 ≤ ea ∧ ea ≤ 971) (bb : -1074 ≤ eb ∧ eb ≤ 971) (HM : Hid (∀ w, Calls Try.prog 89 #[.int .u64 ma, .int .u64 mb] w fun e w' => e = .returned (.tuple #[.int .u64 h, .int .u64 l]) ∧ w = w')) (HPK : Hid (PPack (!(p == q)) h l (ea + eb) false R)) (G1 : Hid (PB 61 a p)) (G2 : Hid (PB 61 b q)) (N1 : Hid (PB 62 a false)) (N2 : Hid (PB 62 b false)) (I1 : Hid (PB 63 a false)) (I2 : Hid (PB 63 b false)) (Z1 : Hid (PB 64 a true)) (w : World) : Calls Try.prog 31 #[.int .u64 a, .int .u64 b] w fun e w' => e = .returned (.int .u64 (R)) ∧ Below w.heap.size w w' := by
  go_enter Try.func31, Try.ntmps31
  go_wp2_with (first
    | (go_at_call 61; (with_reducible refine (G1.out _).mono ?_); rintro e1 w1 ⟨rfl, rfl⟩)
    | (go_at_call 61; (with_reducible refine (G2.out _).mono ?_); rintro e1 w1 ⟨rfl, rfl⟩)
    | (go_at_call 62; (with_reducible refine (N1.out _).mono ?_); rintro e1 w1 ⟨rfl, rfl⟩)
    | (go_at_call 62; (with_reducible refine (N2.out _).mono ?_); rintro e1 w1 ⟨rfl, rfl⟩)
    | (go_at_call 63; (with_reducible refine (I1.out _).mono ?_); rintro e1 w1 ⟨rfl, rfl⟩)
    | (go_at_call 63; (with_reducible refine (I2.out _).mono ?_); rintro e1 w1 ⟨rfl, rfl⟩)
    | (go_at_call 64; (with_reducible refine (Z1.out _).mono ?_); rintro e1 w1 ⟨rfl, rfl⟩)
    | (go_at_call 67; (with_reducible refine (HSA.out _).mono ?_); rintro e1 w1 ⟨rfl, hb1⟩)
    | (go_at_call 67; (with_reducible refine (HSB.out _).mono ?_); rintro e2 w2 ⟨rfl, hb2⟩)
    | (go_at_call 89; (with_reducible refine (HM.out _).mono ?_); rintro e3 w3 ⟨rfl, rfl⟩)
    | (go_at_call 69; (with_reducible refine (HPK.out _).mono ?_); rintro e4 w4 ⟨rfl, hb4⟩))
  go_ret
  exact ⟨rfl, mul_fine hb1 hb2 hb4⟩
theorem inf_zer {a : Nat} (h : inf a = true) : zer a = false := by unfold inf at h; unfold zer; simp at h ⊢; omega
theorem two_div (n : Nat) : two (n / 18446744073709551616) (n % 18446744073709551616) = n := by unfold two; omega
theorem mul_c (a b : Nat) (ha : W a) (hb : W b) (w : World) : Calls Try.prog 31 #[.int .u64 a, .int .u64 b] w fun e w' => e = .returned (.int .u64 ((mulV a b : Nat) : Int)) ∧ Below w.heap.size w w' := by
  have N1 := Lib.hid (isnan_c a ha)
  have N2 := Lib.hid (isnan_c b hb)
  have I1 := Lib.hid (isinf_c a ha)
  have I2 := Lib.hid (isinf_c b hb)
  have Z1 := Lib.hid (iszero_c a ha)
  have Z2 := Lib.hid (iszero_c b hb)
  have G1 := Lib.hid (isneg_c a ha)
  have G2 := Lib.hid (isneg_c b hb)
  have SG := Lib.hid (sign_c 9218868437227405312 (ng a != ng b) (by decide))
  by_cases n1 : nan a = true
  · rw [show mulV a b = NaN by simp [mulV, n1]]; rw [n1] at N1; exact mul_n1 a b _ _ G1 G2 N1 w
  have n1 := Bool.eq_false_iff.2 n1; rw [n1] at N1
  by_cases n2 : nan b = true
  · rw [show mulV a b = NaN by simp [mulV, n1, n2]]; rw [n2] at N2; exact mul_n2 a b _ _ G1 G2 N1 N2 w
  have n2 := Bool.eq_false_iff.2 n2; rw [n2] at N2
  by_cases i1 : inf a = true
  · have z1 := inf_zer i1
    rw [i1] at I1; rw [z1] at Z1
    by_cases z2 : zer b = true
    · rw [show mulV a b = NaN by simp [mulV, n1, n2, i1, z2]]; rw [z2] at Z2; exact mul_iz a b _ _ G1 G2 N1 N2 I1 Z2 w
    · have z2 := Bool.eq_false_iff.2 z2; rw [z2] at Z2
      rw [show mulV a b = sg (ng a != ng b) Inf by simp [mulV, n1, n2, i1, z1, z2]]
      exact mul_i1 a b _ _ _ SG G1 G2 N1 N2 I1 Z2 Z1 w
  have i1 := Bool.eq_false_iff.2 i1; rw [i1] at I1
  by_cases i2 : inf b = true
  · rw [i2] at I2
    by_cases z1 : zer a = true
    · rw [show mulV a b = NaN by simp [mulV, n1, n2, i1, i2, z1]]; rw [z1] at Z1; exact mul_zi a b _ _ G1 G2 N1 N2 I1 Z1 I2 w
    · have z1 := Bool.eq_false_iff.2 z1; rw [z1] at Z1
      rw [show mulV a b = sg (ng a != ng b) Inf by simp [mulV, n1, n2, i1, i2, z1]]
      exact mul_i2 a b _ _ _ SG G1 G2 N1 N2 I1 Z1 I2 w
  have i2 := Bool.eq_false_iff.2 i2; rw [i2] at I2
  have ba : -1074 ≤ se a ∧ se a ≤ 971 := ⟨se_ge a, se_le n1 i1⟩
  have bb : -1074 ≤ se b ∧ se b ≤ 971 := ⟨se_ge b, se_le n2 i2⟩
  have HSA := Lib.hid (split_c a ha)
  have HSB := Lib.hid (split_c b hb)
  have la := sm_lt a
  have lb := sm_lt b
  have HM := Lib.hid (mul64_c (sm a) (sm b) (W_of (by omega)) (W_of (by omega)))
  have mlt : sm a * sm b < 9007199254740992 * 9007199254740992 := by
    calc sm a * sm b ≤ sm a * 9007199254740992 := Nat.mul_le_mul_left _ (Nat.le_of_lt lb)
      _ < 9007199254740992 * 9007199254740992 := Nat.mul_lt_mul_of_pos_right la (by decide)
  have HPK := Lib.hid (pack_c (ng a != ng b) (sm a * sm b / 18446744073709551616) (sm a * sm b % 18446744073709551616) (se a + se b) false (W_of (by omega)) (W_of (Nat.mod_lt _ (by decide))))
  rw [two_div] at HPK
  rw [show mulV a b = mulF a b by simp [mulV, n1, n2, i1, i2]]
  obtain ⟨z, hz⟩ : ∃ z, zer a = z := ⟨_, rfl⟩
  rw [hz] at Z1
  cases z
  · exact mul_f0 a b _ _ _ _ _ _ _ _ _ HSA HSB ba bb HM HPK G1 G2 N1 N2 I1 I2 Z1 w
  · exact mul_f1 a b _ _ _ _ _ _ _ _ _ HSA HSB ba bb HM HPK G1 G2 N1 N2 I1 I2 Z1 w
/-- A number with all its digits. -/
theorem full_c (n : Bool) (m i : Nat) (e : Int) (h0 : m ≠ 0) (hi : bl m + i = 53) (he : -1074 ≤ e ∧ e ≤ 971) (w : World) : Calls Try.prog 66 #[num n m e] w fun e' w' => e' = .returned (num n (m * 2 ^ i) (e - i)) ∧ Below w.heap.size w w' := by
  have b1 := bl_pos h0
  have lt := bl_lt m
  have hm : m < 18446744073709551616 := Nat.lt_of_lt_of_le lt (by
    calc 2 ^ bl m ≤ 2 ^ 64 := Nat.pow_le_pow_right (by decide) (by omega)
      _ = 18446744073709551616 := by decide)
  have hmi : m * 2 ^ i < 9007199254740992 := by
    calc m * 2 ^ i < 2 ^ bl m * 2 ^ i := Nat.mul_lt_mul_of_pos_right lt (pow_pos i)
      _ = 9007199254740992 := by rw [← Nat.pow_add, hi]
  have L : ∀ w, Calls Try.prog 107 #[.int .u64 (m : Int)] w fun e w' => e = .returned (.int .i64 ((i : Int) + 11)) ∧ w = w' := fun w =>
    (Try.bits_LeadingZeros64 (m : Int) w (by omega) (by omega)).mono fun _ _ ⟨h1, h2⟩ => ⟨by rw [h1, Int.toNat_natCast, bitLen_bl hm]; exact retI (by omega), h2.symm⟩
  have HL := Lib.hid L
  have w1 : IntKind.u64.wrap ((m : Int) * 2 ^ i) = ((m * 2 ^ i : Nat) : Int) := by
    have e1 : ((m : Int) * 2 ^ i) = ((m * 2 ^ i : Nat) : Int) := by rw [Int.natCast_mul, Int.natCast_pow]; rfl
    rw [IntKind.wrap_u64, e1]; omega
  have i1 : i ≤ 53 := by omega
  have W1 := Lib.hid w1
  clear L hm lt w1 hi
  unfold num
  go_enter Try.func66, Try.ntmps66
  go_wp2_with (first
    | (go_at_call 107; (with_reducible refine (HL.out _).mono ?_); rintro e1 w1 ⟨rfl, rfl⟩))
  rw [W1.out]
  exact bodyPost_ret (v := num n (m * 2 ^ i) (e - i)) (by simp [num, results, Try.results66, go_sem]) rfl ⟨rfl, ((Below.refl _ _).alloc (Nat.le_refl _) _).alloc (by simp) _⟩
end Go.Proofs.Ytecgkhijiogggaa
