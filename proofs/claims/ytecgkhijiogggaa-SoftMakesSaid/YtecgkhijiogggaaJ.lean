/- Sqrt. -/
import Derived.Test.YtecgkhijiogggaaI
namespace Go.Proofs.Ytecgkhijiogggaa
set_option linter.unusedVariables false
set_option linter.unusedSimpArgs false
open Go.RowKit Go.Shelf SF
theorem sqrt_fine {w w1 w2 w4 : World} {o1 : Obj} (h1 : Below w.heap.size w w1) (h2 : Below w1.heap.size w1 w2) (h5 : Below (w2.alloc o1).heap.size (w2.alloc o1) w4) : Below w.heap.size w w4 := by
  have a := below_then h1 h1.size h2
  have b := a.alloc a.size o1
  exact below_then b b.size h5
set_option maxHeartbeats 1000000 in
theorem sqrt_n1 (a : Nat) (N1 : Hid (PB 62 a true)) (w : World) : Calls Try.prog 21 #[.int .u64 a] w fun e w' => e = .returned (.int .u64 (9221120237041090560)) ∧ Below w.heap.size w w' := by
  go_enter Try.func21, Try.ntmps21
  go_wp2_with (first
    | (go_at_call 62; (with_reducible refine (N1.out _).mono ?_); rintro e1 w1 ⟨rfl, rfl⟩))
  go_ret
  exact ⟨rfl, Below.refl _ _⟩
set_option maxHeartbeats 1000000 in
theorem sqrt_z1 (a : Nat) (N1 : Hid (PB 62 a false)) (Z1 : Hid (PB 64 a true)) (w : World) : Calls Try.prog 21 #[.int .u64 a] w fun e w' => e = .returned (.int .u64 ((a : Int))) ∧ Below w.heap.size w w' := by
  go_enter Try.func21, Try.ntmps21
  go_wp2_with (first
    | (go_at_call 62; (with_reducible refine (N1.out _).mono ?_); rintro e1 w1 ⟨rfl, rfl⟩)
    | (go_at_call 64; (with_reducible refine (Z1.out _).mono ?_); rintro e1 w1 ⟨rfl, rfl⟩))
  go_ret
  exact ⟨rfl, Below.refl _ _⟩
set_option maxHeartbeats 1000000 in
theorem sqrt_g1 (a : Nat) (N1 : Hid (PB 62 a false)) (Z1 : Hid (PB 64 a false)) (G1 : Hid (PB 61 a true)) (w : World) : Calls Try.prog 21 #[.int .u64 a] w fun e w' => e = .returned (.int .u64 (9221120237041090560)) ∧ Below w.heap.size w w' := by
  go_enter Try.func21, Try.ntmps21
  go_wp2_with (first
    | (go_at_call 62; (with_reducible refine (N1.out _).mono ?_); rintro e1 w1 ⟨rfl, rfl⟩)
    | (go_at_call 64; (with_reducible refine (Z1.out _).mono ?_); rintro e1 w1 ⟨rfl, rfl⟩)
    | (go_at_call 61; (with_reducible refine (G1.out _).mono ?_); rintro e1 w1 ⟨rfl, rfl⟩))
  go_ret
  exact ⟨rfl, Below.refl _ _⟩
set_option maxHeartbeats 1000000 in
theorem sqrt_i1 (a : Nat) (N1 : Hid (PB 62 a false)) (Z1 : Hid (PB 64 a false)) (G1 : Hid (PB 61 a false)) (I1 : Hid (PB 63 a true)) (w : World) : Calls Try.prog 21 #[.int .u64 a] w fun e w' => e = .returned (.int .u64 ((a : Int))) ∧ Below w.heap.size w w' := by
  go_enter Try.func21, Try.ntmps21
  go_wp2_with (first
    | (go_at_call 62; (with_reducible refine (N1.out _).mono ?_); rintro e1 w1 ⟨rfl, rfl⟩)
    | (go_at_call 64; (with_reducible refine (Z1.out _).mono ?_); rintro e1 w1 ⟨rfl, rfl⟩)
    | (go_at_call 61; (with_reducible refine (G1.out _).mono ?_); rintro e1 w1 ⟨rfl, rfl⟩)
    | (go_at_call 63; (with_reducible refine (I1.out _).mono ?_); rintro e1 w1 ⟨rfl, rfl⟩))
  go_ret
  exact ⟨rfl, Below.refl _ _⟩
set_option maxHeartbeats 1000000 in
theorem sqrt_f0 (a : Nat) (ma0 ea0 ma ea s Q R : Int) (z : Bool) (HSA : Hid (PSplit a false ma0 ea0)) (HFA : Hid (PFull false ma0 ea0 ma ea)) (ba : -2000 ≤ ea ∧ ea ≤ 2000) (bm : 0 ≤ ma ∧ ma < 9007199254740992) (BIT : bits .and .i64 ea 1 = 0) (HR : Hid (∀ w, Calls Try.prog 76 #[.int .u64 (ma / 4), .int .u64 (IntKind.u64.wrap (ma * 4611686018427387904))] w fun e w' => e = .returned (.tuple #[.int .u64 s, .bool z]) ∧ w = w')) (hQ : (ea - 62).tdiv 2 = Q) (bQ : -3000 ≤ Q ∧ Q ≤ 3000) (HPK : Hid (PPack false 0 s Q z R)) (N1 : Hid (PB 62 a false)) (Z1 : Hid (PB 64 a false)) (G1 : Hid (PB 61 a false)) (I1 : Hid (PB 63 a false)) (w : World) : Calls Try.prog 21 #[.int .u64 a] w fun e w' => e = .returned (.int .u64 (R)) ∧ Below w.heap.size w w' := by
  go_enter Try.func21, Try.ntmps21
  go_wp2_with (first
    | (go_at_call 62; (with_reducible refine (N1.out _).mono ?_); rintro e1 w1 ⟨rfl, rfl⟩)
    | (go_at_call 64; (with_reducible refine (Z1.out _).mono ?_); rintro e1 w1 ⟨rfl, rfl⟩)
    | (go_at_call 61; (with_reducible refine (G1.out _).mono ?_); rintro e1 w1 ⟨rfl, rfl⟩)
    | (go_at_call 63; (with_reducible refine (I1.out _).mono ?_); rintro e1 w1 ⟨rfl, rfl⟩)
    | (go_at_call 67; (with_reducible refine (HSA.out _).mono ?_); rintro e1 w1 ⟨rfl, hb1⟩)
    | (go_at_call 66; (with_reducible refine (HFA.out _).mono ?_); rintro e2 w2 ⟨rfl, hb2⟩)
    | (go_at_call 76; (with_reducible refine (HR.out _).mono ?_); rintro e5 w5 ⟨rfl, rfl⟩)
    | (go_at_call 69; (with_reducible refine (HPK.out _).mono ?_); rintro e6 w6 ⟨rfl, hb6⟩))
  go_ret
  exact ⟨rfl, sqrt_fine hb1 hb2 hb6⟩
set_option maxHeartbeats 1000000 in
theorem sqrt_f1 (a : Nat) (ma0 ea0 ma ea s Q R : Int) (z : Bool) (HSA : Hid (PSplit a false ma0 ea0)) (HFA : Hid (PFull false ma0 ea0 ma ea)) (ba : -2000 ≤ ea ∧ ea ≤ 2000) (bm : 0 ≤ ma ∧ ma < 9007199254740992) (BIT : bits .and .i64 ea 1 = 1) (HR : Hid (∀ w, Calls Try.prog 76 #[.int .u64 ((ma * 2) / 4), .int .u64 (IntKind.u64.wrap ((ma * 2) * 4611686018427387904))] w fun e w' => e = .returned (.tuple #[.int .u64 s, .bool z]) ∧ w = w')) (hQ : (ea - 1 - 62).tdiv 2 = Q) (bQ : -3000 ≤ Q ∧ Q ≤ 3000) (HPK : Hid (PPack false 0 s Q z R)) (N1 : Hid (PB 62 a false)) (Z1 : Hid (PB 64 a false)) (G1 : Hid (PB 61 a false)) (I1 : Hid (PB 63 a false)) (w : World) : Calls Try.prog 21 #[.int .u64 a] w fun e w' => e = .returned (.int .u64 (R)) ∧ Below w.heap.size w w' := by
  go_enter Try.func21, Try.ntmps21
  go_wp2_with (first
    | (go_at_call 62; (with_reducible refine (N1.out _).mono ?_); rintro e1 w1 ⟨rfl, rfl⟩)
    | (go_at_call 64; (with_reducible refine (Z1.out _).mono ?_); rintro e1 w1 ⟨rfl, rfl⟩)
    | (go_at_call 61; (with_reducible refine (G1.out _).mono ?_); rintro e1 w1 ⟨rfl, rfl⟩)
    | (go_at_call 63; (with_reducible refine (I1.out _).mono ?_); rintro e1 w1 ⟨rfl, rfl⟩)
    | (go_at_call 67; (with_reducible refine (HSA.out _).mono ?_); rintro e1 w1 ⟨rfl, hb1⟩)
    | (go_at_call 66; (with_reducible refine (HFA.out _).mono ?_); rintro e2 w2 ⟨rfl, hb2⟩)
    | (go_at_call 76; (with_reducible refine (HR.out _).mono ?_); rintro e5 w5 ⟨rfl, rfl⟩)
    | (go_at_call 69; (with_reducible refine (HPK.out _).mono ?_); rintro e6 w6 ⟨rfl, hb6⟩))
  go_ret
  exact ⟨rfl, sqrt_fine hb1 hb2 hb6⟩
theorem sg_false (p : Nat) : sg false p = p := rfl
theorem tdiv_two {x : Int} (h : x % 2 = 0) : x.tdiv 2 = x / 2 := Int.tdiv_eq_ediv_of_dvd (Int.dvd_of_emod_eq_zero h)
theorem sqrt_key (a i δ : Nat) (la : sm a < 9007199254740992) (h0 : sm a ≠ 0) (hi : bl (sm a) + i = 53) (x1 : sm a * 2 ^ i < 9007199254740992) (hd : δ = 0 ∨ δ = 1) (he : (se a - i - δ) % 2 = 0) : ∃ (s : Nat) (z : Bool), W s ∧ (∀ w, Calls Try.prog 76 #[.int .u64 (((sm a * 2 ^ i * 2 ^ δ / 4 : Nat)) : Int), .int .u64 ((sm a * 2 ^ i * 2 ^ δ * 4611686018427387904 % 18446744073709551616 : Nat) : Int)] w fun e w' => e = .returned (.tuple #[.int .u64 s, .bool z]) ∧ w = w') ∧ pat s ((se a - i - δ - 62) / 2) z = sqrtF a := by
  have x2 : sm a * 2 ^ i * 2 ^ δ < 18014398509481984 := by
    rcases hd with rfl | rfl
    · rw [Nat.pow_zero]; omega
    · rw [Nat.pow_one]; omega
  have e62 : (2 : Nat) ^ 62 = 4611686018427387904 := by decide
  have ep : sm a * 2 ^ (i + δ + 62) = sm a * 2 ^ i * 2 ^ δ * 4611686018427387904 := by rw [Nat.pow_add, Nat.pow_add, e62]; simp only [Nat.mul_assoc]
  have P := fun s hs => sqrt_prog (a := a) i δ s h0 hi hd he hs
  rw [ep] at P
  obtain ⟨x, hx⟩ : ∃ x, sm a * 2 ^ i * 2 ^ δ = x := ⟨_, rfl⟩
  rw [hx] at P x2 ⊢
  have tt : two (x / 4) (x * 4611686018427387904 % 18446744073709551616) = x * 4611686018427387904 := by unfold two; omega
  have ml : x * 4611686018427387904 < 2 ^ 122 := by
    have e122 : (2 : Nat) ^ 122 = 1152921504606846976 * 4611686018427387904 := by decide
    rw [e122]
    exact Nat.mul_lt_mul_of_pos_right (by omega) (by decide)
  have IR := rootL_is (x * 4611686018427387904) 61 0 (Nat.zero_le _) (by rw [Nat.zero_add, ← Nat.pow_add]; exact ml)
  obtain ⟨R, hR⟩ : ∃ R, rootL (x * 4611686018427387904) 61 0 = R := ⟨_, rfl⟩
  rw [hR] at IR
  have RW : W R := by
    rcases Nat.lt_or_ge R 18446744073709551616 with c | c
    · exact c
    · exfalso
      have h1 := IR.1
      have h2 : 18446744073709551616 * 18446744073709551616 ≤ R * R := Nat.mul_le_mul c c
      have h3 : 2 ^ 122 < 18446744073709551616 * 18446744073709551616 := by decide
      exact absurd (Nat.lt_of_lt_of_le h3 (Nat.le_trans h2 h1)) (Nat.not_lt.2 (Nat.le_of_lt ml))
  exact ⟨R, _, RW, root_c (x / 4) (x * 4611686018427387904 % 18446744073709551616) (W_of (by omega)) (W_of (Nat.mod_lt _ (by decide))) R (by rw [tt]; exact hR) _ rfl RW, by rw [tt]; exact P R IR⟩
theorem sqrt_c (a : Nat) (ha : W a) (w : World) : Calls Try.prog 21 #[.int .u64 a] w fun e w' => e = .returned (.int .u64 ((sqrtV a : Nat) : Int)) ∧ Below w.heap.size w w' := by
  have N1 := Lib.hid (isnan_c a ha)
  have I1 := Lib.hid (isinf_c a ha)
  have Z1 := Lib.hid (iszero_c a ha)
  have G1 := Lib.hid (isneg_c a ha)
  by_cases n1 : nan a = true
  · rw [show sqrtV a = NaN by simp [sqrtV, n1]]; rw [n1] at N1; exact sqrt_n1 a N1 w
  have n1 := Bool.eq_false_iff.2 n1; rw [n1] at N1
  by_cases z1 : zer a = true
  · rw [show sqrtV a = a by simp [sqrtV, n1, z1]]; rw [z1] at Z1; exact sqrt_z1 a N1 Z1 w
  have z1 := Bool.eq_false_iff.2 z1; rw [z1] at Z1
  by_cases g1 : ng a = true
  · rw [show sqrtV a = NaN by simp [sqrtV, n1, z1, g1]]; rw [g1] at G1; exact sqrt_g1 a N1 Z1 G1 w
  have g1 := Bool.eq_false_iff.2 g1; rw [g1] at G1
  by_cases i1 : inf a = true
  · rw [show sqrtV a = a by simp [sqrtV, n1, z1, g1, i1]]; rw [i1] at I1; exact sqrt_i1 a N1 Z1 G1 I1 w
  have i1 := Bool.eq_false_iff.2 i1; rw [i1] at I1
  rw [show sqrtV a = sqrtF a by simp [sqrtV, n1, z1, g1, i1]]
  have ba : -1074 ≤ se a ∧ se a ≤ 971 := ⟨se_ge a, se_le n1 i1⟩
  have HSA := Lib.hid (split_c a ha)
  rw [g1] at HSA
  have la := sm_lt a
  have h0 : sm a ≠ 0 := fun c => by rw [sm_zero.1 c] at z1; cases z1
  have e53 : (2 : Nat) ^ 53 = 9007199254740992 := by decide
  have ka : bl (sm a) ≤ 53 := bl_le_of_lt (by rw [e53]; exact la)
  obtain ⟨i, hi⟩ : ∃ i, bl (sm a) + i = 53 := ⟨53 - bl (sm a), by omega⟩
  have HFA := Lib.hid (full_c false (sm a) i (se a) h0 hi ba)
  have x1 : sm a * 2 ^ i < 9007199254740992 := by
    calc sm a * 2 ^ i < 2 ^ bl (sm a) * 2 ^ i := Nat.mul_lt_mul_of_pos_right (bl_lt _) (pow_pos i)
      _ = 9007199254740992 := by rw [← Nat.pow_add, hi]
  have key := fun δ hd he => sqrt_key a i δ la h0 hi x1 hd he
  have B := i64_and1 (se a - i)
  rcases Int.emod_two_eq (se a - i) with o | o
  · rw [o] at B
    obtain ⟨s, z, sW, HR, E⟩ := key 0 (.inl rfl) (by omega)
    rw [Nat.pow_zero, Nat.mul_one] at HR
    rw [show se a - i - (0 : Nat) - 62 = se a - i - 62 by omega] at E
    obtain ⟨x, hx⟩ : ∃ x, sm a * 2 ^ i = x := ⟨_, rfl⟩
    rw [hx] at HR HFA x1
    have HPK := Lib.hid (pack_c false 0 s ((se a - i - 62) / 2) z (W_of (by decide)) sW)
    rw [two_lo, E, sg_false] at HPK
    have hw : IntKind.u64.wrap ((x : Int) * 4611686018427387904) = ((x * 4611686018427387904 % 18446744073709551616 : Nat) : Int) := by rw [IntKind.wrap_u64]; omega
    exact sqrt_f0 a (sm a) (se a) x (se a - i) s ((se a - i - 62) / 2) _ z HSA HFA (by omega) (by omega) B (Lib.hid (by rw [hw, show ((x : Int) / 4) = ((x / 4 : Nat) : Int) by omega]; exact HR)) (tdiv_two (by omega)) (by omega) HPK N1 Z1 G1 I1 w
  · rw [o] at B
    obtain ⟨s, z, sW, HR, E⟩ := key 1 (.inr rfl) (by omega)
    rw [Nat.pow_one] at HR
    rw [show se a - i - (1 : Nat) - 62 = se a - i - 1 - 62 by omega] at E
    obtain ⟨x, hx⟩ : ∃ x, sm a * 2 ^ i = x := ⟨_, rfl⟩
    rw [hx] at HR HFA x1
    have HPK := Lib.hid (pack_c false 0 s ((se a - i - 1 - 62) / 2) z (W_of (by decide)) sW)
    rw [two_lo, E, sg_false] at HPK
    have hw : IntKind.u64.wrap ((x : Int) * 2 * 4611686018427387904) = ((x * 2 * 4611686018427387904 % 18446744073709551616 : Nat) : Int) := by rw [IntKind.wrap_u64]; omega
    exact sqrt_f1 a (sm a) (se a) x (se a - i) s ((se a - i - 1 - 62) / 2) _ z HSA HFA (by omega) (by omega) B (Lib.hid (by rw [hw, show ((x : Int) * 2 / 4) = ((x * 2 / 4 : Nat) : Int) by omega]; exact HR)) (tdiv_two (by omega)) (by omega) HPK N1 Z1 G1 I1 w
end Go.Proofs.Ytecgkhijiogggaa
