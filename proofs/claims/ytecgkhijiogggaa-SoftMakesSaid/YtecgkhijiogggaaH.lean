/- Div. -/
import Derived.Test.YtecgkhijiogggaaG
import Derived.Test.YtecgkhijiogggaaV
namespace Go.Proofs.Ytecgkhijiogggaa
set_option linter.unusedVariables false
set_option linter.unusedSimpArgs false
open Go.RowKit Go.Shelf SF
abbrev PFull (n : Bool) (m e m' e' : Int) : Prop := ∀ w, Calls Try.prog 66 #[.agg #[.bool n, .int .u64 m, .int .i64 e]] w fun x w' => x = .returned (.agg #[.bool n, .int .u64 m', .int .i64 e']) ∧ Below w.heap.size w w'
abbrev PSign (m : Int) (n : Bool) (R : Int) : Prop := ∀ w, Calls Try.prog 65 #[.int .u64 m, .bool n] w fun e w' => e = .returned (.int .u64 R) ∧ w = w'
theorem div_fine {w w1 w2 w3 w4 w5 w6 : World} {o1 o2 : Obj} (h1 : Below w.heap.size w w1) (h2 : Below w1.heap.size w1 w2) (h3 : Below w2.heap.size w2 w3) (h4 : Below w3.heap.size w3 w4) (h5 : Below ((w4.alloc o1).alloc o2).heap.size ((w4.alloc o1).alloc o2) w5) (h6 : Below w5.heap.size w5 w6) : Below w.heap.size w w6 := by
  have a := below_then h1 h1.size h2
  have a := below_then a a.size h3
  have a := below_then a a.size h4
  have b := (a.alloc a.size o1).alloc (by have := a.size; simp; omega) o2
  have b := below_then b b.size h5
  exact below_then b b.size h6
set_option maxHeartbeats 1000000 in
theorem div_n1 (a b : Nat) (p q : Bool) (G1 : Hid (PB 61 a p)) (G2 : Hid (PB 61 b q)) (N1 : Hid (PB 62 a true)) (w : World) : Calls Try.prog 18 #[.int .u64 a, .int .u64 b] w fun e w' => e = .returned (.int .u64 (9221120237041090560)) ∧ Below w.heap.size w w' := by
  go_enter Try.func18, Try.ntmps18
  go_wp2_with (first
    | (go_at_call 61; (with_reducible refine (G1.out _).mono ?_); rintro e1 w1 ⟨rfl, rfl⟩)
    | (go_at_call 61; (with_reducible refine (G2.out _).mono ?_); rintro e1 w1 ⟨rfl, rfl⟩)
    | (go_at_call 62; (with_reducible refine (N1.out _).mono ?_); rintro e1 w1 ⟨rfl, rfl⟩))
  go_ret
  exact ⟨rfl, Below.refl _ _⟩
set_option maxHeartbeats 1000000 in
theorem div_n2 (a b : Nat) (p q : Bool) (G1 : Hid (PB 61 a p)) (G2 : Hid (PB 61 b q)) (N1 : Hid (PB 62 a false)) (N2 : Hid (PB 62 b true)) (w : World) : Calls Try.prog 18 #[.int .u64 a, .int .u64 b] w fun e w' => e = .returned (.int .u64 (9221120237041090560)) ∧ Below w.heap.size w w' := by
  go_enter Try.func18, Try.ntmps18
  go_wp2_with (first
    | (go_at_call 61; (with_reducible refine (G1.out _).mono ?_); rintro e1 w1 ⟨rfl, rfl⟩)
    | (go_at_call 61; (with_reducible refine (G2.out _).mono ?_); rintro e1 w1 ⟨rfl, rfl⟩)
    | (go_at_call 62; (with_reducible refine (N1.out _).mono ?_); rintro e1 w1 ⟨rfl, rfl⟩)
    | (go_at_call 62; (with_reducible refine (N2.out _).mono ?_); rintro e1 w1 ⟨rfl, rfl⟩))
  go_ret
  exact ⟨rfl, Below.refl _ _⟩
set_option maxHeartbeats 1000000 in
theorem div_ii (a b : Nat) (p q : Bool) (G1 : Hid (PB 61 a p)) (G2 : Hid (PB 61 b q)) (N1 : Hid (PB 62 a false)) (N2 : Hid (PB 62 b false)) (I1 : Hid (PB 63 a true)) (I2 : Hid (PB 63 b true)) (w : World) : Calls Try.prog 18 #[.int .u64 a, .int .u64 b] w fun e w' => e = .returned (.int .u64 (9221120237041090560)) ∧ Below w.heap.size w w' := by
  go_enter Try.func18, Try.ntmps18
  go_wp2_with (first
    | (go_at_call 61; (with_reducible refine (G1.out _).mono ?_); rintro e1 w1 ⟨rfl, rfl⟩)
    | (go_at_call 61; (with_reducible refine (G2.out _).mono ?_); rintro e1 w1 ⟨rfl, rfl⟩)
    | (go_at_call 62; (with_reducible refine (N1.out _).mono ?_); rintro e1 w1 ⟨rfl, rfl⟩)
    | (go_at_call 62; (with_reducible refine (N2.out _).mono ?_); rintro e1 w1 ⟨rfl, rfl⟩)
    | (go_at_call 63; (with_reducible refine (I1.out _).mono ?_); rintro e1 w1 ⟨rfl, rfl⟩)
    | (go_at_call 63; (with_reducible refine (I2.out _).mono ?_); rintro e1 w1 ⟨rfl, rfl⟩))
  go_ret
  exact ⟨rfl, Below.refl _ _⟩
set_option maxHeartbeats 1000000 in
theorem div_zz (a b : Nat) (p q : Bool) (G1 : Hid (PB 61 a p)) (G2 : Hid (PB 61 b q)) (N1 : Hid (PB 62 a false)) (N2 : Hid (PB 62 b false)) (I1 : Hid (PB 63 a false)) (Z1 : Hid (PB 64 a true)) (Z2 : Hid (PB 64 b true)) (w : World) : Calls Try.prog 18 #[.int .u64 a, .int .u64 b] w fun e w' => e = .returned (.int .u64 (9221120237041090560)) ∧ Below w.heap.size w w' := by
  go_enter Try.func18, Try.ntmps18
  go_wp2_with (first
    | (go_at_call 61; (with_reducible refine (G1.out _).mono ?_); rintro e1 w1 ⟨rfl, rfl⟩)
    | (go_at_call 61; (with_reducible refine (G2.out _).mono ?_); rintro e1 w1 ⟨rfl, rfl⟩)
    | (go_at_call 62; (with_reducible refine (N1.out _).mono ?_); rintro e1 w1 ⟨rfl, rfl⟩)
    | (go_at_call 62; (with_reducible refine (N2.out _).mono ?_); rintro e1 w1 ⟨rfl, rfl⟩)
    | (go_at_call 63; (with_reducible refine (I1.out _).mono ?_); rintro e1 w1 ⟨rfl, rfl⟩)
    | (go_at_call 64; (with_reducible refine (Z1.out _).mono ?_); rintro e1 w1 ⟨rfl, rfl⟩)
    | (go_at_call 64; (with_reducible refine (Z2.out _).mono ?_); rintro e1 w1 ⟨rfl, rfl⟩))
  go_ret
  exact ⟨rfl, Below.refl _ _⟩
set_option maxHeartbeats 1000000 in
theorem div_i1 (a b : Nat) (p q : Bool) (R : Int) (SG : Hid (PSign 9218868437227405312 (!(p == q)) R)) (G1 : Hid (PB 61 a p)) (G2 : Hid (PB 61 b q)) (N1 : Hid (PB 62 a false)) (N2 : Hid (PB 62 b false)) (I1 : Hid (PB 63 a true)) (I2 : Hid (PB 63 b false)) (Z1 : Hid (PB 64 a false)) (w : World) : Calls Try.prog 18 #[.int .u64 a, .int .u64 b] w fun e w' => e = .returned (.int .u64 (R)) ∧ Below w.heap.size w w' := by
  go_enter Try.func18, Try.ntmps18
  go_wp2_with (first
    | (go_at_call 61; (with_reducible refine (G1.out _).mono ?_); rintro e1 w1 ⟨rfl, rfl⟩)
    | (go_at_call 61; (with_reducible refine (G2.out _).mono ?_); rintro e1 w1 ⟨rfl, rfl⟩)
    | (go_at_call 62; (with_reducible refine (N1.out _).mono ?_); rintro e1 w1 ⟨rfl, rfl⟩)
    | (go_at_call 62; (with_reducible refine (N2.out _).mono ?_); rintro e1 w1 ⟨rfl, rfl⟩)
    | (go_at_call 63; (with_reducible refine (I1.out _).mono ?_); rintro e1 w1 ⟨rfl, rfl⟩)
    | (go_at_call 63; (with_reducible refine (I2.out _).mono ?_); rintro e1 w1 ⟨rfl, rfl⟩)
    | (go_at_call 64; (with_reducible refine (Z1.out _).mono ?_); rintro e1 w1 ⟨rfl, rfl⟩)
    | (go_at_call 65; (with_reducible refine (SG.out _).mono ?_); rintro e1 w1 ⟨rfl, rfl⟩))
  go_ret
  exact ⟨rfl, Below.refl _ _⟩
set_option maxHeartbeats 1000000 in
theorem div_z2 (a b : Nat) (p q : Bool) (R : Int) (SG : Hid (PSign 9218868437227405312 (!(p == q)) R)) (G1 : Hid (PB 61 a p)) (G2 : Hid (PB 61 b q)) (N1 : Hid (PB 62 a false)) (N2 : Hid (PB 62 b false)) (I1 : Hid (PB 63 a false)) (Z1 : Hid (PB 64 a false)) (Z2 : Hid (PB 64 b true)) (w : World) : Calls Try.prog 18 #[.int .u64 a, .int .u64 b] w fun e w' => e = .returned (.int .u64 (R)) ∧ Below w.heap.size w w' := by
  go_enter Try.func18, Try.ntmps18
  go_wp2_with (first
    | (go_at_call 61; (with_reducible refine (G1.out _).mono ?_); rintro e1 w1 ⟨rfl, rfl⟩)
    | (go_at_call 61; (with_reducible refine (G2.out _).mono ?_); rintro e1 w1 ⟨rfl, rfl⟩)
    | (go_at_call 62; (with_reducible refine (N1.out _).mono ?_); rintro e1 w1 ⟨rfl, rfl⟩)
    | (go_at_call 62; (with_reducible refine (N2.out _).mono ?_); rintro e1 w1 ⟨rfl, rfl⟩)
    | (go_at_call 63; (with_reducible refine (I1.out _).mono ?_); rintro e1 w1 ⟨rfl, rfl⟩)
    | (go_at_call 64; (with_reducible refine (Z1.out _).mono ?_); rintro e1 w1 ⟨rfl, rfl⟩)
    | (go_at_call 64; (with_reducible refine (Z2.out _).mono ?_); rintro e1 w1 ⟨rfl, rfl⟩)
    | (go_at_call 65; (with_reducible refine (SG.out _).mono ?_); rintro e1 w1 ⟨rfl, rfl⟩))
  go_ret
  exact ⟨rfl, Below.refl _ _⟩
set_option maxHeartbeats 1000000 in
theorem div_z1 (a b : Nat) (p q : Bool) (R : Int) (SG : Hid (PSign 0 (!(p == q)) R)) (G1 : Hid (PB 61 a p)) (G2 : Hid (PB 61 b q)) (N1 : Hid (PB 62 a false)) (N2 : Hid (PB 62 b false)) (I1 : Hid (PB 63 a false)) (Z1 : Hid (PB 64 a true)) (Z2 : Hid (PB 64 b false)) (I2 : Hid (PB 63 b false)) (w : World) : Calls Try.prog 18 #[.int .u64 a, .int .u64 b] w fun e w' => e = .returned (.int .u64 (R)) ∧ Below w.heap.size w w' := by
  go_enter Try.func18, Try.ntmps18
  go_wp2_with (first
    | (go_at_call 61; (with_reducible refine (G1.out _).mono ?_); rintro e1 w1 ⟨rfl, rfl⟩)
    | (go_at_call 61; (with_reducible refine (G2.out _).mono ?_); rintro e1 w1 ⟨rfl, rfl⟩)
    | (go_at_call 62; (with_reducible refine (N1.out _).mono ?_); rintro e1 w1 ⟨rfl, rfl⟩)
    | (go_at_call 62; (with_reducible refine (N2.out _).mono ?_); rintro e1 w1 ⟨rfl, rfl⟩)
    | (go_at_call 63; (with_reducible refine (I1.out _).mono ?_); rintro e1 w1 ⟨rfl, rfl⟩)
    | (go_at_call 64; (with_reducible refine (Z1.out _).mono ?_); rintro e1 w1 ⟨rfl, rfl⟩)
    | (go_at_call 64; (with_reducible refine (Z2.out _).mono ?_); rintro e1 w1 ⟨rfl, rfl⟩)
    | (go_at_call 63; (with_reducible refine (I2.out _).mono ?_); rintro e1 w1 ⟨rfl, rfl⟩)
    | (go_at_call 65; (with_reducible refine (SG.out _).mono ?_); rintro e1 w1 ⟨rfl, rfl⟩))
  go_ret
  exact ⟨rfl, Below.refl _ _⟩
set_option maxHeartbeats 1000000 in
theorem div_z1i2 (a b : Nat) (p q : Bool) (R : Int) (SG : Hid (PSign 0 (!(p == q)) R)) (G1 : Hid (PB 61 a p)) (G2 : Hid (PB 61 b q)) (N1 : Hid (PB 62 a false)) (N2 : Hid (PB 62 b false)) (I1 : Hid (PB 63 a false)) (Z1 : Hid (PB 64 a true)) (Z2 : Hid (PB 64 b false)) (I2 : Hid (PB 63 b true)) (w : World) : Calls Try.prog 18 #[.int .u64 a, .int .u64 b] w fun e w' => e = .returned (.int .u64 (R)) ∧ Below w.heap.size w w' := by
  go_enter Try.func18, Try.ntmps18
  go_wp2_with (first
    | (go_at_call 61; (with_reducible refine (G1.out _).mono ?_); rintro e1 w1 ⟨rfl, rfl⟩)
    | (go_at_call 61; (with_reducible refine (G2.out _).mono ?_); rintro e1 w1 ⟨rfl, rfl⟩)
    | (go_at_call 62; (with_reducible refine (N1.out _).mono ?_); rintro e1 w1 ⟨rfl, rfl⟩)
    | (go_at_call 62; (with_reducible refine (N2.out _).mono ?_); rintro e1 w1 ⟨rfl, rfl⟩)
    | (go_at_call 63; (with_reducible refine (I1.out _).mono ?_); rintro e1 w1 ⟨rfl, rfl⟩)
    | (go_at_call 64; (with_reducible refine (Z1.out _).mono ?_); rintro e1 w1 ⟨rfl, rfl⟩)
    | (go_at_call 64; (with_reducible refine (Z2.out _).mono ?_); rintro e1 w1 ⟨rfl, rfl⟩)
    | (go_at_call 63; (with_reducible refine (I2.out _).mono ?_); rintro e1 w1 ⟨rfl, rfl⟩)
    | (go_at_call 65; (with_reducible refine (SG.out _).mono ?_); rintro e1 w1 ⟨rfl, rfl⟩))
  go_ret
  exact ⟨rfl, Below.refl _ _⟩
set_option maxHeartbeats 1000000 in
theorem div_i2 (a b : Nat) (p q : Bool) (R : Int) (SG : Hid (PSign 0 (!(p == q)) R)) (G1 : Hid (PB 61 a p)) (G2 : Hid (PB 61 b q)) (N1 : Hid (PB 62 a false)) (N2 : Hid (PB 62 b false)) (I1 : Hid (PB 63 a false)) (Z1 : Hid (PB 64 a false)) (Z2 : Hid (PB 64 b false)) (I2 : Hid (PB 63 b true)) (w : World) : Calls Try.prog 18 #[.int .u64 a, .int .u64 b] w fun e w' => e = .returned (.int .u64 (R)) ∧ Below w.heap.size w w' := by
  go_enter Try.func18, Try.ntmps18
  go_wp2_with (first
    | (go_at_call 61; (with_reducible refine (G1.out _).mono ?_); rintro e1 w1 ⟨rfl, rfl⟩)
    | (go_at_call 61; (with_reducible refine (G2.out _).mono ?_); rintro e1 w1 ⟨rfl, rfl⟩)
    | (go_at_call 62; (with_reducible refine (N1.out _).mono ?_); rintro e1 w1 ⟨rfl, rfl⟩)
    | (go_at_call 62; (with_reducible refine (N2.out _).mono ?_); rintro e1 w1 ⟨rfl, rfl⟩)
    | (go_at_call 63; (with_reducible refine (I1.out _).mono ?_); rintro e1 w1 ⟨rfl, rfl⟩)
    | (go_at_call 64; (with_reducible refine (Z1.out _).mono ?_); rintro e1 w1 ⟨rfl, rfl⟩)
    | (go_at_call 64; (with_reducible refine (Z2.out _).mono ?_); rintro e1 w1 ⟨rfl, rfl⟩)
    | (go_at_call 63; (with_reducible refine (I2.out _).mono ?_); rintro e1 w1 ⟨rfl, rfl⟩)
    | (go_at_call 65; (with_reducible refine (SG.out _).mono ?_); rintro e1 w1 ⟨rfl, rfl⟩))
  go_ret
  exact ⟨rfl, Below.refl _ _⟩
set_option maxHeartbeats 1000000 in
theorem div_fin (a b : Nat) (p q : Bool) (ma0 ea0 mb0 eb0 ma ea mb eb qq rr R : Int) (HSA : Hid (PSplit a p ma0 ea0)) (HSB : Hid (PSplit b q mb0 eb0)) (HFA : Hid (PFull p ma0 ea0 ma ea)) (HFB : Hid (PFull q mb0 eb0 mb eb)) (ba : -2000 ≤ ea ∧ ea ≤ 2000) (bb : -2000 ≤ eb ∧ eb ≤ 2000) (ma0' : 0 ≤ ma ∧ ma < 18446744073709551616) (HD : Hid (∀ w, Calls Try.prog 68 #[.int .u64 (ma / 2), .int .u64 (IntKind.u64.wrap (ma * 9223372036854775808)), .int .u64 mb] w fun e w' => e = .returned (.tuple #[.int .u64 qq, .int .u64 rr]) ∧ Below w.heap.size w w')) (z : Bool) (hz : (rr != 0) = z) (HPK : Hid (PPack (!(p == q)) 0 qq (ea - eb - 63) z R)) (G1 : Hid (PB 61 a p)) (G2 : Hid (PB 61 b q)) (N1 : Hid (PB 62 a false)) (N2 : Hid (PB 62 b false)) (I1 : Hid (PB 63 a false)) (Z1 : Hid (PB 64 a false)) (Z2 : Hid (PB 64 b false)) (I2 : Hid (PB 63 b false)) (w : World) : Calls Try.prog 18 #[.int .u64 a, .int .u64 b] w fun e w' => e = .returned (.int .u64 (R)) ∧ Below w.heap.size w w' := by
  go_enter Try.func18, Try.ntmps18
  go_wp2_with (first
    | (go_at_call 61; (with_reducible refine (G1.out _).mono ?_); rintro e1 w1 ⟨rfl, rfl⟩)
    | (go_at_call 61; (with_reducible refine (G2.out _).mono ?_); rintro e1 w1 ⟨rfl, rfl⟩)
    | (go_at_call 62; (with_reducible refine (N1.out _).mono ?_); rintro e1 w1 ⟨rfl, rfl⟩)
    | (go_at_call 62; (with_reducible refine (N2.out _).mono ?_); rintro e1 w1 ⟨rfl, rfl⟩)
    | (go_at_call 63; (with_reducible refine (I1.out _).mono ?_); rintro e1 w1 ⟨rfl, rfl⟩)
    | (go_at_call 64; (with_reducible refine (Z1.out _).mono ?_); rintro e1 w1 ⟨rfl, rfl⟩)
    | (go_at_call 64; (with_reducible refine (Z2.out _).mono ?_); rintro e1 w1 ⟨rfl, rfl⟩)
    | (go_at_call 63; (with_reducible refine (I2.out _).mono ?_); rintro e1 w1 ⟨rfl, rfl⟩)
    | (go_at_call 67; (with_reducible refine (HSA.out _).mono ?_); rintro e1 w1 ⟨rfl, hb1⟩)
    | (go_at_call 66; (with_reducible refine (HFA.out _).mono ?_); rintro e2 w2 ⟨rfl, hb2⟩)
    | (go_at_call 67; (with_reducible refine (HSB.out _).mono ?_); rintro e3 w3 ⟨rfl, hb3⟩)
    | (go_at_call 66; (with_reducible refine (HFB.out _).mono ?_); rintro e4 w4 ⟨rfl, hb4⟩)
    | (go_at_call 68; (with_reducible refine (HD.out _).mono ?_); rintro e5 w5 ⟨rfl, hb5⟩; obtain ⟨⟨k0, k1, k2⟩, ⟨k3, k4, k5⟩⟩ := two_cells hb5)
    | (go_at_call 69; (with_reducible refine (HPK.out _).mono ?_); rintro e6 w6 ⟨rfl, hb6⟩))
  go_ret
  exact ⟨rfl, div_fine hb1 hb2 hb3 hb4 hb5 hb6⟩
theorem two_lo (n : Nat) : two 0 n = n := by unfold two; omega
theorem div64_c (hi lo y : Nat) (h1 : hi < y) (hl : W lo) (hy : W y) (w : World) : Calls Try.prog 68 #[.int .u64 hi, .int .u64 lo, .int .u64 y] w fun e w' => e = .returned (.tuple #[.int .u64 ((two hi lo / y : Nat) : Int), .int .u64 ((two hi lo % y : Nat) : Int)]) ∧ Below w.heap.size w w' := by
  unfold W at hl hy
  refine (DV.div64 hi lo y w (by omega) (by omega) ⟨by omega, by omega⟩ ⟨by omega, by omega⟩).mono ?_
  rintro e w' ⟨he, n, hn⟩
  subst hn
  refine ⟨?_, below_drewN (Below.refl _ _) _⟩
  rw [he]
  exact DV.ret2 (by unfold two; rw [Int.natCast_ediv, Int.natCast_add, Int.natCast_mul]; rfl) (by unfold two; rw [Int.natCast_emod, Int.natCast_add, Int.natCast_mul]; rfl)
theorem div_c (a b : Nat) (ha : W a) (hb : W b) (w : World) : Calls Try.prog 18 #[.int .u64 a, .int .u64 b] w fun e w' => e = .returned (.int .u64 ((divV a b : Nat) : Int)) ∧ Below w.heap.size w w' := by
  have N1 := Lib.hid (isnan_c a ha)
  have N2 := Lib.hid (isnan_c b hb)
  have I1 := Lib.hid (isinf_c a ha)
  have I2 := Lib.hid (isinf_c b hb)
  have Z1 := Lib.hid (iszero_c a ha)
  have Z2 := Lib.hid (iszero_c b hb)
  have G1 := Lib.hid (isneg_c a ha)
  have G2 := Lib.hid (isneg_c b hb)
  have SG := Lib.hid (sign_c 9218868437227405312 (ng a != ng b) (by decide))
  have S0 := Lib.hid (sign_c 0 (ng a != ng b) (by decide))
  by_cases n1 : nan a = true
  · rw [show divV a b = NaN by simp [divV, n1]]; rw [n1] at N1; exact div_n1 a b _ _ G1 G2 N1 w
  have n1 := Bool.eq_false_iff.2 n1; rw [n1] at N1
  by_cases n2 : nan b = true
  · rw [show divV a b = NaN by simp [divV, n1, n2]]; rw [n2] at N2; exact div_n2 a b _ _ G1 G2 N1 N2 w
  have n2 := Bool.eq_false_iff.2 n2; rw [n2] at N2
  by_cases i1 : inf a = true
  · have z1 := inf_zer i1
    rw [i1] at I1; rw [z1] at Z1
    by_cases i2 : inf b = true
    · rw [show divV a b = NaN by simp [divV, n1, n2, i1, i2]]; rw [i2] at I2; exact div_ii a b _ _ G1 G2 N1 N2 I1 I2 w
    · have i2 := Bool.eq_false_iff.2 i2; rw [i2] at I2
      rw [show divV a b = sg (ng a != ng b) Inf by simp [divV, n1, n2, i1, i2, z1]]
      exact div_i1 a b _ _ _ SG G1 G2 N1 N2 I1 I2 Z1 w
  have i1 := Bool.eq_false_iff.2 i1; rw [i1] at I1
  by_cases z2 : zer b = true
  · rw [z2] at Z2
    by_cases z1 : zer a = true
    · rw [show divV a b = NaN by simp [divV, n1, n2, i1, z1, z2]]; rw [z1] at Z1; exact div_zz a b _ _ G1 G2 N1 N2 I1 Z1 Z2 w
    · have z1 := Bool.eq_false_iff.2 z1; rw [z1] at Z1
      rw [show divV a b = sg (ng a != ng b) Inf by simp [divV, n1, n2, i1, z1, z2]]
      exact div_z2 a b _ _ _ SG G1 G2 N1 N2 I1 Z1 Z2 w
  have z2 := Bool.eq_false_iff.2 z2; rw [z2] at Z2
  by_cases i2 : inf b = true
  · rw [i2] at I2
    rw [show divV a b = sg (ng a != ng b) 0 by simp [divV, n1, n2, i1, i2, z2]]
    by_cases z1 : zer a = true
    · rw [z1] at Z1; exact div_z1i2 a b _ _ _ S0 G1 G2 N1 N2 I1 Z1 Z2 I2 w
    · have z1 := Bool.eq_false_iff.2 z1; rw [z1] at Z1
      exact div_i2 a b _ _ _ S0 G1 G2 N1 N2 I1 Z1 Z2 I2 w
  have i2 := Bool.eq_false_iff.2 i2; rw [i2] at I2
  by_cases z1 : zer a = true
  · rw [show divV a b = sg (ng a != ng b) 0 by simp [divV, n1, n2, i1, i2, z1, z2]]
    rw [z1] at Z1; exact div_z1 a b _ _ _ S0 G1 G2 N1 N2 I1 Z1 Z2 I2 w
  have z1 := Bool.eq_false_iff.2 z1; rw [z1] at Z1
  rw [show divV a b = divF a b by simp [divV, n1, n2, i1, i2, z1, z2]]
  have ba : -1074 ≤ se a ∧ se a ≤ 971 := ⟨se_ge a, se_le n1 i1⟩
  have bb : -1074 ≤ se b ∧ se b ≤ 971 := ⟨se_ge b, se_le n2 i2⟩
  have HSA := Lib.hid (split_c a ha)
  have HSB := Lib.hid (split_c b hb)
  have la := sm_lt a
  have lb := sm_lt b
  have h0 : sm a ≠ 0 := fun c => by rw [sm_zero.1 c] at z1; cases z1
  have h1 : sm b ≠ 0 := fun c => by rw [sm_zero.1 c] at z2; cases z2
  have e53 : (2 : Nat) ^ 53 = 9007199254740992 := by decide
  have ka : bl (sm a) ≤ 53 := bl_le_of_lt (by rw [e53]; exact la)
  have kb : bl (sm b) ≤ 53 := bl_le_of_lt (by rw [e53]; exact lb)
  obtain ⟨i, hi⟩ : ∃ i, bl (sm a) + i = 53 := ⟨53 - bl (sm a), by omega⟩
  obtain ⟨j, hj⟩ : ∃ j, bl (sm b) + j = 53 := ⟨53 - bl (sm b), by omega⟩
  have HFA := Lib.hid (full_c (ng a) (sm a) i (se a) h0 hi ba)
  have HFB := Lib.hid (full_c (ng b) (sm b) j (se b) h1 hj bb)
  obtain ⟨Q1, Q2⟩ := quo_prog (x := sm a) (y := sm b) (se a - se b) i j hi hj h0 h1
  have e64 : (2 : Nat) ^ 64 = 18446744073709551616 := by decide
  have e63 : (2 : Nat) ^ 63 = 9223372036854775808 := by decide
  rw [e64] at Q2
  rw [e63] at Q1 Q2
  have full_lt : ∀ {m k : Nat}, bl m + k = 53 → m * 2 ^ k < 9007199254740992 := fun {m k} h => by
    calc m * 2 ^ k < 2 ^ bl m * 2 ^ k := Nat.mul_lt_mul_of_pos_right (bl_lt m) (pow_pos k)
      _ = 9007199254740992 := by rw [← Nat.pow_add, h]
  have full_ge : ∀ {m k : Nat}, m ≠ 0 → bl m + k = 53 → 4503599627370496 ≤ m * 2 ^ k := fun {m k} h0 h => by
    calc 4503599627370496 = 2 ^ (bl m - 1) * 2 ^ k := by rw [← Nat.pow_add, show bl m - 1 + k = 52 by have := bl_pos h0; omega]
      _ ≤ m * 2 ^ k := Nat.mul_le_mul_right _ (bl_le h0)
  have x1 := full_lt hi
  have y1 := full_lt hj
  have y0 := full_ge h1 hj
  obtain ⟨x, hx⟩ : ∃ x, sm a * 2 ^ i = x := ⟨_, rfl⟩
  obtain ⟨y, hy⟩ : ∃ y, sm b * 2 ^ j = y := ⟨_, rfl⟩
  rw [hx] at Q1 Q2 x1
  rw [hy] at Q1 Q2 y1 y0
  rw [hx] at HFA
  rw [hy] at HFB
  have HD0 := div64_c (x / 2) (x * 9223372036854775808 % 18446744073709551616) y (by omega) (W_of (Nat.mod_lt _ (by decide))) (W_of (by omega))
  have tt : two (x / 2) (x * 9223372036854775808 % 18446744073709551616) = x * 9223372036854775808 := by unfold two; omega
  rw [tt] at HD0
  have HPK := Lib.hid (pack_c (ng a != ng b) 0 (x * 9223372036854775808 / y) (se a - i - (se b - j) - 63) (decide (x * 9223372036854775808 % y ≠ 0)) (W_of (by decide)) (W_of Q2))
  rw [two_lo, show se a - i - (se b - j) - 63 = se a - se b - i + j - 63 by omega, Q1] at HPK
  have hw : IntKind.u64.wrap ((x : Int) * 9223372036854775808) = ((x * 9223372036854775808 % 18446744073709551616 : Nat) : Int) := by rw [IntKind.wrap_u64]; omega
  refine div_fin a b _ _ (sm a) (se a) (sm b) (se b) x (se a - i) y (se b - j) ((x * 9223372036854775808 / y : Nat) : Int) ((x * 9223372036854775808 % y : Nat) : Int) _ HSA HSB HFA HFB (by omega) (by omega) (by omega) (Lib.hid ?_) (decide (x * 9223372036854775808 % y ≠ 0)) ?_ ?_ G1 G2 N1 N2 I1 Z1 Z2 I2 w
  · rw [hw, show ((x : Int) / 2) = ((x / 2 : Nat) : Int) by omega]; exact HD0
  · generalize x * 9223372036854775808 % y = r; rw [Bool.eq_iff_iff]; simp only [bne_iff_ne, decide_eq_true_eq]; omega
  · rw [show se a - i - (se b - j) - 63 = se a - se b - i + j - 63 by omega]; exact HPK
end Go.Proofs.Ytecgkhijiogggaa
