/- Add: finite floats. -/
import Derived.Test.YtecgkhijiogggaaD
namespace Go.Proofs.Ytecgkhijiogggaa
set_option linter.unusedVariables false
set_option linter.unusedSimpArgs false
open Go.RowKit Go.Shelf SF

theorem add64 (x y c : Nat) (hc : c ≤ 1) (w : World) : (callFunc 85 #[.int .u64 x, .int .u64 y, .int .u64 c]).run Try.prog w = .ok (.value (.tuple #[.int .u64 (((x + y + c) % 18446744073709551616 : Nat) : Int), .int .u64 (((x + y + c) / 18446744073709551616 : Nat) : Int)])) w :=
  Any7.bits_Add64 Try.lays25 x y c hc w
theorem sub64 (x y b : Nat) (hb : b ≤ 1) (w : World) : (callFunc 86 #[.int .u64 x, .int .u64 y, .int .u64 b]).run Try.prog w = .ok (.value (.tuple #[.int .u64 (((x + 18446744073709551616 - y - b) % 18446744073709551616 : Nat) : Int), .int .u64 ((if x < y + b then 1 else 0 : Nat) : Int)])) w :=
  Any7.bits_Sub64 Try.lays26 x y b hb w
theorem sum_two {x y d : Nat} (hx : x < 9007199254740992) (hy : y < 9007199254740992) : W (x + rH y 0 d) ∧ two (x + rH y 0 d) (rL y 0 d) = x * 2 ^ 64 + y * 2 ^ 64 / 2 ^ d ∧ rH y 0 d < 9007199254740992 := by
  have e64 : (2 : Nat) ^ 64 = 18446744073709551616 := by decide
  have e0 : two y 0 = y * 2 ^ 64 := by unfold two; rw [e64]; omega
  have b1 : y * 2 ^ 64 / 2 ^ d ≤ y * 2 ^ 64 := Nat.div_le_self _ _
  unfold W rH rL
  rw [e0]
  unfold two
  rw [e64] at *
  omega
theorem diff_two {x y d : Nat} (hx : x < 9007199254740992) (hy : y < 9007199254740992) (h : y ≤ x * 2 ^ d) :
    two (x - rH y 0 d - (if 0 < rL y 0 d + (if rT y 0 d then 1 else 0) then 1 else 0)) ((18446744073709551616 - rL y 0 d - (if rT y 0 d then 1 else 0)) % 18446744073709551616) = less x y d ∧ rH y 0 d + (if 0 < rL y 0 d + (if rT y 0 d then 1 else 0) then 1 else 0) ≤ x ∧ rL y 0 d + (if rT y 0 d then 1 else 0) ≤ 18446744073709551616 := by
  have e64 : (2 : Nat) ^ 64 = 18446744073709551616 := by decide
  have e0 : two y 0 = y * 2 ^ 64 := by unfold two; rw [e64]; omega
  have room := less_room x y d h
  have eT : (if rT y 0 d = true then 1 else 0) = (if y * 2 ^ 64 % 2 ^ d ≠ 0 then 1 else 0 : Nat) := by
    unfold rT; rw [e0]; simp only [decide_eq_true_eq]
  unfold less
  rw [eT]
  have r1 : (if y * 2 ^ 64 % 2 ^ d ≠ 0 then 1 else 0 : Nat) ≤ 1 := by split <;> omega
  obtain ⟨r, hr⟩ : ∃ r, (if y * 2 ^ 64 % 2 ^ d ≠ 0 then 1 else 0 : Nat) = r := ⟨_, rfl⟩
  rw [hr] at room r1 ⊢
  unfold rH rL two
  rw [show y * 18446744073709551616 + 0 = y * 2 ^ 64 by rw [e64]; omega]
  obtain ⟨Y, hY⟩ : ∃ Y, y * 2 ^ 64 / 2 ^ d = Y := ⟨_, rfl⟩
  rw [hY] at room ⊢
  rw [e64] at *
  have m0 := Nat.mod_lt Y (show 0 < 18446744073709551616 by decide)
  have dm := Nat.div_add_mod Y 18446744073709551616
  obtain ⟨H, hH⟩ : ∃ H, Y / 18446744073709551616 = H := ⟨_, rfl⟩
  obtain ⟨L, hL⟩ : ∃ L, Y % 18446744073709551616 = L := ⟨_, rfl⟩
  rw [hH, hL] at dm
  rw [hL] at m0
  rw [hH, hL]
  by_cases c : 0 < L + r
  · rw [if_pos c]
    refine ⟨?_, by omega, by omega⟩
    rw [Nat.mod_eq_of_lt (by omega)]
    omega
  · rw [if_neg c]
    have l0 : L = 0 := by omega
    have r0 : r = 0 := by omega
    subst l0 r0
    refine ⟨?_, by omega, by omega⟩
    simp
    omega
theorem two_cells {w2 w3 : World} {x0 x1 x2 y0 y1 y2 : Value} {T : TypeId} (h : Below ((w2.alloc (.cells #[x0, x1, x2] T)).alloc (.cells #[y0, y1, y2] T)).heap.size ((w2.alloc (.cells #[x0, x1, x2] T)).alloc (.cells #[y0, y1, y2] T)) w3) :
    (w3.cell? ⟨w2.heap.size, 0, none⟩ = some x0 ∧ w3.cell? ⟨w2.heap.size, 1, none⟩ = some x1 ∧ w3.cell? ⟨w2.heap.size, 2, none⟩ = some x2) ∧
    (w3.cell? ⟨w2.heap.size + 1, 0, none⟩ = some y0 ∧ w3.cell? ⟨w2.heap.size + 1, 1, none⟩ = some y1 ∧ w3.cell? ⟨w2.heap.size + 1, 2, none⟩ = some y2) := by
  refine ⟨⟨?_, ?_, ?_⟩, ⟨?_, ?_, ?_⟩⟩ <;> (refine cell_below h ?_; simp [go_sem])
theorem add_fine {w w1 w2 w3 w4 : World} {o1 o2 : Obj} (h1 : Below w.heap.size w w1) (h2 : Below w1.heap.size w1 w2) (h3 : Below ((w2.alloc o1).alloc o2).heap.size ((w2.alloc o1).alloc o2) w3) (h4 : Below w3.heap.size w3 w4) : Below w.heap.size w w4 := by
  have a := below_then h1 h1.size h2
  have b := (a.alloc a.size o1).alloc (by have := a.size; simp; omega) o2
  have c := below_then b b.size h3
  exact below_then c c.size h4
abbrev PNo (f : FuncId) (a : Nat) : Prop := ∀ w, Calls Try.prog f #[.int .u64 a] w fun e w' => e = .returned (.bool false) ∧ w = w'
abbrev PSplit (a : Nat) (n : Bool) (m e : Int) : Prop := ∀ w, Calls Try.prog 67 #[.int .u64 a] w fun e' w' => e' = .returned (.agg #[.bool n, .int .u64 m, .int .i64 e]) ∧ Below w.heap.size w w'
abbrev PRight (m D rh rl : Int) (rt : Bool) : Prop := ∀ w, Calls Try.prog 84 #[.int .u64 m, .int .u64 0, .int .i64 D] w fun e' w' => e' = .returned (.tuple #[.int .u64 rh, .int .u64 rl, .bool rt]) ∧ Below w.heap.size w w'
abbrev PPack (n : Bool) (h l e : Int) (rt : Bool) (R : Int) : Prop := ∀ w, Calls Try.prog 69 #[.bool n, .int .u64 h, .int .u64 l, .int .i64 e, .bool rt] w fun e' w' => e' = .returned (.int .u64 R) ∧ Below w.heap.size w w'
set_option maxRecDepth 100000 in
set_option maxHeartbeats 4000000 in
theorem add_same_00 (a b : Nat) (ma ea mb eb D rh rl h2 cy R : Int) (n : Bool) (rt : Bool) (w : World)
    (H1 : Hid (PNo 62 a)) (H2 : Hid (PNo 62 b)) (H3 : Hid (PNo 63 a)) (H4 : Hid (PNo 63 b)) (H5 : Hid (PNo 64 a)) (H6 : Hid (PNo 64 b))
    (HSA : Hid (PSplit a n ma ea)) (HSB : Hid (PSplit b n mb eb)) (ho : eb < ea) (ba : -1074 ≤ ea ∧ ea ≤ 971) (bb : -1074 ≤ eb ∧ eb ≤ 971) (hD : ea - eb = D)
    (HRR : Hid (PRight mb D rh rl rt)) (C1 : ∀ w, (callFunc 85 #[.int .u64 0, .int .u64 rl, .int .u64 0]).run Try.prog w = .ok (.value (.tuple #[.int .u64 rl, .int .u64 0])) w)
    (C2 : ∀ w, (callFunc 85 #[.int .u64 ma, .int .u64 rh, .int .u64 0]).run Try.prog w = .ok (.value (.tuple #[.int .u64 h2, .int .u64 cy])) w)
    (HPK : Hid (PPack n h2 rl (ea - 64) rt R)) :
    Calls Try.prog 23 #[.int .u64 a, .int .u64 b] w fun e w' => e = .returned (.int .u64 R) ∧ Below w.heap.size w w' := by
  have hE : (ea == eb) = false := by simp; omega
  have hn1 : ¬ ea < eb := by omega
  go_enter Try.func23, Try.ntmps23
  go_wp2_with (first
    | (go_at_call 62; (with_reducible refine (H1.out _).mono ?_); rintro e1 w1 ⟨rfl, rfl⟩)
    | (go_at_call 62; (with_reducible refine (H2.out _).mono ?_); rintro e1 w1 ⟨rfl, rfl⟩)
    | (go_at_call 63; (with_reducible refine (H3.out _).mono ?_); rintro e1 w1 ⟨rfl, rfl⟩)
    | (go_at_call 63; (with_reducible refine (H4.out _).mono ?_); rintro e1 w1 ⟨rfl, rfl⟩)
    | (go_at_call 64; (with_reducible refine (H5.out _).mono ?_); rintro e1 w1 ⟨rfl, rfl⟩)
    | (go_at_call 64; (with_reducible refine (H6.out _).mono ?_); rintro e1 w1 ⟨rfl, rfl⟩)
    | (go_at_call 67; (with_reducible refine (HSA.out _).mono ?_); rintro e1 w1 ⟨rfl, hb1⟩)
    | (go_at_call 67; (with_reducible refine (HSB.out _).mono ?_); rintro e2 w2 ⟨rfl, hb2⟩)
    | (go_at_call 84; (with_reducible refine (HRR.out _).mono ?_); rintro e3 w3 ⟨rfl, hb3⟩; obtain ⟨⟨k0, k1, k2⟩, ⟨k3, k4, k5⟩⟩ := two_cells hb3)
    | (go_at_call 69; (with_reducible refine (HPK.out _).mono ?_); rintro e4 w4 ⟨rfl, hb4⟩))
  go_ret
  exact ⟨rfl, add_fine hb1 hb2 hb3 hb4⟩
set_option maxRecDepth 100000 in
set_option maxHeartbeats 4000000 in
theorem add_more_00 (a b : Nat) (ma ea mb eb D rh rl l2 cy h2 c2 R : Int) (n : Bool) (w : World)
    (H1 : Hid (PNo 62 a)) (H2 : Hid (PNo 62 b)) (H3 : Hid (PNo 63 a)) (H4 : Hid (PNo 63 b)) (H5 : Hid (PNo 64 a)) (H6 : Hid (PNo 64 b))
    (HSA : Hid (PSplit a n ma ea)) (HSB : Hid (PSplit b (!n) mb eb)) (ho : eb < ea) (ba : -1074 ≤ ea ∧ ea ≤ 971) (bb : -1074 ≤ eb ∧ eb ≤ 971) (hD : ea - eb = D)
    (HRR : Hid (PRight mb D rh rl true)) (C1 : ∀ w, (callFunc 86 #[.int .u64 0, .int .u64 rl, .int .u64 1]).run Try.prog w = .ok (.value (.tuple #[.int .u64 l2, .int .u64 cy])) w)
    (C2 : ∀ w, (callFunc 86 #[.int .u64 ma, .int .u64 rh, .int .u64 cy]).run Try.prog w = .ok (.value (.tuple #[.int .u64 h2, .int .u64 c2])) w)
    (z : Bool) (Z : (bits .or .u64 h2 l2 != 0) = z) (HPK : Hid (PPack (n && z) h2 l2 (ea - 64) true R)) :
    Calls Try.prog 23 #[.int .u64 a, .int .u64 b] w fun e w' => e = .returned (.int .u64 R) ∧ Below w.heap.size w w' := by
  have hE : (ea == eb) = false := by simp; omega
  have hn1 : ¬ ea < eb := by omega
  cases n
  · simp only [Bool.not_false, Bool.true_and, Bool.false_and] at HPK HSA HSB
    go_enter Try.func23, Try.ntmps23
    go_wp2_with (first
      | (go_at_call 62; (with_reducible refine (H1.out _).mono ?_); rintro e1 w1 ⟨rfl, rfl⟩)
      | (go_at_call 62; (with_reducible refine (H2.out _).mono ?_); rintro e1 w1 ⟨rfl, rfl⟩)
      | (go_at_call 63; (with_reducible refine (H3.out _).mono ?_); rintro e1 w1 ⟨rfl, rfl⟩)
      | (go_at_call 63; (with_reducible refine (H4.out _).mono ?_); rintro e1 w1 ⟨rfl, rfl⟩)
      | (go_at_call 64; (with_reducible refine (H5.out _).mono ?_); rintro e1 w1 ⟨rfl, rfl⟩)
      | (go_at_call 64; (with_reducible refine (H6.out _).mono ?_); rintro e1 w1 ⟨rfl, rfl⟩)
      | (go_at_call 67; (with_reducible refine (HSA.out _).mono ?_); rintro e1 w1 ⟨rfl, hb1⟩)
      | (go_at_call 67; (with_reducible refine (HSB.out _).mono ?_); rintro e2 w2 ⟨rfl, hb2⟩)
      | (go_at_call 84; (with_reducible refine (HRR.out _).mono ?_); rintro e3 w3 ⟨rfl, hb3⟩; obtain ⟨⟨k0, k1, k2⟩, ⟨k3, k4, k5⟩⟩ := two_cells hb3)
      | (go_at_call 69; (with_reducible refine (HPK.out _).mono ?_); rintro e4 w4 ⟨rfl, hb4⟩))
    go_ret
    exact ⟨rfl, add_fine hb1 hb2 hb3 hb4⟩
  · simp only [Bool.not_true, Bool.true_and, Bool.false_and] at HPK HSA HSB
    go_enter Try.func23, Try.ntmps23
    go_wp2_with (first
      | (go_at_call 62; (with_reducible refine (H1.out _).mono ?_); rintro e1 w1 ⟨rfl, rfl⟩)
      | (go_at_call 62; (with_reducible refine (H2.out _).mono ?_); rintro e1 w1 ⟨rfl, rfl⟩)
      | (go_at_call 63; (with_reducible refine (H3.out _).mono ?_); rintro e1 w1 ⟨rfl, rfl⟩)
      | (go_at_call 63; (with_reducible refine (H4.out _).mono ?_); rintro e1 w1 ⟨rfl, rfl⟩)
      | (go_at_call 64; (with_reducible refine (H5.out _).mono ?_); rintro e1 w1 ⟨rfl, rfl⟩)
      | (go_at_call 64; (with_reducible refine (H6.out _).mono ?_); rintro e1 w1 ⟨rfl, rfl⟩)
      | (go_at_call 67; (with_reducible refine (HSA.out _).mono ?_); rintro e1 w1 ⟨rfl, hb1⟩)
      | (go_at_call 67; (with_reducible refine (HSB.out _).mono ?_); rintro e2 w2 ⟨rfl, hb2⟩)
      | (go_at_call 84; (with_reducible refine (HRR.out _).mono ?_); rintro e3 w3 ⟨rfl, hb3⟩; obtain ⟨⟨k0, k1, k2⟩, ⟨k3, k4, k5⟩⟩ := two_cells hb3)
      | (go_at_call 69; (with_reducible refine (HPK.out _).mono ?_); rintro e4 w4 ⟨rfl, hb4⟩))
    go_ret
    exact ⟨rfl, add_fine hb1 hb2 hb3 hb4⟩
set_option maxRecDepth 100000 in
set_option maxHeartbeats 4000000 in
theorem add_less_00 (a b : Nat) (ma ea mb eb D rh rl l2 cy h2 c2 R : Int) (n : Bool) (w : World)
    (H1 : Hid (PNo 62 a)) (H2 : Hid (PNo 62 b)) (H3 : Hid (PNo 63 a)) (H4 : Hid (PNo 63 b)) (H5 : Hid (PNo 64 a)) (H6 : Hid (PNo 64 b))
    (HSA : Hid (PSplit a n ma ea)) (HSB : Hid (PSplit b (!n) mb eb)) (ho : eb < ea) (ba : -1074 ≤ ea ∧ ea ≤ 971) (bb : -1074 ≤ eb ∧ eb ≤ 971) (hD : ea - eb = D)
    (HRR : Hid (PRight mb D rh rl false)) (C1 : ∀ w, (callFunc 86 #[.int .u64 0, .int .u64 rl, .int .u64 0]).run Try.prog w = .ok (.value (.tuple #[.int .u64 l2, .int .u64 cy])) w)
    (C2 : ∀ w, (callFunc 86 #[.int .u64 ma, .int .u64 rh, .int .u64 cy]).run Try.prog w = .ok (.value (.tuple #[.int .u64 h2, .int .u64 c2])) w)
    (z : Bool) (Z : (bits .or .u64 h2 l2 != 0) = z) (HPK : Hid (PPack (n && z) h2 l2 (ea - 64) false R)) :
    Calls Try.prog 23 #[.int .u64 a, .int .u64 b] w fun e w' => e = .returned (.int .u64 R) ∧ Below w.heap.size w w' := by
  have hE : (ea == eb) = false := by simp; omega
  have hn1 : ¬ ea < eb := by omega
  cases n
  · simp only [Bool.not_false, Bool.true_and, Bool.false_and] at HPK HSA HSB
    go_enter Try.func23, Try.ntmps23
    go_wp2_with (first
      | (go_at_call 62; (with_reducible refine (H1.out _).mono ?_); rintro e1 w1 ⟨rfl, rfl⟩)
      | (go_at_call 62; (with_reducible refine (H2.out _).mono ?_); rintro e1 w1 ⟨rfl, rfl⟩)
      | (go_at_call 63; (with_reducible refine (H3.out _).mono ?_); rintro e1 w1 ⟨rfl, rfl⟩)
      | (go_at_call 63; (with_reducible refine (H4.out _).mono ?_); rintro e1 w1 ⟨rfl, rfl⟩)
      | (go_at_call 64; (with_reducible refine (H5.out _).mono ?_); rintro e1 w1 ⟨rfl, rfl⟩)
      | (go_at_call 64; (with_reducible refine (H6.out _).mono ?_); rintro e1 w1 ⟨rfl, rfl⟩)
      | (go_at_call 67; (with_reducible refine (HSA.out _).mono ?_); rintro e1 w1 ⟨rfl, hb1⟩)
      | (go_at_call 67; (with_reducible refine (HSB.out _).mono ?_); rintro e2 w2 ⟨rfl, hb2⟩)
      | (go_at_call 84; (with_reducible refine (HRR.out _).mono ?_); rintro e3 w3 ⟨rfl, hb3⟩; obtain ⟨⟨k0, k1, k2⟩, ⟨k3, k4, k5⟩⟩ := two_cells hb3)
      | (go_at_call 69; (with_reducible refine (HPK.out _).mono ?_); rintro e4 w4 ⟨rfl, hb4⟩))
    go_ret
    exact ⟨rfl, add_fine hb1 hb2 hb3 hb4⟩
  · simp only [Bool.not_true, Bool.true_and, Bool.false_and] at HPK HSA HSB
    go_enter Try.func23, Try.ntmps23
    go_wp2_with (first
      | (go_at_call 62; (with_reducible refine (H1.out _).mono ?_); rintro e1 w1 ⟨rfl, rfl⟩)
      | (go_at_call 62; (with_reducible refine (H2.out _).mono ?_); rintro e1 w1 ⟨rfl, rfl⟩)
      | (go_at_call 63; (with_reducible refine (H3.out _).mono ?_); rintro e1 w1 ⟨rfl, rfl⟩)
      | (go_at_call 63; (with_reducible refine (H4.out _).mono ?_); rintro e1 w1 ⟨rfl, rfl⟩)
      | (go_at_call 64; (with_reducible refine (H5.out _).mono ?_); rintro e1 w1 ⟨rfl, rfl⟩)
      | (go_at_call 64; (with_reducible refine (H6.out _).mono ?_); rintro e1 w1 ⟨rfl, rfl⟩)
      | (go_at_call 67; (with_reducible refine (HSA.out _).mono ?_); rintro e1 w1 ⟨rfl, hb1⟩)
      | (go_at_call 67; (with_reducible refine (HSB.out _).mono ?_); rintro e2 w2 ⟨rfl, hb2⟩)
      | (go_at_call 84; (with_reducible refine (HRR.out _).mono ?_); rintro e3 w3 ⟨rfl, hb3⟩; obtain ⟨⟨k0, k1, k2⟩, ⟨k3, k4, k5⟩⟩ := two_cells hb3)
      | (go_at_call 69; (with_reducible refine (HPK.out _).mono ?_); rintro e4 w4 ⟨rfl, hb4⟩))
    go_ret
    exact ⟨rfl, add_fine hb1 hb2 hb3 hb4⟩
set_option maxRecDepth 100000 in
set_option maxHeartbeats 4000000 in
theorem add_same_01 (a b : Nat) (ma ea mb eb D rh rl h2 cy R : Int) (n : Bool) (rt : Bool) (w : World)
    (H1 : Hid (PNo 62 a)) (H2 : Hid (PNo 62 b)) (H3 : Hid (PNo 63 a)) (H4 : Hid (PNo 63 b)) (H5 : Hid (PNo 64 a)) (H6 : Hid (PNo 64 b))
    (HSA : Hid (PSplit a n ma ea)) (HSB : Hid (PSplit b n mb eb)) (hoe : ea = eb) (hm : ¬ ma < mb) (ba : -1074 ≤ ea ∧ ea ≤ 971) (bb : -1074 ≤ eb ∧ eb ≤ 971) (hD : ea - eb = D)
    (HRR : Hid (PRight mb D rh rl rt)) (C1 : ∀ w, (callFunc 85 #[.int .u64 0, .int .u64 rl, .int .u64 0]).run Try.prog w = .ok (.value (.tuple #[.int .u64 rl, .int .u64 0])) w)
    (C2 : ∀ w, (callFunc 85 #[.int .u64 ma, .int .u64 rh, .int .u64 0]).run Try.prog w = .ok (.value (.tuple #[.int .u64 h2, .int .u64 cy])) w)
    (HPK : Hid (PPack n h2 rl (ea - 64) rt R)) :
    Calls Try.prog 23 #[.int .u64 a, .int .u64 b] w fun e w' => e = .returned (.int .u64 R) ∧ Below w.heap.size w w' := by
  have hE : (ea == eb) = true := by simpa using hoe
  have hn1 : ¬ ea < eb := by omega
  clear hoe
  go_enter Try.func23, Try.ntmps23
  go_wp2_with (first
    | (go_at_call 62; (with_reducible refine (H1.out _).mono ?_); rintro e1 w1 ⟨rfl, rfl⟩)
    | (go_at_call 62; (with_reducible refine (H2.out _).mono ?_); rintro e1 w1 ⟨rfl, rfl⟩)
    | (go_at_call 63; (with_reducible refine (H3.out _).mono ?_); rintro e1 w1 ⟨rfl, rfl⟩)
    | (go_at_call 63; (with_reducible refine (H4.out _).mono ?_); rintro e1 w1 ⟨rfl, rfl⟩)
    | (go_at_call 64; (with_reducible refine (H5.out _).mono ?_); rintro e1 w1 ⟨rfl, rfl⟩)
    | (go_at_call 64; (with_reducible refine (H6.out _).mono ?_); rintro e1 w1 ⟨rfl, rfl⟩)
    | (go_at_call 67; (with_reducible refine (HSA.out _).mono ?_); rintro e1 w1 ⟨rfl, hb1⟩)
    | (go_at_call 67; (with_reducible refine (HSB.out _).mono ?_); rintro e2 w2 ⟨rfl, hb2⟩)
    | (go_at_call 84; (with_reducible refine (HRR.out _).mono ?_); rintro e3 w3 ⟨rfl, hb3⟩; obtain ⟨⟨k0, k1, k2⟩, ⟨k3, k4, k5⟩⟩ := two_cells hb3)
    | (go_at_call 69; (with_reducible refine (HPK.out _).mono ?_); rintro e4 w4 ⟨rfl, hb4⟩))
  go_ret
  exact ⟨rfl, add_fine hb1 hb2 hb3 hb4⟩
set_option maxRecDepth 100000 in
set_option maxHeartbeats 4000000 in
theorem add_more_01 (a b : Nat) (ma ea mb eb D rh rl l2 cy h2 c2 R : Int) (n : Bool) (w : World)
    (H1 : Hid (PNo 62 a)) (H2 : Hid (PNo 62 b)) (H3 : Hid (PNo 63 a)) (H4 : Hid (PNo 63 b)) (H5 : Hid (PNo 64 a)) (H6 : Hid (PNo 64 b))
    (HSA : Hid (PSplit a n ma ea)) (HSB : Hid (PSplit b (!n) mb eb)) (hoe : ea = eb) (hm : ¬ ma < mb) (ba : -1074 ≤ ea ∧ ea ≤ 971) (bb : -1074 ≤ eb ∧ eb ≤ 971) (hD : ea - eb = D)
    (HRR : Hid (PRight mb D rh rl true)) (C1 : ∀ w, (callFunc 86 #[.int .u64 0, .int .u64 rl, .int .u64 1]).run Try.prog w = .ok (.value (.tuple #[.int .u64 l2, .int .u64 cy])) w)
    (C2 : ∀ w, (callFunc 86 #[.int .u64 ma, .int .u64 rh, .int .u64 cy]).run Try.prog w = .ok (.value (.tuple #[.int .u64 h2, .int .u64 c2])) w)
    (z : Bool) (Z : (bits .or .u64 h2 l2 != 0) = z) (HPK : Hid (PPack (n && z) h2 l2 (ea - 64) true R)) :
    Calls Try.prog 23 #[.int .u64 a, .int .u64 b] w fun e w' => e = .returned (.int .u64 R) ∧ Below w.heap.size w w' := by
  have hE : (ea == eb) = true := by simpa using hoe
  have hn1 : ¬ ea < eb := by omega
  clear hoe
  cases n
  · simp only [Bool.not_false, Bool.true_and, Bool.false_and] at HPK HSA HSB
    go_enter Try.func23, Try.ntmps23
    go_wp2_with (first
      | (go_at_call 62; (with_reducible refine (H1.out _).mono ?_); rintro e1 w1 ⟨rfl, rfl⟩)
      | (go_at_call 62; (with_reducible refine (H2.out _).mono ?_); rintro e1 w1 ⟨rfl, rfl⟩)
      | (go_at_call 63; (with_reducible refine (H3.out _).mono ?_); rintro e1 w1 ⟨rfl, rfl⟩)
      | (go_at_call 63; (with_reducible refine (H4.out _).mono ?_); rintro e1 w1 ⟨rfl, rfl⟩)
      | (go_at_call 64; (with_reducible refine (H5.out _).mono ?_); rintro e1 w1 ⟨rfl, rfl⟩)
      | (go_at_call 64; (with_reducible refine (H6.out _).mono ?_); rintro e1 w1 ⟨rfl, rfl⟩)
      | (go_at_call 67; (with_reducible refine (HSA.out _).mono ?_); rintro e1 w1 ⟨rfl, hb1⟩)
      | (go_at_call 67; (with_reducible refine (HSB.out _).mono ?_); rintro e2 w2 ⟨rfl, hb2⟩)
      | (go_at_call 84; (with_reducible refine (HRR.out _).mono ?_); rintro e3 w3 ⟨rfl, hb3⟩; obtain ⟨⟨k0, k1, k2⟩, ⟨k3, k4, k5⟩⟩ := two_cells hb3)
      | (go_at_call 69; (with_reducible refine (HPK.out _).mono ?_); rintro e4 w4 ⟨rfl, hb4⟩))
    go_ret
    exact ⟨rfl, add_fine hb1 hb2 hb3 hb4⟩
  · simp only [Bool.not_true, Bool.true_and, Bool.false_and] at HPK HSA HSB
    go_enter Try.func23, Try.ntmps23
    go_wp2_with (first
      | (go_at_call 62; (with_reducible refine (H1.out _).mono ?_); rintro e1 w1 ⟨rfl, rfl⟩)
      | (go_at_call 62; (with_reducible refine (H2.out _).mono ?_); rintro e1 w1 ⟨rfl, rfl⟩)
      | (go_at_call 63; (with_reducible refine (H3.out _).mono ?_); rintro e1 w1 ⟨rfl, rfl⟩)
      | (go_at_call 63; (with_reducible refine (H4.out _).mono ?_); rintro e1 w1 ⟨rfl, rfl⟩)
      | (go_at_call 64; (with_reducible refine (H5.out _).mono ?_); rintro e1 w1 ⟨rfl, rfl⟩)
      | (go_at_call 64; (with_reducible refine (H6.out _).mono ?_); rintro e1 w1 ⟨rfl, rfl⟩)
      | (go_at_call 67; (with_reducible refine (HSA.out _).mono ?_); rintro e1 w1 ⟨rfl, hb1⟩)
      | (go_at_call 67; (with_reducible refine (HSB.out _).mono ?_); rintro e2 w2 ⟨rfl, hb2⟩)
      | (go_at_call 84; (with_reducible refine (HRR.out _).mono ?_); rintro e3 w3 ⟨rfl, hb3⟩; obtain ⟨⟨k0, k1, k2⟩, ⟨k3, k4, k5⟩⟩ := two_cells hb3)
      | (go_at_call 69; (with_reducible refine (HPK.out _).mono ?_); rintro e4 w4 ⟨rfl, hb4⟩))
    go_ret
    exact ⟨rfl, add_fine hb1 hb2 hb3 hb4⟩
set_option maxRecDepth 100000 in
set_option maxHeartbeats 4000000 in
theorem add_less_01 (a b : Nat) (ma ea mb eb D rh rl l2 cy h2 c2 R : Int) (n : Bool) (w : World)
    (H1 : Hid (PNo 62 a)) (H2 : Hid (PNo 62 b)) (H3 : Hid (PNo 63 a)) (H4 : Hid (PNo 63 b)) (H5 : Hid (PNo 64 a)) (H6 : Hid (PNo 64 b))
    (HSA : Hid (PSplit a n ma ea)) (HSB : Hid (PSplit b (!n) mb eb)) (hoe : ea = eb) (hm : ¬ ma < mb) (ba : -1074 ≤ ea ∧ ea ≤ 971) (bb : -1074 ≤ eb ∧ eb ≤ 971) (hD : ea - eb = D)
    (HRR : Hid (PRight mb D rh rl false)) (C1 : ∀ w, (callFunc 86 #[.int .u64 0, .int .u64 rl, .int .u64 0]).run Try.prog w = .ok (.value (.tuple #[.int .u64 l2, .int .u64 cy])) w)
    (C2 : ∀ w, (callFunc 86 #[.int .u64 ma, .int .u64 rh, .int .u64 cy]).run Try.prog w = .ok (.value (.tuple #[.int .u64 h2, .int .u64 c2])) w)
    (z : Bool) (Z : (bits .or .u64 h2 l2 != 0) = z) (HPK : Hid (PPack (n && z) h2 l2 (ea - 64) false R)) :
    Calls Try.prog 23 #[.int .u64 a, .int .u64 b] w fun e w' => e = .returned (.int .u64 R) ∧ Below w.heap.size w w' := by
  have hE : (ea == eb) = true := by simpa using hoe
  have hn1 : ¬ ea < eb := by omega
  clear hoe
  cases n
  · simp only [Bool.not_false, Bool.true_and, Bool.false_and] at HPK HSA HSB
    go_enter Try.func23, Try.ntmps23
    go_wp2_with (first
      | (go_at_call 62; (with_reducible refine (H1.out _).mono ?_); rintro e1 w1 ⟨rfl, rfl⟩)
      | (go_at_call 62; (with_reducible refine (H2.out _).mono ?_); rintro e1 w1 ⟨rfl, rfl⟩)
      | (go_at_call 63; (with_reducible refine (H3.out _).mono ?_); rintro e1 w1 ⟨rfl, rfl⟩)
      | (go_at_call 63; (with_reducible refine (H4.out _).mono ?_); rintro e1 w1 ⟨rfl, rfl⟩)
      | (go_at_call 64; (with_reducible refine (H5.out _).mono ?_); rintro e1 w1 ⟨rfl, rfl⟩)
      | (go_at_call 64; (with_reducible refine (H6.out _).mono ?_); rintro e1 w1 ⟨rfl, rfl⟩)
      | (go_at_call 67; (with_reducible refine (HSA.out _).mono ?_); rintro e1 w1 ⟨rfl, hb1⟩)
      | (go_at_call 67; (with_reducible refine (HSB.out _).mono ?_); rintro e2 w2 ⟨rfl, hb2⟩)
      | (go_at_call 84; (with_reducible refine (HRR.out _).mono ?_); rintro e3 w3 ⟨rfl, hb3⟩; obtain ⟨⟨k0, k1, k2⟩, ⟨k3, k4, k5⟩⟩ := two_cells hb3)
      | (go_at_call 69; (with_reducible refine (HPK.out _).mono ?_); rintro e4 w4 ⟨rfl, hb4⟩))
    go_ret
    exact ⟨rfl, add_fine hb1 hb2 hb3 hb4⟩
  · simp only [Bool.not_true, Bool.true_and, Bool.false_and] at HPK HSA HSB
    go_enter Try.func23, Try.ntmps23
    go_wp2_with (first
      | (go_at_call 62; (with_reducible refine (H1.out _).mono ?_); rintro e1 w1 ⟨rfl, rfl⟩)
      | (go_at_call 62; (with_reducible refine (H2.out _).mono ?_); rintro e1 w1 ⟨rfl, rfl⟩)
      | (go_at_call 63; (with_reducible refine (H3.out _).mono ?_); rintro e1 w1 ⟨rfl, rfl⟩)
      | (go_at_call 63; (with_reducible refine (H4.out _).mono ?_); rintro e1 w1 ⟨rfl, rfl⟩)
      | (go_at_call 64; (with_reducible refine (H5.out _).mono ?_); rintro e1 w1 ⟨rfl, rfl⟩)
      | (go_at_call 64; (with_reducible refine (H6.out _).mono ?_); rintro e1 w1 ⟨rfl, rfl⟩)
      | (go_at_call 67; (with_reducible refine (HSA.out _).mono ?_); rintro e1 w1 ⟨rfl, hb1⟩)
      | (go_at_call 67; (with_reducible refine (HSB.out _).mono ?_); rintro e2 w2 ⟨rfl, hb2⟩)
      | (go_at_call 84; (with_reducible refine (HRR.out _).mono ?_); rintro e3 w3 ⟨rfl, hb3⟩; obtain ⟨⟨k0, k1, k2⟩, ⟨k3, k4, k5⟩⟩ := two_cells hb3)
      | (go_at_call 69; (with_reducible refine (HPK.out _).mono ?_); rintro e4 w4 ⟨rfl, hb4⟩))
    go_ret
    exact ⟨rfl, add_fine hb1 hb2 hb3 hb4⟩
set_option maxRecDepth 100000 in
set_option maxHeartbeats 4000000 in
theorem add_same_10 (a b : Nat) (ma ea mb eb D rh rl h2 cy R : Int) (n : Bool) (rt : Bool) (w : World)
    (H1 : Hid (PNo 62 a)) (H2 : Hid (PNo 62 b)) (H3 : Hid (PNo 63 a)) (H4 : Hid (PNo 63 b)) (H5 : Hid (PNo 64 a)) (H6 : Hid (PNo 64 b))
    (HSA : Hid (PSplit a n ma ea)) (HSB : Hid (PSplit b n mb eb)) (ho : ea < eb) (ba : -1074 ≤ ea ∧ ea ≤ 971) (bb : -1074 ≤ eb ∧ eb ≤ 971) (hD : eb - ea = D)
    (HRR : Hid (PRight ma D rh rl rt)) (C1 : ∀ w, (callFunc 85 #[.int .u64 0, .int .u64 rl, .int .u64 0]).run Try.prog w = .ok (.value (.tuple #[.int .u64 rl, .int .u64 0])) w)
    (C2 : ∀ w, (callFunc 85 #[.int .u64 mb, .int .u64 rh, .int .u64 0]).run Try.prog w = .ok (.value (.tuple #[.int .u64 h2, .int .u64 cy])) w)
    (HPK : Hid (PPack n h2 rl (eb - 64) rt R)) :
    Calls Try.prog 23 #[.int .u64 a, .int .u64 b] w fun e w' => e = .returned (.int .u64 R) ∧ Below w.heap.size w w' := by
  go_enter Try.func23, Try.ntmps23
  go_wp2_with (first
    | (go_at_call 62; (with_reducible refine (H1.out _).mono ?_); rintro e1 w1 ⟨rfl, rfl⟩)
    | (go_at_call 62; (with_reducible refine (H2.out _).mono ?_); rintro e1 w1 ⟨rfl, rfl⟩)
    | (go_at_call 63; (with_reducible refine (H3.out _).mono ?_); rintro e1 w1 ⟨rfl, rfl⟩)
    | (go_at_call 63; (with_reducible refine (H4.out _).mono ?_); rintro e1 w1 ⟨rfl, rfl⟩)
    | (go_at_call 64; (with_reducible refine (H5.out _).mono ?_); rintro e1 w1 ⟨rfl, rfl⟩)
    | (go_at_call 64; (with_reducible refine (H6.out _).mono ?_); rintro e1 w1 ⟨rfl, rfl⟩)
    | (go_at_call 67; (with_reducible refine (HSA.out _).mono ?_); rintro e1 w1 ⟨rfl, hb1⟩)
    | (go_at_call 67; (with_reducible refine (HSB.out _).mono ?_); rintro e2 w2 ⟨rfl, hb2⟩)
    | (go_at_call 84; (with_reducible refine (HRR.out _).mono ?_); rintro e3 w3 ⟨rfl, hb3⟩; obtain ⟨⟨k0, k1, k2⟩, ⟨k3, k4, k5⟩⟩ := two_cells hb3)
    | (go_at_call 69; (with_reducible refine (HPK.out _).mono ?_); rintro e4 w4 ⟨rfl, hb4⟩))
  go_ret
  exact ⟨rfl, add_fine hb1 hb2 hb3 hb4⟩
set_option maxRecDepth 100000 in
set_option maxHeartbeats 4000000 in
theorem add_more_10 (a b : Nat) (ma ea mb eb D rh rl l2 cy h2 c2 R : Int) (n : Bool) (w : World)
    (H1 : Hid (PNo 62 a)) (H2 : Hid (PNo 62 b)) (H3 : Hid (PNo 63 a)) (H4 : Hid (PNo 63 b)) (H5 : Hid (PNo 64 a)) (H6 : Hid (PNo 64 b))
    (HSA : Hid (PSplit a n ma ea)) (HSB : Hid (PSplit b (!n) mb eb)) (ho : ea < eb) (ba : -1074 ≤ ea ∧ ea ≤ 971) (bb : -1074 ≤ eb ∧ eb ≤ 971) (hD : eb - ea = D)
    (HRR : Hid (PRight ma D rh rl true)) (C1 : ∀ w, (callFunc 86 #[.int .u64 0, .int .u64 rl, .int .u64 1]).run Try.prog w = .ok (.value (.tuple #[.int .u64 l2, .int .u64 cy])) w)
    (C2 : ∀ w, (callFunc 86 #[.int .u64 mb, .int .u64 rh, .int .u64 cy]).run Try.prog w = .ok (.value (.tuple #[.int .u64 h2, .int .u64 c2])) w)
    (z : Bool) (Z : (bits .or .u64 h2 l2 != 0) = z) (HPK : Hid (PPack ((!n) && z) h2 l2 (eb - 64) true R)) :
    Calls Try.prog 23 #[.int .u64 a, .int .u64 b] w fun e w' => e = .returned (.int .u64 R) ∧ Below w.heap.size w w' := by
  cases n
  · simp only [Bool.not_false, Bool.true_and, Bool.false_and] at HPK HSA HSB
    go_enter Try.func23, Try.ntmps23
    go_wp2_with (first
      | (go_at_call 62; (with_reducible refine (H1.out _).mono ?_); rintro e1 w1 ⟨rfl, rfl⟩)
      | (go_at_call 62; (with_reducible refine (H2.out _).mono ?_); rintro e1 w1 ⟨rfl, rfl⟩)
      | (go_at_call 63; (with_reducible refine (H3.out _).mono ?_); rintro e1 w1 ⟨rfl, rfl⟩)
      | (go_at_call 63; (with_reducible refine (H4.out _).mono ?_); rintro e1 w1 ⟨rfl, rfl⟩)
      | (go_at_call 64; (with_reducible refine (H5.out _).mono ?_); rintro e1 w1 ⟨rfl, rfl⟩)
      | (go_at_call 64; (with_reducible refine (H6.out _).mono ?_); rintro e1 w1 ⟨rfl, rfl⟩)
      | (go_at_call 67; (with_reducible refine (HSA.out _).mono ?_); rintro e1 w1 ⟨rfl, hb1⟩)
      | (go_at_call 67; (with_reducible refine (HSB.out _).mono ?_); rintro e2 w2 ⟨rfl, hb2⟩)
      | (go_at_call 84; (with_reducible refine (HRR.out _).mono ?_); rintro e3 w3 ⟨rfl, hb3⟩; obtain ⟨⟨k0, k1, k2⟩, ⟨k3, k4, k5⟩⟩ := two_cells hb3)
      | (go_at_call 69; (with_reducible refine (HPK.out _).mono ?_); rintro e4 w4 ⟨rfl, hb4⟩))
    go_ret
    exact ⟨rfl, add_fine hb1 hb2 hb3 hb4⟩
  · simp only [Bool.not_true, Bool.true_and, Bool.false_and] at HPK HSA HSB
    go_enter Try.func23, Try.ntmps23
    go_wp2_with (first
      | (go_at_call 62; (with_reducible refine (H1.out _).mono ?_); rintro e1 w1 ⟨rfl, rfl⟩)
      | (go_at_call 62; (with_reducible refine (H2.out _).mono ?_); rintro e1 w1 ⟨rfl, rfl⟩)
      | (go_at_call 63; (with_reducible refine (H3.out _).mono ?_); rintro e1 w1 ⟨rfl, rfl⟩)
      | (go_at_call 63; (with_reducible refine (H4.out _).mono ?_); rintro e1 w1 ⟨rfl, rfl⟩)
      | (go_at_call 64; (with_reducible refine (H5.out _).mono ?_); rintro e1 w1 ⟨rfl, rfl⟩)
      | (go_at_call 64; (with_reducible refine (H6.out _).mono ?_); rintro e1 w1 ⟨rfl, rfl⟩)
      | (go_at_call 67; (with_reducible refine (HSA.out _).mono ?_); rintro e1 w1 ⟨rfl, hb1⟩)
      | (go_at_call 67; (with_reducible refine (HSB.out _).mono ?_); rintro e2 w2 ⟨rfl, hb2⟩)
      | (go_at_call 84; (with_reducible refine (HRR.out _).mono ?_); rintro e3 w3 ⟨rfl, hb3⟩; obtain ⟨⟨k0, k1, k2⟩, ⟨k3, k4, k5⟩⟩ := two_cells hb3)
      | (go_at_call 69; (with_reducible refine (HPK.out _).mono ?_); rintro e4 w4 ⟨rfl, hb4⟩))
    go_ret
    exact ⟨rfl, add_fine hb1 hb2 hb3 hb4⟩
set_option maxRecDepth 100000 in
set_option maxHeartbeats 4000000 in
theorem add_less_10 (a b : Nat) (ma ea mb eb D rh rl l2 cy h2 c2 R : Int) (n : Bool) (w : World)
    (H1 : Hid (PNo 62 a)) (H2 : Hid (PNo 62 b)) (H3 : Hid (PNo 63 a)) (H4 : Hid (PNo 63 b)) (H5 : Hid (PNo 64 a)) (H6 : Hid (PNo 64 b))
    (HSA : Hid (PSplit a n ma ea)) (HSB : Hid (PSplit b (!n) mb eb)) (ho : ea < eb) (ba : -1074 ≤ ea ∧ ea ≤ 971) (bb : -1074 ≤ eb ∧ eb ≤ 971) (hD : eb - ea = D)
    (HRR : Hid (PRight ma D rh rl false)) (C1 : ∀ w, (callFunc 86 #[.int .u64 0, .int .u64 rl, .int .u64 0]).run Try.prog w = .ok (.value (.tuple #[.int .u64 l2, .int .u64 cy])) w)
    (C2 : ∀ w, (callFunc 86 #[.int .u64 mb, .int .u64 rh, .int .u64 cy]).run Try.prog w = .ok (.value (.tuple #[.int .u64 h2, .int .u64 c2])) w)
    (z : Bool) (Z : (bits .or .u64 h2 l2 != 0) = z) (HPK : Hid (PPack ((!n) && z) h2 l2 (eb - 64) false R)) :
    Calls Try.prog 23 #[.int .u64 a, .int .u64 b] w fun e w' => e = .returned (.int .u64 R) ∧ Below w.heap.size w w' := by
  cases n
  · simp only [Bool.not_false, Bool.true_and, Bool.false_and] at HPK HSA HSB
    go_enter Try.func23, Try.ntmps23
    go_wp2_with (first
      | (go_at_call 62; (with_reducible refine (H1.out _).mono ?_); rintro e1 w1 ⟨rfl, rfl⟩)
      | (go_at_call 62; (with_reducible refine (H2.out _).mono ?_); rintro e1 w1 ⟨rfl, rfl⟩)
      | (go_at_call 63; (with_reducible refine (H3.out _).mono ?_); rintro e1 w1 ⟨rfl, rfl⟩)
      | (go_at_call 63; (with_reducible refine (H4.out _).mono ?_); rintro e1 w1 ⟨rfl, rfl⟩)
      | (go_at_call 64; (with_reducible refine (H5.out _).mono ?_); rintro e1 w1 ⟨rfl, rfl⟩)
      | (go_at_call 64; (with_reducible refine (H6.out _).mono ?_); rintro e1 w1 ⟨rfl, rfl⟩)
      | (go_at_call 67; (with_reducible refine (HSA.out _).mono ?_); rintro e1 w1 ⟨rfl, hb1⟩)
      | (go_at_call 67; (with_reducible refine (HSB.out _).mono ?_); rintro e2 w2 ⟨rfl, hb2⟩)
      | (go_at_call 84; (with_reducible refine (HRR.out _).mono ?_); rintro e3 w3 ⟨rfl, hb3⟩; obtain ⟨⟨k0, k1, k2⟩, ⟨k3, k4, k5⟩⟩ := two_cells hb3)
      | (go_at_call 69; (with_reducible refine (HPK.out _).mono ?_); rintro e4 w4 ⟨rfl, hb4⟩))
    go_ret
    exact ⟨rfl, add_fine hb1 hb2 hb3 hb4⟩
  · simp only [Bool.not_true, Bool.true_and, Bool.false_and] at HPK HSA HSB
    go_enter Try.func23, Try.ntmps23
    go_wp2_with (first
      | (go_at_call 62; (with_reducible refine (H1.out _).mono ?_); rintro e1 w1 ⟨rfl, rfl⟩)
      | (go_at_call 62; (with_reducible refine (H2.out _).mono ?_); rintro e1 w1 ⟨rfl, rfl⟩)
      | (go_at_call 63; (with_reducible refine (H3.out _).mono ?_); rintro e1 w1 ⟨rfl, rfl⟩)
      | (go_at_call 63; (with_reducible refine (H4.out _).mono ?_); rintro e1 w1 ⟨rfl, rfl⟩)
      | (go_at_call 64; (with_reducible refine (H5.out _).mono ?_); rintro e1 w1 ⟨rfl, rfl⟩)
      | (go_at_call 64; (with_reducible refine (H6.out _).mono ?_); rintro e1 w1 ⟨rfl, rfl⟩)
      | (go_at_call 67; (with_reducible refine (HSA.out _).mono ?_); rintro e1 w1 ⟨rfl, hb1⟩)
      | (go_at_call 67; (with_reducible refine (HSB.out _).mono ?_); rintro e2 w2 ⟨rfl, hb2⟩)
      | (go_at_call 84; (with_reducible refine (HRR.out _).mono ?_); rintro e3 w3 ⟨rfl, hb3⟩; obtain ⟨⟨k0, k1, k2⟩, ⟨k3, k4, k5⟩⟩ := two_cells hb3)
      | (go_at_call 69; (with_reducible refine (HPK.out _).mono ?_); rintro e4 w4 ⟨rfl, hb4⟩))
    go_ret
    exact ⟨rfl, add_fine hb1 hb2 hb3 hb4⟩
set_option maxRecDepth 100000 in
set_option maxHeartbeats 4000000 in
theorem add_same_11 (a b : Nat) (ma ea mb eb D rh rl h2 cy R : Int) (n : Bool) (rt : Bool) (w : World)
    (H1 : Hid (PNo 62 a)) (H2 : Hid (PNo 62 b)) (H3 : Hid (PNo 63 a)) (H4 : Hid (PNo 63 b)) (H5 : Hid (PNo 64 a)) (H6 : Hid (PNo 64 b))
    (HSA : Hid (PSplit a n ma ea)) (HSB : Hid (PSplit b n mb eb)) (hoe : ea = eb) (hm : ma < mb) (ba : -1074 ≤ ea ∧ ea ≤ 971) (bb : -1074 ≤ eb ∧ eb ≤ 971) (hD : eb - ea = D)
    (HRR : Hid (PRight ma D rh rl rt)) (C1 : ∀ w, (callFunc 85 #[.int .u64 0, .int .u64 rl, .int .u64 0]).run Try.prog w = .ok (.value (.tuple #[.int .u64 rl, .int .u64 0])) w)
    (C2 : ∀ w, (callFunc 85 #[.int .u64 mb, .int .u64 rh, .int .u64 0]).run Try.prog w = .ok (.value (.tuple #[.int .u64 h2, .int .u64 cy])) w)
    (HPK : Hid (PPack n h2 rl (eb - 64) rt R)) :
    Calls Try.prog 23 #[.int .u64 a, .int .u64 b] w fun e w' => e = .returned (.int .u64 R) ∧ Below w.heap.size w w' := by
  have hE : (ea == eb) = true := by simpa using hoe
  have hn1 : ¬ ea < eb := by omega
  clear hoe
  go_enter Try.func23, Try.ntmps23
  go_wp2_with (first
    | (go_at_call 62; (with_reducible refine (H1.out _).mono ?_); rintro e1 w1 ⟨rfl, rfl⟩)
    | (go_at_call 62; (with_reducible refine (H2.out _).mono ?_); rintro e1 w1 ⟨rfl, rfl⟩)
    | (go_at_call 63; (with_reducible refine (H3.out _).mono ?_); rintro e1 w1 ⟨rfl, rfl⟩)
    | (go_at_call 63; (with_reducible refine (H4.out _).mono ?_); rintro e1 w1 ⟨rfl, rfl⟩)
    | (go_at_call 64; (with_reducible refine (H5.out _).mono ?_); rintro e1 w1 ⟨rfl, rfl⟩)
    | (go_at_call 64; (with_reducible refine (H6.out _).mono ?_); rintro e1 w1 ⟨rfl, rfl⟩)
    | (go_at_call 67; (with_reducible refine (HSA.out _).mono ?_); rintro e1 w1 ⟨rfl, hb1⟩)
    | (go_at_call 67; (with_reducible refine (HSB.out _).mono ?_); rintro e2 w2 ⟨rfl, hb2⟩)
    | (go_at_call 84; (with_reducible refine (HRR.out _).mono ?_); rintro e3 w3 ⟨rfl, hb3⟩; obtain ⟨⟨k0, k1, k2⟩, ⟨k3, k4, k5⟩⟩ := two_cells hb3)
    | (go_at_call 69; (with_reducible refine (HPK.out _).mono ?_); rintro e4 w4 ⟨rfl, hb4⟩))
  go_ret
  exact ⟨rfl, add_fine hb1 hb2 hb3 hb4⟩
set_option maxRecDepth 100000 in
set_option maxHeartbeats 4000000 in
theorem add_more_11 (a b : Nat) (ma ea mb eb D rh rl l2 cy h2 c2 R : Int) (n : Bool) (w : World)
    (H1 : Hid (PNo 62 a)) (H2 : Hid (PNo 62 b)) (H3 : Hid (PNo 63 a)) (H4 : Hid (PNo 63 b)) (H5 : Hid (PNo 64 a)) (H6 : Hid (PNo 64 b))
    (HSA : Hid (PSplit a n ma ea)) (HSB : Hid (PSplit b (!n) mb eb)) (hoe : ea = eb) (hm : ma < mb) (ba : -1074 ≤ ea ∧ ea ≤ 971) (bb : -1074 ≤ eb ∧ eb ≤ 971) (hD : eb - ea = D)
    (HRR : Hid (PRight ma D rh rl true)) (C1 : ∀ w, (callFunc 86 #[.int .u64 0, .int .u64 rl, .int .u64 1]).run Try.prog w = .ok (.value (.tuple #[.int .u64 l2, .int .u64 cy])) w)
    (C2 : ∀ w, (callFunc 86 #[.int .u64 mb, .int .u64 rh, .int .u64 cy]).run Try.prog w = .ok (.value (.tuple #[.int .u64 h2, .int .u64 c2])) w)
    (z : Bool) (Z : (bits .or .u64 h2 l2 != 0) = z) (HPK : Hid (PPack ((!n) && z) h2 l2 (eb - 64) true R)) :
    Calls Try.prog 23 #[.int .u64 a, .int .u64 b] w fun e w' => e = .returned (.int .u64 R) ∧ Below w.heap.size w w' := by
  have hE : (ea == eb) = true := by simpa using hoe
  have hn1 : ¬ ea < eb := by omega
  clear hoe
  cases n
  · simp only [Bool.not_false, Bool.true_and, Bool.false_and] at HPK HSA HSB
    go_enter Try.func23, Try.ntmps23
    go_wp2_with (first
      | (go_at_call 62; (with_reducible refine (H1.out _).mono ?_); rintro e1 w1 ⟨rfl, rfl⟩)
      | (go_at_call 62; (with_reducible refine (H2.out _).mono ?_); rintro e1 w1 ⟨rfl, rfl⟩)
      | (go_at_call 63; (with_reducible refine (H3.out _).mono ?_); rintro e1 w1 ⟨rfl, rfl⟩)
      | (go_at_call 63; (with_reducible refine (H4.out _).mono ?_); rintro e1 w1 ⟨rfl, rfl⟩)
      | (go_at_call 64; (with_reducible refine (H5.out _).mono ?_); rintro e1 w1 ⟨rfl, rfl⟩)
      | (go_at_call 64; (with_reducible refine (H6.out _).mono ?_); rintro e1 w1 ⟨rfl, rfl⟩)
      | (go_at_call 67; (with_reducible refine (HSA.out _).mono ?_); rintro e1 w1 ⟨rfl, hb1⟩)
      | (go_at_call 67; (with_reducible refine (HSB.out _).mono ?_); rintro e2 w2 ⟨rfl, hb2⟩)
      | (go_at_call 84; (with_reducible refine (HRR.out _).mono ?_); rintro e3 w3 ⟨rfl, hb3⟩; obtain ⟨⟨k0, k1, k2⟩, ⟨k3, k4, k5⟩⟩ := two_cells hb3)
      | (go_at_call 69; (with_reducible refine (HPK.out _).mono ?_); rintro e4 w4 ⟨rfl, hb4⟩))
    go_ret
    exact ⟨rfl, add_fine hb1 hb2 hb3 hb4⟩
  · simp only [Bool.not_true, Bool.true_and, Bool.false_and] at HPK HSA HSB
    go_enter Try.func23, Try.ntmps23
    go_wp2_with (first
      | (go_at_call 62; (with_reducible refine (H1.out _).mono ?_); rintro e1 w1 ⟨rfl, rfl⟩)
      | (go_at_call 62; (with_reducible refine (H2.out _).mono ?_); rintro e1 w1 ⟨rfl, rfl⟩)
      | (go_at_call 63; (with_reducible refine (H3.out _).mono ?_); rintro e1 w1 ⟨rfl, rfl⟩)
      | (go_at_call 63; (with_reducible refine (H4.out _).mono ?_); rintro e1 w1 ⟨rfl, rfl⟩)
      | (go_at_call 64; (with_reducible refine (H5.out _).mono ?_); rintro e1 w1 ⟨rfl, rfl⟩)
      | (go_at_call 64; (with_reducible refine (H6.out _).mono ?_); rintro e1 w1 ⟨rfl, rfl⟩)
      | (go_at_call 67; (with_reducible refine (HSA.out _).mono ?_); rintro e1 w1 ⟨rfl, hb1⟩)
      | (go_at_call 67; (with_reducible refine (HSB.out _).mono ?_); rintro e2 w2 ⟨rfl, hb2⟩)
      | (go_at_call 84; (with_reducible refine (HRR.out _).mono ?_); rintro e3 w3 ⟨rfl, hb3⟩; obtain ⟨⟨k0, k1, k2⟩, ⟨k3, k4, k5⟩⟩ := two_cells hb3)
      | (go_at_call 69; (with_reducible refine (HPK.out _).mono ?_); rintro e4 w4 ⟨rfl, hb4⟩))
    go_ret
    exact ⟨rfl, add_fine hb1 hb2 hb3 hb4⟩
set_option maxRecDepth 100000 in
set_option maxHeartbeats 4000000 in
theorem add_less_11 (a b : Nat) (ma ea mb eb D rh rl l2 cy h2 c2 R : Int) (n : Bool) (w : World)
    (H1 : Hid (PNo 62 a)) (H2 : Hid (PNo 62 b)) (H3 : Hid (PNo 63 a)) (H4 : Hid (PNo 63 b)) (H5 : Hid (PNo 64 a)) (H6 : Hid (PNo 64 b))
    (HSA : Hid (PSplit a n ma ea)) (HSB : Hid (PSplit b (!n) mb eb)) (hoe : ea = eb) (hm : ma < mb) (ba : -1074 ≤ ea ∧ ea ≤ 971) (bb : -1074 ≤ eb ∧ eb ≤ 971) (hD : eb - ea = D)
    (HRR : Hid (PRight ma D rh rl false)) (C1 : ∀ w, (callFunc 86 #[.int .u64 0, .int .u64 rl, .int .u64 0]).run Try.prog w = .ok (.value (.tuple #[.int .u64 l2, .int .u64 cy])) w)
    (C2 : ∀ w, (callFunc 86 #[.int .u64 mb, .int .u64 rh, .int .u64 cy]).run Try.prog w = .ok (.value (.tuple #[.int .u64 h2, .int .u64 c2])) w)
    (z : Bool) (Z : (bits .or .u64 h2 l2 != 0) = z) (HPK : Hid (PPack ((!n) && z) h2 l2 (eb - 64) false R)) :
    Calls Try.prog 23 #[.int .u64 a, .int .u64 b] w fun e w' => e = .returned (.int .u64 R) ∧ Below w.heap.size w w' := by
  have hE : (ea == eb) = true := by simpa using hoe
  have hn1 : ¬ ea < eb := by omega
  clear hoe
  cases n
  · simp only [Bool.not_false, Bool.true_and, Bool.false_and] at HPK HSA HSB
    go_enter Try.func23, Try.ntmps23
    go_wp2_with (first
      | (go_at_call 62; (with_reducible refine (H1.out _).mono ?_); rintro e1 w1 ⟨rfl, rfl⟩)
      | (go_at_call 62; (with_reducible refine (H2.out _).mono ?_); rintro e1 w1 ⟨rfl, rfl⟩)
      | (go_at_call 63; (with_reducible refine (H3.out _).mono ?_); rintro e1 w1 ⟨rfl, rfl⟩)
      | (go_at_call 63; (with_reducible refine (H4.out _).mono ?_); rintro e1 w1 ⟨rfl, rfl⟩)
      | (go_at_call 64; (with_reducible refine (H5.out _).mono ?_); rintro e1 w1 ⟨rfl, rfl⟩)
      | (go_at_call 64; (with_reducible refine (H6.out _).mono ?_); rintro e1 w1 ⟨rfl, rfl⟩)
      | (go_at_call 67; (with_reducible refine (HSA.out _).mono ?_); rintro e1 w1 ⟨rfl, hb1⟩)
      | (go_at_call 67; (with_reducible refine (HSB.out _).mono ?_); rintro e2 w2 ⟨rfl, hb2⟩)
      | (go_at_call 84; (with_reducible refine (HRR.out _).mono ?_); rintro e3 w3 ⟨rfl, hb3⟩; obtain ⟨⟨k0, k1, k2⟩, ⟨k3, k4, k5⟩⟩ := two_cells hb3)
      | (go_at_call 69; (with_reducible refine (HPK.out _).mono ?_); rintro e4 w4 ⟨rfl, hb4⟩))
    go_ret
    exact ⟨rfl, add_fine hb1 hb2 hb3 hb4⟩
  · simp only [Bool.not_true, Bool.true_and, Bool.false_and] at HPK HSA HSB
    go_enter Try.func23, Try.ntmps23
    go_wp2_with (first
      | (go_at_call 62; (with_reducible refine (H1.out _).mono ?_); rintro e1 w1 ⟨rfl, rfl⟩)
      | (go_at_call 62; (with_reducible refine (H2.out _).mono ?_); rintro e1 w1 ⟨rfl, rfl⟩)
      | (go_at_call 63; (with_reducible refine (H3.out _).mono ?_); rintro e1 w1 ⟨rfl, rfl⟩)
      | (go_at_call 63; (with_reducible refine (H4.out _).mono ?_); rintro e1 w1 ⟨rfl, rfl⟩)
      | (go_at_call 64; (with_reducible refine (H5.out _).mono ?_); rintro e1 w1 ⟨rfl, rfl⟩)
      | (go_at_call 64; (with_reducible refine (H6.out _).mono ?_); rintro e1 w1 ⟨rfl, rfl⟩)
      | (go_at_call 67; (with_reducible refine (HSA.out _).mono ?_); rintro e1 w1 ⟨rfl, hb1⟩)
      | (go_at_call 67; (with_reducible refine (HSB.out _).mono ?_); rintro e2 w2 ⟨rfl, hb2⟩)
      | (go_at_call 84; (with_reducible refine (HRR.out _).mono ?_); rintro e3 w3 ⟨rfl, hb3⟩; obtain ⟨⟨k0, k1, k2⟩, ⟨k3, k4, k5⟩⟩ := two_cells hb3)
      | (go_at_call 69; (with_reducible refine (HPK.out _).mono ?_); rintro e4 w4 ⟨rfl, hb4⟩))
    go_ret
    exact ⟨rfl, add_fine hb1 hb2 hb3 hb4⟩
end Go.Proofs.Ytecgkhijiogggaa
