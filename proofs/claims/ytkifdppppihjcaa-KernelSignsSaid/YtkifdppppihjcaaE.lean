/- Texts E, for this seat. -/
import Derived.Test.YtkifdppppihjcaaA
namespace Go.Proofs.Ytkifdppppihjcaa
set_option linter.unusedVariables false
set_option linter.unusedSimpArgs false
open Go.RowKit Go.Shelf SF

theorem add64 (x y c : Nat) (hc : c ≤ 1) (w : World) : (callFunc 43 #[.int .u64 x, .int .u64 y, .int .u64 c]).run Try.prog w = .ok (.value (.tuple #[.int .u64 (((x + y + c) % 18446744073709551616 : Nat) : Int), .int .u64 (((x + y + c) / 18446744073709551616 : Nat) : Int)])) w :=
  Any7.bits_Add64 Try.lays25 x y c hc w
theorem sub64 (x y b : Nat) (hb : b ≤ 1) (w : World) : (callFunc 44 #[.int .u64 x, .int .u64 y, .int .u64 b]).run Try.prog w = .ok (.value (.tuple #[.int .u64 (((x + 18446744073709551616 - y - b) % 18446744073709551616 : Nat) : Int), .int .u64 ((if x < y + b then 1 else 0 : Nat) : Int)])) w :=
  Any7.bits_Sub64 Try.lays26 x y b hb w
theorem sum_two {x y d : Nat} (hx : x < 9007199254740992) (hy : y < 9007199254740992) : W (x + rH y 0 d) ∧ two (x + rH y 0 d) (rL y 0 d) = x * 2 ^ 64 + y * 2 ^ 64 / 2 ^ d ∧ rH y 0 d < 9007199254740992 := by
  have e64 : (2 : Nat) ^ 64 = 18446744073709551616 := by decide
  have e0 : two y 0 = y * 2 ^ 64 := by unfold two; rw [e64]; omega
  have b1 : y * 2 ^ 64 / 2 ^ d ≤ y * 2 ^ 64 := Nat.div_le_self _ _
  unfold W rH rL
  rw [e0]
  unfold two
  rw [e64] at *
  omega
theorem diff_two {x y d : Nat} (hx : x < 9007199254740992) (hy : y < 9007199254740992) (h : y ≤ x * 2 ^ d) :
    two (x - rH y 0 d - (if 0 < rL y 0 d + (if rT y 0 d then 1 else 0) then 1 else 0)) ((18446744073709551616 - rL y 0 d - (if rT y 0 d then 1 else 0)) % 18446744073709551616) = less x y d ∧ rH y 0 d + (if 0 < rL y 0 d + (if rT y 0 d then 1 else 0) then 1 else 0) ≤ x ∧ rL y 0 d + (if rT y 0 d then 1 else 0) ≤ 18446744073709551616 := by
  have e64 : (2 : Nat) ^ 64 = 18446744073709551616 := by decide
  have e0 : two y 0 = y * 2 ^ 64 := by unfold two; rw [e64]; omega
  have room := less_room x y d h
  have eT : (if rT y 0 d = true then 1 else 0) = (if y * 2 ^ 64 % 2 ^ d ≠ 0 then 1 else 0 : Nat) := by
    unfold rT; rw [e0]; simp only [decide_eq_true_eq]
  unfold less
  rw [eT]
  have r1 : (if y * 2 ^ 64 % 2 ^ d ≠ 0 then 1 else 0 : Nat) ≤ 1 := by split <;> omega
  obtain ⟨r, hr⟩ : ∃ r, (if y * 2 ^ 64 % 2 ^ d ≠ 0 then 1 else 0 : Nat) = r := ⟨_, rfl⟩
  rw [hr] at room r1 ⊢
  unfold rH rL two
  rw [show y * 18446744073709551616 + 0 = y * 2 ^ 64 by rw [e64]; omega]
  obtain ⟨Y, hY⟩ : ∃ Y, y * 2 ^ 64 / 2 ^ d = Y := ⟨_, rfl⟩
  rw [hY] at room ⊢
  rw [e64] at *
  have m0 := Nat.mod_lt Y (show 0 < 18446744073709551616 by decide)
  have dm := Nat.div_add_mod Y 18446744073709551616
  obtain ⟨H, hH⟩ : ∃ H, Y / 18446744073709551616 = H := ⟨_, rfl⟩
  obtain ⟨L, hL⟩ : ∃ L, Y % 18446744073709551616 = L := ⟨_, rfl⟩
  rw [hH, hL] at dm
  rw [hL] at m0
  rw [hH, hL]
  by_cases c : 0 < L + r
  · rw [if_pos c]
    refine ⟨?_, by omega, by omega⟩
    rw [Nat.mod_eq_of_lt (by omega)]
    omega
  · rw [if_neg c]
    have l0 : L = 0 := by omega
    have r0 : r = 0 := by omega
    subst l0 r0
    refine ⟨?_, by omega, by omega⟩
    simp
    omega
theorem two_cells {w2 w3 : World} {x0 x1 x2 y0 y1 y2 : Value} {T : TypeId} (h : Below ((w2.alloc (.cells #[x0, x1, x2] T)).alloc (.cells #[y0, y1, y2] T)).heap.size ((w2.alloc (.cells #[x0, x1, x2] T)).alloc (.cells #[y0, y1, y2] T)) w3) :
    (w3.cell? ⟨w2.heap.size, 0, none⟩ = some x0 ∧ w3.cell? ⟨w2.heap.size, 1, none⟩ = some x1 ∧ w3.cell? ⟨w2.heap.size, 2, none⟩ = some x2) ∧
    (w3.cell? ⟨w2.heap.size + 1, 0, none⟩ = some y0 ∧ w3.cell? ⟨w2.heap.size + 1, 1, none⟩ = some y1 ∧ w3.cell? ⟨w2.heap.size + 1, 2, none⟩ = some y2) := by
  refine ⟨⟨?_, ?_, ?_⟩, ⟨?_, ?_, ?_⟩⟩ <;> (refine cell_below h ?_; simp [go_sem])
theorem add_fine {w w1 w2 w3 w4 : World} {o1 o2 : Obj} (h1 : Below w.heap.size w w1) (h2 : Below w1.heap.size w1 w2) (h3 : Below ((w2.alloc o1).alloc o2).heap.size ((w2.alloc o1).alloc o2) w3) (h4 : Below w3.heap.size w3 w4) : Below w.heap.size w w4 := by
  have a := below_then h1 h1.size h2
  have b := (a.alloc a.size o1).alloc (by have := a.size; simp; omega) o2
  have c := below_then b b.size h3
  exact below_then c c.size h4
abbrev PNo (f : FuncId) (a : Nat) : Prop := ∀ w, Calls Try.prog f #[.int .u64 a] w fun e w' => e = .returned (.bool false) ∧ w = w'
abbrev PSplit (a : Nat) (n : Bool) (m e : Int) : Prop := ∀ w, Calls Try.prog 39 #[.int .u64 a] w fun e' w' => e' = .returned (.agg #[.bool n, .int .u64 m, .int .i64 e]) ∧ Below w.heap.size w w'
abbrev PRight (m D rh rl : Int) (rt : Bool) : Prop := ∀ w, Calls Try.prog 42 #[.int .u64 m, .int .u64 0, .int .i64 D] w fun e' w' => e' = .returned (.tuple #[.int .u64 rh, .int .u64 rl, .bool rt]) ∧ Below w.heap.size w w'
abbrev PPack (n : Bool) (h l e : Int) (rt : Bool) (R : Int) : Prop := ∀ w, Calls Try.prog 41 #[.bool n, .int .u64 h, .int .u64 l, .int .i64 e, .bool rt] w fun e' w' => e' = .returned (.int .u64 R) ∧ Below w.heap.size w w'
set_option maxRecDepth 100000 in
set_option maxHeartbeats 4000000 in
theorem add_same_00 (a b : Nat) (ma ea mb eb D rh rl h2 cy R : Int) (n : Bool) (rt : Bool) (w : World)
    (H1 : Hid (PNo 33 a)) (H2 : Hid (PNo 33 b)) (H3 : Hid (PNo 35 a)) (H4 : Hid (PNo 35 b)) (H5 : Hid (PNo 36 a)) (H6 : Hid (PNo 36 b))
    (HSA : Hid (PSplit a n ma ea)) (HSB : Hid (PSplit b n mb eb)) (ho : eb < ea) (ba : -1074 ≤ ea ∧ ea ≤ 971) (bb : -1074 ≤ eb ∧ eb ≤ 971) (hD : ea - eb = D)
    (HRR : Hid (PRight mb D rh rl rt)) (C1 : ∀ w, (callFunc 43 #[.int .u64 0, .int .u64 rl, .int .u64 0]).run Try.prog w = .ok (.value (.tuple #[.int .u64 rl, .int .u64 0])) w)
    (C2 : ∀ w, (callFunc 43 #[.int .u64 ma, .int .u64 rh, .int .u64 0]).run Try.prog w = .ok (.value (.tuple #[.int .u64 h2, .int .u64 cy])) w)
    (HPK : Hid (PPack n h2 rl (ea - 64) rt R)) :
    Calls Try.prog 18 #[.int .u64 a, .int .u64 b] w fun e w' => e = .returned (.int .u64 R) ∧ Below w.heap.size w w' := by
  have hE : (ea == eb) = false := by simp; omega
  have hn1 : ¬ ea < eb := by omega
  go_enter Try.func18, Try.ntmps18
  go_wp2_with (first
    | (go_at_call 33; (with_reducible refine (H1.out _).mono ?_); rintro e1 w1 ⟨rfl, rfl⟩)
    | (go_at_call 33; (with_reducible refine (H2.out _).mono ?_); rintro e1 w1 ⟨rfl, rfl⟩)
    | (go_at_call 35; (with_reducible refine (H3.out _).mono ?_); rintro e1 w1 ⟨rfl, rfl⟩)
    | (go_at_call 35; (with_reducible refine (H4.out _).mono ?_); rintro e1 w1 ⟨rfl, rfl⟩)
    | (go_at_call 36; (with_reducible refine (H5.out _).mono ?_); rintro e1 w1 ⟨rfl, rfl⟩)
    | (go_at_call 36; (with_reducible refine (H6.out _).mono ?_); rintro e1 w1 ⟨rfl, rfl⟩)
    | (go_at_call 39; (with_reducible refine (HSA.out _).mono ?_); rintro e1 w1 ⟨rfl, hb1⟩)
    | (go_at_call 39; (with_reducible refine (HSB.out _).mono ?_); rintro e2 w2 ⟨rfl, hb2⟩)
    | (go_at_call 42; (with_reducible refine (HRR.out _).mono ?_); rintro e3 w3 ⟨rfl, hb3⟩; obtain ⟨⟨k0, k1, k2⟩, ⟨k3, k4, k5⟩⟩ := two_cells hb3)
    | (go_at_call 41; (with_reducible refine (HPK.out _).mono ?_); rintro e4 w4 ⟨rfl, hb4⟩))
  go_ret
  exact ⟨rfl, add_fine hb1 hb2 hb3 hb4⟩
set_option maxRecDepth 100000 in
set_option maxHeartbeats 4000000 in
theorem add_more_00 (a b : Nat) (ma ea mb eb D rh rl l2 cy h2 c2 R : Int) (n : Bool) (w : World)
    (H1 : Hid (PNo 33 a)) (H2 : Hid (PNo 33 b)) (H3 : Hid (PNo 35 a)) (H4 : Hid (PNo 35 b)) (H5 : Hid (PNo 36 a)) (H6 : Hid (PNo 36 b))
    (HSA : Hid (PSplit a n ma ea)) (HSB : Hid (PSplit b (!n) mb eb)) (ho : eb < ea) (ba : -1074 ≤ ea ∧ ea ≤ 971) (bb : -1074 ≤ eb ∧ eb ≤ 971) (hD : ea - eb = D)
    (HRR : Hid (PRight mb D rh rl true)) (C1 : ∀ w, (callFunc 44 #[.int .u64 0, .int .u64 rl, .int .u64 1]).run Try.prog w = .ok (.value (.tuple #[.int .u64 l2, .int .u64 cy])) w)
    (C2 : ∀ w, (callFunc 44 #[.int .u64 ma, .int .u64 rh, .int .u64 cy]).run Try.prog w = .ok (.value (.tuple #[.int .u64 h2, .int .u64 c2])) w)
    (z : Bool) (Z : (bits .or .u64 h2 l2 != 0) = z) (HPK : Hid (PPack (n && z) h2 l2 (ea - 64) true R)) :
    Calls Try.prog 18 #[.int .u64 a, .int .u64 b] w fun e w' => e = .returned (.int .u64 R) ∧ Below w.heap.size w w' := by
  have hE : (ea == eb) = false := by simp; omega
  have hn1 : ¬ ea < eb := by omega
  cases n
  · simp only [Bool.not_false, Bool.true_and, Bool.false_and] at HPK HSA HSB
    go_enter Try.func18, Try.ntmps18
    go_wp2_with (first
      | (go_at_call 33; (with_reducible refine (H1.out _).mono ?_); rintro e1 w1 ⟨rfl, rfl⟩)
      | (go_at_call 33; (with_reducible refine (H2.out _).mono ?_); rintro e1 w1 ⟨rfl, rfl⟩)
      | (go_at_call 35; (with_reducible refine (H3.out _).mono ?_); rintro e1 w1 ⟨rfl, rfl⟩)
      | (go_at_call 35; (with_reducible refine (H4.out _).mono ?_); rintro e1 w1 ⟨rfl, rfl⟩)
      | (go_at_call 36; (with_reducible refine (H5.out _).mono ?_); rintro e1 w1 ⟨rfl, rfl⟩)
      | (go_at_call 36; (with_reducible refine (H6.out _).mono ?_); rintro e1 w1 ⟨rfl, rfl⟩)
      | (go_at_call 39; (with_reducible refine (HSA.out _).mono ?_); rintro e1 w1 ⟨rfl, hb1⟩)
      | (go_at_call 39; (with_reducible refine (HSB.out _).mono ?_); rintro e2 w2 ⟨rfl, hb2⟩)
      | (go_at_call 42; (with_reducible refine (HRR.out _).mono ?_); rintro e3 w3 ⟨rfl, hb3⟩; obtain ⟨⟨k0, k1, k2⟩, ⟨k3, k4, k5⟩⟩ := two_cells hb3)
      | (go_at_call 41; (with_reducible refine (HPK.out _).mono ?_); rintro e4 w4 ⟨rfl, hb4⟩))
    go_ret
    exact ⟨rfl, add_fine hb1 hb2 hb3 hb4⟩
  · simp only [Bool.not_true, Bool.true_and, Bool.false_and] at HPK HSA HSB
    go_enter Try.func18, Try.ntmps18
    go_wp2_with (first
      | (go_at_call 33; (with_reducible refine (H1.out _).mono ?_); rintro e1 w1 ⟨rfl, rfl⟩)
      | (go_at_call 33; (with_reducible refine (H2.out _).mono ?_); rintro e1 w1 ⟨rfl, rfl⟩)
      | (go_at_call 35; (with_reducible refine (H3.out _).mono ?_); rintro e1 w1 ⟨rfl, rfl⟩)
      | (go_at_call 35; (with_reducible refine (H4.out _).mono ?_); rintro e1 w1 ⟨rfl, rfl⟩)
      | (go_at_call 36; (with_reducible refine (H5.out _).mono ?_); rintro e1 w1 ⟨rfl, rfl⟩)
      | (go_at_call 36; (with_reducible refine (H6.out _).mono ?_); rintro e1 w1 ⟨rfl, rfl⟩)
      | (go_at_call 39; (with_reducible refine (HSA.out _).mono ?_); rintro e1 w1 ⟨rfl, hb1⟩)
      | (go_at_call 39; (with_reducible refine (HSB.out _).mono ?_); rintro e2 w2 ⟨rfl, hb2⟩)
      | (go_at_call 42; (with_reducible refine (HRR.out _).mono ?_); rintro e3 w3 ⟨rfl, hb3⟩; obtain ⟨⟨k0, k1, k2⟩, ⟨k3, k4, k5⟩⟩ := two_cells hb3)
      | (go_at_call 41; (with_reducible refine (HPK.out _).mono ?_); rintro e4 w4 ⟨rfl, hb4⟩))
    go_ret
    exact ⟨rfl, add_fine hb1 hb2 hb3 hb4⟩
set_option maxRecDepth 100000 in
set_option maxHeartbeats 4000000 in
theorem add_less_00 (a b : Nat) (ma ea mb eb D rh rl l2 cy h2 c2 R : Int) (n : Bool) (w : World)
    (H1 : Hid (PNo 33 a)) (H2 : Hid (PNo 33 b)) (H3 : Hid (PNo 35 a)) (H4 : Hid (PNo 35 b)) (H5 : Hid (PNo 36 a)) (H6 : Hid (PNo 36 b))
    (HSA : Hid (PSplit a n ma ea)) (HSB : Hid (PSplit b (!n) mb eb)) (ho : eb < ea) (ba : -1074 ≤ ea ∧ ea ≤ 971) (bb : -1074 ≤ eb ∧ eb ≤ 971) (hD : ea - eb = D)
    (HRR : Hid (PRight mb D rh rl false)) (C1 : ∀ w, (callFunc 44 #[.int .u64 0, .int .u64 rl, .int .u64 0]).run Try.prog w = .ok (.value (.tuple #[.int .u64 l2, .int .u64 cy])) w)
    (C2 : ∀ w, (callFunc 44 #[.int .u64 ma, .int .u64 rh, .int .u64 cy]).run Try.prog w = .ok (.value (.tuple #[.int .u64 h2, .int .u64 c2])) w)
    (z : Bool) (Z : (bits .or .u64 h2 l2 != 0) = z) (HPK : Hid (PPack (n && z) h2 l2 (ea - 64) false R)) :
    Calls Try.prog 18 #[.int .u64 a, .int .u64 b] w fun e w' => e = .returned (.int .u64 R) ∧ Below w.heap.size w w' := by
  have hE : (ea == eb) = false := by simp; omega
  have hn1 : ¬ ea < eb := by omega
  cases n
  · simp only [Bool.not_false, Bool.true_and, Bool.false_and] at HPK HSA HSB
    go_enter Try.func18, Try.ntmps18
    go_wp2_with (first
      | (go_at_call 33; (with_reducible refine (H1.out _).mono ?_); rintro e1 w1 ⟨rfl, rfl⟩)
      | (go_at_call 33; (with_reducible refine (H2.out _).mono ?_); rintro e1 w1 ⟨rfl, rfl⟩)
      | (go_at_call 35; (with_reducible refine (H3.out _).mono ?_); rintro e1 w1 ⟨rfl, rfl⟩)
      | (go_at_call 35; (with_reducible refine (H4.out _).mono ?_); rintro e1 w1 ⟨rfl, rfl⟩)
      | (go_at_call 36; (with_reducible refine (H5.out _).mono ?_); rintro e1 w1 ⟨rfl, rfl⟩)
      | (go_at_call 36; (with_reducible refine (H6.out _).mono ?_); rintro e1 w1 ⟨rfl, rfl⟩)
      | (go_at_call 39; (with_reducible refine (HSA.out _).mono ?_); rintro e1 w1 ⟨rfl, hb1⟩)
      | (go_at_call 39; (with_reducible refine (HSB.out _).mono ?_); rintro e2 w2 ⟨rfl, hb2⟩)
      | (go_at_call 42; (with_reducible refine (HRR.out _).mono ?_); rintro e3 w3 ⟨rfl, hb3⟩; obtain ⟨⟨k0, k1, k2⟩, ⟨k3, k4, k5⟩⟩ := two_cells hb3)
      | (go_at_call 41; (with_reducible refine (HPK.out _).mono ?_); rintro e4 w4 ⟨rfl, hb4⟩))
    go_ret
    exact ⟨rfl, add_fine hb1 hb2 hb3 hb4⟩
  · simp only [Bool.not_true, Bool.true_and, Bool.false_and] at HPK HSA HSB
    go_enter Try.func18, Try.ntmps18
    go_wp2_with (first
      | (go_at_call 33; (with_reducible refine (H1.out _).mono ?_); rintro e1 w1 ⟨rfl, rfl⟩)
      | (go_at_call 33; (with_reducible refine (H2.out _).mono ?_); rintro e1 w1 ⟨rfl, rfl⟩)
      | (go_at_call 35; (with_reducible refine (H3.out _).mono ?_); rintro e1 w1 ⟨rfl, rfl⟩)
      | (go_at_call 35; (with_reducible refine (H4.out _).mono ?_); rintro e1 w1 ⟨rfl, rfl⟩)
      | (go_at_call 36; (with_reducible refine (H5.out _).mono ?_); rintro e1 w1 ⟨rfl, rfl⟩)
      | (go_at_call 36; (with_reducible refine (H6.out _).mono ?_); rintro e1 w1 ⟨rfl, rfl⟩)
      | (go_at_call 39; (with_reducible refine (HSA.out _).mono ?_); rintro e1 w1 ⟨rfl, hb1⟩)
      | (go_at_call 39; (with_reducible refine (HSB.out _).mono ?_); rintro e2 w2 ⟨rfl, hb2⟩)
      | (go_at_call 42; (with_reducible refine (HRR.out _).mono ?_); rintro e3 w3 ⟨rfl, hb3⟩; obtain ⟨⟨k0, k1, k2⟩, ⟨k3, k4, k5⟩⟩ := two_cells hb3)
      | (go_at_call 41; (with_reducible refine (HPK.out _).mono ?_); rintro e4 w4 ⟨rfl, hb4⟩))
    go_ret
    exact ⟨rfl, add_fine hb1 hb2 hb3 hb4⟩
set_option maxRecDepth 100000 in
set_option maxHeartbeats 4000000 in
theorem add_same_01 (a b : Nat) (ma ea mb eb D rh rl h2 cy R : Int) (n : Bool) (rt : Bool) (w : World)
    (H1 : Hid (PNo 33 a)) (H2 : Hid (PNo 33 b)) (H3 : Hid (PNo 35 a)) (H4 : Hid (PNo 35 b)) (H5 : Hid (PNo 36 a)) (H6 : Hid (PNo 36 b))
    (HSA : Hid (PSplit a n ma ea)) (HSB : Hid (PSplit b n mb eb)) (hoe : ea = eb) (hm : ¬ ma < mb) (ba : -1074 ≤ ea ∧ ea ≤ 971) (bb : -1074 ≤ eb ∧ eb ≤ 971) (hD : ea - eb = D)
    (HRR : Hid (PRight mb D rh rl rt)) (C1 : ∀ w, (callFunc 43 #[.int .u64 0, .int .u64 rl, .int .u64 0]).run Try.prog w = .ok (.value (.tuple #[.int .u64 rl, .int .u64 0])) w)
    (C2 : ∀ w, (callFunc 43 #[.int .u64 ma, .int .u64 rh, .int .u64 0]).run Try.prog w = .ok (.value (.tuple #[.int .u64 h2, .int .u64 cy])) w)
    (HPK : Hid (PPack n h2 rl (ea - 64) rt R)) :
    Calls Try.prog 18 #[.int .u64 a, .int .u64 b] w fun e w' => e = .returned (.int .u64 R) ∧ Below w.heap.size w w' := by
  have hE : (ea == eb) = true := by simpa using hoe
  have hn1 : ¬ ea < eb := by omega
  clear hoe
  go_enter Try.func18, Try.ntmps18
  go_wp2_with (first
    | (go_at_call 33; (with_reducible refine (H1.out _).mono ?_); rintro e1 w1 ⟨rfl, rfl⟩)
    | (go_at_call 33; (with_reducible refine (H2.out _).mono ?_); rintro e1 w1 ⟨rfl, rfl⟩)
    | (go_at_call 35; (with_reducible refine (H3.out _).mono ?_); rintro e1 w1 ⟨rfl, rfl⟩)
    | (go_at_call 35; (with_reducible refine (H4.out _).mono ?_); rintro e1 w1 ⟨rfl, rfl⟩)
    | (go_at_call 36; (with_reducible refine (H5.out _).mono ?_); rintro e1 w1 ⟨rfl, rfl⟩)
    | (go_at_call 36; (with_reducible refine (H6.out _).mono ?_); rintro e1 w1 ⟨rfl, rfl⟩)
    | (go_at_call 39; (with_reducible refine (HSA.out _).mono ?_); rintro e1 w1 ⟨rfl, hb1⟩)
    | (go_at_call 39; (with_reducible refine (HSB.out _).mono ?_); rintro e2 w2 ⟨rfl, hb2⟩)
    | (go_at_call 42; (with_reducible refine (HRR.out _).mono ?_); rintro e3 w3 ⟨rfl, hb3⟩; obtain ⟨⟨k0, k1, k2⟩, ⟨k3, k4, k5⟩⟩ := two_cells hb3)
    | (go_at_call 41; (with_reducible refine (HPK.out _).mono ?_); rintro e4 w4 ⟨rfl, hb4⟩))
  go_ret
  exact ⟨rfl, add_fine hb1 hb2 hb3 hb4⟩
set_option maxRecDepth 100000 in
set_option maxHeartbeats 4000000 in
theorem add_more_01 (a b : Nat) (ma ea mb eb D rh rl l2 cy h2 c2 R : Int) (n : Bool) (w : World)
    (H1 : Hid (PNo 33 a)) (H2 : Hid (PNo 33 b)) (H3 : Hid (PNo 35 a)) (H4 : Hid (PNo 35 b)) (H5 : Hid (PNo 36 a)) (H6 : Hid (PNo 36 b))
    (HSA : Hid (PSplit a n ma ea)) (HSB : Hid (PSplit b (!n) mb eb)) (hoe : ea = eb) (hm : ¬ ma < mb) (ba : -1074 ≤ ea ∧ ea ≤ 971) (bb : -1074 ≤ eb ∧ eb ≤ 971) (hD : ea - eb = D)
    (HRR : Hid (PRight mb D rh rl true)) (C1 : ∀ w, (callFunc 44 #[.int .u64 0, .int .u64 rl, .int .u64 1]).run Try.prog w = .ok (.value (.tuple #[.int .u64 l2, .int .u64 cy])) w)
    (C2 : ∀ w, (callFunc 44 #[.int .u64 ma, .int .u64 rh, .int .u64 cy]).run Try.prog w = .ok (.value (.tuple #[.int .u64 h2, .int .u64 c2])) w)
    (z : Bool) (Z : (bits .or .u64 h2 l2 != 0) = z) (HPK : Hid (PPack (n && z) h2 l2 (ea - 64) true R)) :
    Calls Try.prog 18 #[.int .u64 a, .int .u64 b] w fun e w' => e = .returned (.int .u64 R) ∧ Below w.heap.size w w' := by
  have hE : (ea == eb) = true := by simpa using hoe
  have hn1 : ¬ ea < eb := by omega
  clear hoe
  cases n
  · simp only [Bool.not_false, Bool.true_and, Bool.false_and] at HPK HSA HSB
    go_enter Try.func18, Try.ntmps18
    go_wp2_with (first
      | (go_at_call 33; (with_reducible refine (H1.out _).mono ?_); rintro e1 w1 ⟨rfl, rfl⟩)
      | (go_at_call 33; (with_reducible refine (H2.out _).mono ?_); rintro e1 w1 ⟨rfl, rfl⟩)
      | (go_at_call 35; (with_reducible refine (H3.out _).mono ?_); rintro e1 w1 ⟨rfl, rfl⟩)
      | (go_at_call 35; (with_reducible refine (H4.out _).mono ?_); rintro e1 w1 ⟨rfl, rfl⟩)
      | (go_at_call 36; (with_reducible refine (H5.out _).mono ?_); rintro e1 w1 ⟨rfl, rfl⟩)
      | (go_at_call 36; (with_reducible refine (H6.out _).mono ?_); rintro e1 w1 ⟨rfl, rfl⟩)
      | (go_at_call 39; (with_reducible refine (HSA.out _).mono ?_); rintro e1 w1 ⟨rfl, hb1⟩)
      | (go_at_call 39; (with_reducible refine (HSB.out _).mono ?_); rintro e2 w2 ⟨rfl, hb2⟩)
      | (go_at_call 42; (with_reducible refine (HRR.out _).mono ?_); rintro e3 w3 ⟨rfl, hb3⟩; obtain ⟨⟨k0, k1, k2⟩, ⟨k3, k4, k5⟩⟩ := two_cells hb3)
      | (go_at_call 41; (with_reducible refine (HPK.out _).mono ?_); rintro e4 w4 ⟨rfl, hb4⟩))
    go_ret
    exact ⟨rfl, add_fine hb1 hb2 hb3 hb4⟩
  · simp only [Bool.not_true, Bool.true_and, Bool.false_and] at HPK HSA HSB
    go_enter Try.func18, Try.ntmps18
    go_wp2_with (first
      | (go_at_call 33; (with_reducible refine (H1.out _).mono ?_); rintro e1 w1 ⟨rfl, rfl⟩)
      | (go_at_call 33; (with_reducible refine (H2.out _).mono ?_); rintro e1 w1 ⟨rfl, rfl⟩)
      | (go_at_call 35; (with_reducible refine (H3.out _).mono ?_); rintro e1 w1 ⟨rfl, rfl⟩)
      | (go_at_call 35; (with_reducible refine (H4.out _).mono ?_); rintro e1 w1 ⟨rfl, rfl⟩)
      | (go_at_call 36; (with_reducible refine (H5.out _).mono ?_); rintro e1 w1 ⟨rfl, rfl⟩)
      | (go_at_call 36; (with_reducible refine (H6.out _).mono ?_); rintro e1 w1 ⟨rfl, rfl⟩)
      | (go_at_call 39; (with_reducible refine (HSA.out _).mono ?_); rintro e1 w1 ⟨rfl, hb1⟩)
      | (go_at_call 39; (with_reducible refine (HSB.out _).mono ?_); rintro e2 w2 ⟨rfl, hb2⟩)
      | (go_at_call 42; (with_reducible refine (HRR.out _).mono ?_); rintro e3 w3 ⟨rfl, hb3⟩; obtain ⟨⟨k0, k1, k2⟩, ⟨k3, k4, k5⟩⟩ := two_cells hb3)
      | (go_at_call 41; (with_reducible refine (HPK.out _).mono ?_); rintro e4 w4 ⟨rfl, hb4⟩))
    go_ret
    exact ⟨rfl, add_fine hb1 hb2 hb3 hb4⟩
set_option maxRecDepth 100000 in
set_option maxHeartbeats 4000000 in
theorem add_less_01 (a b : Nat) (ma ea mb eb D rh rl l2 cy h2 c2 R : Int) (n : Bool) (w : World)
    (H1 : Hid (PNo 33 a)) (H2 : Hid (PNo 33 b)) (H3 : Hid (PNo 35 a)) (H4 : Hid (PNo 35 b)) (H5 : Hid (PNo 36 a)) (H6 : Hid (PNo 36 b))
    (HSA : Hid (PSplit a n ma ea)) (HSB : Hid (PSplit b (!n) mb eb)) (hoe : ea = eb) (hm : ¬ ma < mb) (ba : -1074 ≤ ea ∧ ea ≤ 971) (bb : -1074 ≤ eb ∧ eb ≤ 971) (hD : ea - eb = D)
    (HRR : Hid (PRight mb D rh rl false)) (C1 : ∀ w, (callFunc 44 #[.int .u64 0, .int .u64 rl, .int .u64 0]).run Try.prog w = .ok (.value (.tuple #[.int .u64 l2, .int .u64 cy])) w)
    (C2 : ∀ w, (callFunc 44 #[.int .u64 ma, .int .u64 rh, .int .u64 cy]).run Try.prog w = .ok (.value (.tuple #[.int .u64 h2, .int .u64 c2])) w)
    (z : Bool) (Z : (bits .or .u64 h2 l2 != 0) = z) (HPK : Hid (PPack (n && z) h2 l2 (ea - 64) false R)) :
    Calls Try.prog 18 #[.int .u64 a, .int .u64 b] w fun e w' => e = .returned (.int .u64 R) ∧ Below w.heap.size w w' := by
  have hE : (ea == eb) = true := by simpa using hoe
  have hn1 : ¬ ea < eb := by omega
  clear hoe
  cases n
  · simp only [Bool.not_false, Bool.true_and, Bool.false_and] at HPK HSA HSB
    go_enter Try.func18, Try.ntmps18
    go_wp2_with (first
      | (go_at_call 33; (with_reducible refine (H1.out _).mono ?_); rintro e1 w1 ⟨rfl, rfl⟩)
      | (go_at_call 33; (with_reducible refine (H2.out _).mono ?_); rintro e1 w1 ⟨rfl, rfl⟩)
      | (go_at_call 35; (with_reducible refine (H3.out _).mono ?_); rintro e1 w1 ⟨rfl, rfl⟩)
      | (go_at_call 35; (with_reducible refine (H4.out _).mono ?_); rintro e1 w1 ⟨rfl, rfl⟩)
      | (go_at_call 36; (with_reducible refine (H5.out _).mono ?_); rintro e1 w1 ⟨rfl, rfl⟩)
      | (go_at_call 36; (with_reducible refine (H6.out _).mono ?_); rintro e1 w1 ⟨rfl, rfl⟩)
      | (go_at_call 39; (with_reducible refine (HSA.out _).mono ?_); rintro e1 w1 ⟨rfl, hb1⟩)
      | (go_at_call 39; (with_reducible refine (HSB.out _).mono ?_); rintro e2 w2 ⟨rfl, hb2⟩)
      | (go_at_call 42; (with_reducible refine (HRR.out _).mono ?_); rintro e3 w3 ⟨rfl, hb3⟩; obtain ⟨⟨k0, k1, k2⟩, ⟨k3, k4, k5⟩⟩ := two_cells hb3)
      | (go_at_call 41; (with_reducible refine (HPK.out _).mono ?_); rintro e4 w4 ⟨rfl, hb4⟩))
    go_ret
    exact ⟨rfl, add_fine hb1 hb2 hb3 hb4⟩
  · simp only [Bool.not_true, Bool.true_and, Bool.false_and] at HPK HSA HSB
    go_enter Try.func18, Try.ntmps18
    go_wp2_with (first
      | (go_at_call 33; (with_reducible refine (H1.out _).mono ?_); rintro e1 w1 ⟨rfl, rfl⟩)
      | (go_at_call 33; (with_reducible refine (H2.out _).mono ?_); rintro e1 w1 ⟨rfl, rfl⟩)
      | (go_at_call 35; (with_reducible refine (H3.out _).mono ?_); rintro e1 w1 ⟨rfl, rfl⟩)
      | (go_at_call 35; (with_reducible refine (H4.out _).mono ?_); rintro e1 w1 ⟨rfl, rfl⟩)
      | (go_at_call 36; (with_reducible refine (H5.out _).mono ?_); rintro e1 w1 ⟨rfl, rfl⟩)
      | (go_at_call 36; (with_reducible refine (H6.out _).mono ?_); rintro e1 w1 ⟨rfl, rfl⟩)
      | (go_at_call 39; (with_reducible refine (HSA.out _).mono ?_); rintro e1 w1 ⟨rfl, hb1⟩)
      | (go_at_call 39; (with_reducible refine (HSB.out _).mono ?_); rintro e2 w2 ⟨rfl, hb2⟩)
      | (go_at_call 42; (with_reducible refine (HRR.out _).mono ?_); rintro e3 w3 ⟨rfl, hb3⟩; obtain ⟨⟨k0, k1, k2⟩, ⟨k3, k4, k5⟩⟩ := two_cells hb3)
      | (go_at_call 41; (with_reducible refine (HPK.out _).mono ?_); rintro e4 w4 ⟨rfl, hb4⟩))
    go_ret
    exact ⟨rfl, add_fine hb1 hb2 hb3 hb4⟩
set_option maxRecDepth 100000 in
set_option maxHeartbeats 4000000 in
theorem add_same_10 (a b : Nat) (ma ea mb eb D rh rl h2 cy R : Int) (n : Bool) (rt : Bool) (w : World)
    (H1 : Hid (PNo 33 a)) (H2 : Hid (PNo 33 b)) (H3 : Hid (PNo 35 a)) (H4 : Hid (PNo 35 b)) (H5 : Hid (PNo 36 a)) (H6 : Hid (PNo 36 b))
    (HSA : Hid (PSplit a n ma ea)) (HSB : Hid (PSplit b n mb eb)) (ho : ea < eb) (ba : -1074 ≤ ea ∧ ea ≤ 971) (bb : -1074 ≤ eb ∧ eb ≤ 971) (hD : eb - ea = D)
    (HRR : Hid (PRight ma D rh rl rt)) (C1 : ∀ w, (callFunc 43 #[.int .u64 0, .int .u64 rl, .int .u64 0]).run Try.prog w = .ok (.value (.tuple #[.int .u64 rl, .int .u64 0])) w)
    (C2 : ∀ w, (callFunc 43 #[.int .u64 mb, .int .u64 rh, .int .u64 0]).run Try.prog w = .ok (.value (.tuple #[.int .u64 h2, .int .u64 cy])) w)
    (HPK : Hid (PPack n h2 rl (eb - 64) rt R)) :
    Calls Try.prog 18 #[.int .u64 a, .int .u64 b] w fun e w' => e = .returned (.int .u64 R) ∧ Below w.heap.size w w' := by
  go_enter Try.func18, Try.ntmps18
  go_wp2_with (first
    | (go_at_call 33; (with_reducible refine (H1.out _).mono ?_); rintro e1 w1 ⟨rfl, rfl⟩)
    | (go_at_call 33; (with_reducible refine (H2.out _).mono ?_); rintro e1 w1 ⟨rfl, rfl⟩)
    | (go_at_call 35; (with_reducible refine (H3.out _).mono ?_); rintro e1 w1 ⟨rfl, rfl⟩)
    | (go_at_call 35; (with_reducible refine (H4.out _).mono ?_); rintro e1 w1 ⟨rfl, rfl⟩)
    | (go_at_call 36; (with_reducible refine (H5.out _).mono ?_); rintro e1 w1 ⟨rfl, rfl⟩)
    | (go_at_call 36; (with_reducible refine (H6.out _).mono ?_); rintro e1 w1 ⟨rfl, rfl⟩)
    | (go_at_call 39; (with_reducible refine (HSA.out _).mono ?_); rintro e1 w1 ⟨rfl, hb1⟩)
    | (go_at_call 39; (with_reducible refine (HSB.out _).mono ?_); rintro e2 w2 ⟨rfl, hb2⟩)
    | (go_at_call 42; (with_reducible refine (HRR.out _).mono ?_); rintro e3 w3 ⟨rfl, hb3⟩; obtain ⟨⟨k0, k1, k2⟩, ⟨k3, k4, k5⟩⟩ := two_cells hb3)
    | (go_at_call 41; (with_reducible refine (HPK.out _).mono ?_); rintro e4 w4 ⟨rfl, hb4⟩))
  go_ret
  exact ⟨rfl, add_fine hb1 hb2 hb3 hb4⟩
set_option maxRecDepth 100000 in
set_option maxHeartbeats 4000000 in
theorem add_more_10 (a b : Nat) (ma ea mb eb D rh rl l2 cy h2 c2 R : Int) (n : Bool) (w : World)
    (H1 : Hid (PNo 33 a)) (H2 : Hid (PNo 33 b)) (H3 : Hid (PNo 35 a)) (H4 : Hid (PNo 35 b)) (H5 : Hid (PNo 36 a)) (H6 : Hid (PNo 36 b))
    (HSA : Hid (PSplit a n ma ea)) (HSB : Hid (PSplit b (!n) mb eb)) (ho : ea < eb) (ba : -1074 ≤ ea ∧ ea ≤ 971) (bb : -1074 ≤ eb ∧ eb ≤ 971) (hD : eb - ea = D)
    (HRR : Hid (PRight ma D rh rl true)) (C1 : ∀ w, (callFunc 44 #[.int .u64 0, .int .u64 rl, .int .u64 1]).run Try.prog w = .ok (.value (.tuple #[.int .u64 l2, .int .u64 cy])) w)
    (C2 : ∀ w, (callFunc 44 #[.int .u64 mb, .int .u64 rh, .int .u64 cy]).run Try.prog w = .ok (.value (.tuple #[.int .u64 h2, .int .u64 c2])) w)
    (z : Bool) (Z : (bits .or .u64 h2 l2 != 0) = z) (HPK : Hid (PPack ((!n) && z) h2 l2 (eb - 64) true R)) :
    Calls Try.prog 18 #[.int .u64 a, .int .u64 b] w fun e w' => e = .returned (.int .u64 R) ∧ Below w.heap.size w w' := by
  cases n
  · simp only [Bool.not_false, Bool.true_and, Bool.false_and] at HPK HSA HSB
    go_enter Try.func18, Try.ntmps18
    go_wp2_with (first
      | (go_at_call 33; (with_reducible refine (H1.out _).mono ?_); rintro e1 w1 ⟨rfl, rfl⟩)
      | (go_at_call 33; (with_reducible refine (H2.out _).mono ?_); rintro e1 w1 ⟨rfl, rfl⟩)
      | (go_at_call 35; (with_reducible refine (H3.out _).mono ?_); rintro e1 w1 ⟨rfl, rfl⟩)
      | (go_at_call 35; (with_reducible refine (H4.out _).mono ?_); rintro e1 w1 ⟨rfl, rfl⟩)
      | (go_at_call 36; (with_reducible refine (H5.out _).mono ?_); rintro e1 w1 ⟨rfl, rfl⟩)
      | (go_at_call 36; (with_reducible refine (H6.out _).mono ?_); rintro e1 w1 ⟨rfl, rfl⟩)
      | (go_at_call 39; (with_reducible refine (HSA.out _).mono ?_); rintro e1 w1 ⟨rfl, hb1⟩)
      | (go_at_call 39; (with_reducible refine (HSB.out _).mono ?_); rintro e2 w2 ⟨rfl, hb2⟩)
      | (go_at_call 42; (with_reducible refine (HRR.out _).mono ?_); rintro e3 w3 ⟨rfl, hb3⟩; obtain ⟨⟨k0, k1, k2⟩, ⟨k3, k4, k5⟩⟩ := two_cells hb3)
      | (go_at_call 41; (with_reducible refine (HPK.out _).mono ?_); rintro e4 w4 ⟨rfl, hb4⟩))
    go_ret
    exact ⟨rfl, add_fine hb1 hb2 hb3 hb4⟩
  · simp only [Bool.not_true, Bool.true_and, Bool.false_and] at HPK HSA HSB
    go_enter Try.func18, Try.ntmps18
    go_wp2_with (first
      | (go_at_call 33; (with_reducible refine (H1.out _).mono ?_); rintro e1 w1 ⟨rfl, rfl⟩)
      | (go_at_call 33; (with_reducible refine (H2.out _).mono ?_); rintro e1 w1 ⟨rfl, rfl⟩)
      | (go_at_call 35; (with_reducible refine (H3.out _).mono ?_); rintro e1 w1 ⟨rfl, rfl⟩)
      | (go_at_call 35; (with_reducible refine (H4.out _).mono ?_); rintro e1 w1 ⟨rfl, rfl⟩)
      | (go_at_call 36; (with_reducible refine (H5.out _).mono ?_); rintro e1 w1 ⟨rfl, rfl⟩)
      | (go_at_call 36; (with_reducible refine (H6.out _).mono ?_); rintro e1 w1 ⟨rfl, rfl⟩)
      | (go_at_call 39; (with_reducible refine (HSA.out _).mono ?_); rintro e1 w1 ⟨rfl, hb1⟩)
      | (go_at_call 39; (with_reducible refine (HSB.out _).mono ?_); rintro e2 w2 ⟨rfl, hb2⟩)
      | (go_at_call 42; (with_reducible refine (HRR.out _).mono ?_); rintro e3 w3 ⟨rfl, hb3⟩; obtain ⟨⟨k0, k1, k2⟩, ⟨k3, k4, k5⟩⟩ := two_cells hb3)
      | (go_at_call 41; (with_reducible refine (HPK.out _).mono ?_); rintro e4 w4 ⟨rfl, hb4⟩))
    go_ret
    exact ⟨rfl, add_fine hb1 hb2 hb3 hb4⟩
set_option maxRecDepth 100000 in
set_option maxHeartbeats 4000000 in
theorem add_less_10 (a b : Nat) (ma ea mb eb D rh rl l2 cy h2 c2 R : Int) (n : Bool) (w : World)
    (H1 : Hid (PNo 33 a)) (H2 : Hid (PNo 33 b)) (H3 : Hid (PNo 35 a)) (H4 : Hid (PNo 35 b)) (H5 : Hid (PNo 36 a)) (H6 : Hid (PNo 36 b))
    (HSA : Hid (PSplit a n ma ea)) (HSB : Hid (PSplit b (!n) mb eb)) (ho : ea < eb) (ba : -1074 ≤ ea ∧ ea ≤ 971) (bb : -1074 ≤ eb ∧ eb ≤ 971) (hD : eb - ea = D)
    (HRR : Hid (PRight ma D rh rl false)) (C1 : ∀ w, (callFunc 44 #[.int .u64 0, .int .u64 rl, .int .u64 0]).run Try.prog w = .ok (.value (.tuple #[.int .u64 l2, .int .u64 cy])) w)
    (C2 : ∀ w, (callFunc 44 #[.int .u64 mb, .int .u64 rh, .int .u64 cy]).run Try.prog w = .ok (.value (.tuple #[.int .u64 h2, .int .u64 c2])) w)
    (z : Bool) (Z : (bits .or .u64 h2 l2 != 0) = z) (HPK : Hid (PPack ((!n) && z) h2 l2 (eb - 64) false R)) :
    Calls Try.prog 18 #[.int .u64 a, .int .u64 b] w fun e w' => e = .returned (.int .u64 R) ∧ Below w.heap.size w w' := by
  cases n
  · simp only [Bool.not_false, Bool.true_and, Bool.false_and] at HPK HSA HSB
    go_enter Try.func18, Try.ntmps18
    go_wp2_with (first
      | (go_at_call 33; (with_reducible refine (H1.out _).mono ?_); rintro e1 w1 ⟨rfl, rfl⟩)
      | (go_at_call 33; (with_reducible refine (H2.out _).mono ?_); rintro e1 w1 ⟨rfl, rfl⟩)
      | (go_at_call 35; (with_reducible refine (H3.out _).mono ?_); rintro e1 w1 ⟨rfl, rfl⟩)
      | (go_at_call 35; (with_reducible refine (H4.out _).mono ?_); rintro e1 w1 ⟨rfl, rfl⟩)
      | (go_at_call 36; (with_reducible refine (H5.out _).mono ?_); rintro e1 w1 ⟨rfl, rfl⟩)
      | (go_at_call 36; (with_reducible refine (H6.out _).mono ?_); rintro e1 w1 ⟨rfl, rfl⟩)
      | (go_at_call 39; (with_reducible refine (HSA.out _).mono ?_); rintro e1 w1 ⟨rfl, hb1⟩)
      | (go_at_call 39; (with_reducible refine (HSB.out _).mono ?_); rintro e2 w2 ⟨rfl, hb2⟩)
      | (go_at_call 42; (with_reducible refine (HRR.out _).mono ?_); rintro e3 w3 ⟨rfl, hb3⟩; obtain ⟨⟨k0, k1, k2⟩, ⟨k3, k4, k5⟩⟩ := two_cells hb3)
      | (go_at_call 41; (with_reducible refine (HPK.out _).mono ?_); rintro e4 w4 ⟨rfl, hb4⟩))
    go_ret
    exact ⟨rfl, add_fine hb1 hb2 hb3 hb4⟩
  · simp only [Bool.not_true, Bool.true_and, Bool.false_and] at HPK HSA HSB
    go_enter Try.func18, Try.ntmps18
    go_wp2_with (first
      | (go_at_call 33; (with_reducible refine (H1.out _).mono ?_); rintro e1 w1 ⟨rfl, rfl⟩)
      | (go_at_call 33; (with_reducible refine (H2.out _).mono ?_); rintro e1 w1 ⟨rfl, rfl⟩)
      | (go_at_call 35; (with_reducible refine (H3.out _).mono ?_); rintro e1 w1 ⟨rfl, rfl⟩)
      | (go_at_call 35; (with_reducible refine (H4.out _).mono ?_); rintro e1 w1 ⟨rfl, rfl⟩)
      | (go_at_call 36; (with_reducible refine (H5.out _).mono ?_); rintro e1 w1 ⟨rfl, rfl⟩)
      | (go_at_call 36; (with_reducible refine (H6.out _).mono ?_); rintro e1 w1 ⟨rfl, rfl⟩)
      | (go_at_call 39; (with_reducible refine (HSA.out _).mono ?_); rintro e1 w1 ⟨rfl, hb1⟩)
      | (go_at_call 39; (with_reducible refine (HSB.out _).mono ?_); rintro e2 w2 ⟨rfl, hb2⟩)
      | (go_at_call 42; (with_reducible refine (HRR.out _).mono ?_); rintro e3 w3 ⟨rfl, hb3⟩; obtain ⟨⟨k0, k1, k2⟩, ⟨k3, k4, k5⟩⟩ := two_cells hb3)
      | (go_at_call 41; (with_reducible refine (HPK.out _).mono ?_); rintro e4 w4 ⟨rfl, hb4⟩))
    go_ret
    exact ⟨rfl, add_fine hb1 hb2 hb3 hb4⟩
set_option maxRecDepth 100000 in
set_option maxHeartbeats 4000000 in
theorem add_same_11 (a b : Nat) (ma ea mb eb D rh rl h2 cy R : Int) (n : Bool) (rt : Bool) (w : World)
    (H1 : Hid (PNo 33 a)) (H2 : Hid (PNo 33 b)) (H3 : Hid (PNo 35 a)) (H4 : Hid (PNo 35 b)) (H5 : Hid (PNo 36 a)) (H6 : Hid (PNo 36 b))
    (HSA : Hid (PSplit a n ma ea)) (HSB : Hid (PSplit b n mb eb)) (hoe : ea = eb) (hm : ma < mb) (ba : -1074 ≤ ea ∧ ea ≤ 971) (bb : -1074 ≤ eb ∧ eb ≤ 971) (hD : eb - ea = D)
    (HRR : Hid (PRight ma D rh rl rt)) (C1 : ∀ w, (callFunc 43 #[.int .u64 0, .int .u64 rl, .int .u64 0]).run Try.prog w = .ok (.value (.tuple #[.int .u64 rl, .int .u64 0])) w)
    (C2 : ∀ w, (callFunc 43 #[.int .u64 mb, .int .u64 rh, .int .u64 0]).run Try.prog w = .ok (.value (.tuple #[.int .u64 h2, .int .u64 cy])) w)
    (HPK : Hid (PPack n h2 rl (eb - 64) rt R)) :
    Calls Try.prog 18 #[.int .u64 a, .int .u64 b] w fun e w' => e = .returned (.int .u64 R) ∧ Below w.heap.size w w' := by
  have hE : (ea == eb) = true := by simpa using hoe
  have hn1 : ¬ ea < eb := by omega
  clear hoe
  go_enter Try.func18, Try.ntmps18
  go_wp2_with (first
    | (go_at_call 33; (with_reducible refine (H1.out _).mono ?_); rintro e1 w1 ⟨rfl, rfl⟩)
    | (go_at_call 33; (with_reducible refine (H2.out _).mono ?_); rintro e1 w1 ⟨rfl, rfl⟩)
    | (go_at_call 35; (with_reducible refine (H3.out _).mono ?_); rintro e1 w1 ⟨rfl, rfl⟩)
    | (go_at_call 35; (with_reducible refine (H4.out _).mono ?_); rintro e1 w1 ⟨rfl, rfl⟩)
    | (go_at_call 36; (with_reducible refine (H5.out _).mono ?_); rintro e1 w1 ⟨rfl, rfl⟩)
    | (go_at_call 36; (with_reducible refine (H6.out _).mono ?_); rintro e1 w1 ⟨rfl, rfl⟩)
    | (go_at_call 39; (with_reducible refine (HSA.out _).mono ?_); rintro e1 w1 ⟨rfl, hb1⟩)
    | (go_at_call 39; (with_reducible refine (HSB.out _).mono ?_); rintro e2 w2 ⟨rfl, hb2⟩)
    | (go_at_call 42; (with_reducible refine (HRR.out _).mono ?_); rintro e3 w3 ⟨rfl, hb3⟩; obtain ⟨⟨k0, k1, k2⟩, ⟨k3, k4, k5⟩⟩ := two_cells hb3)
    | (go_at_call 41; (with_reducible refine (HPK.out _).mono ?_); rintro e4 w4 ⟨rfl, hb4⟩))
  go_ret
  exact ⟨rfl, add_fine hb1 hb2 hb3 hb4⟩
set_option maxRecDepth 100000 in
set_option maxHeartbeats 4000000 in
theorem add_more_11 (a b : Nat) (ma ea mb eb D rh rl l2 cy h2 c2 R : Int) (n : Bool) (w : World)
    (H1 : Hid (PNo 33 a)) (H2 : Hid (PNo 33 b)) (H3 : Hid (PNo 35 a)) (H4 : Hid (PNo 35 b)) (H5 : Hid (PNo 36 a)) (H6 : Hid (PNo 36 b))
    (HSA : Hid (PSplit a n ma ea)) (HSB : Hid (PSplit b (!n) mb eb)) (hoe : ea = eb) (hm : ma < mb) (ba : -1074 ≤ ea ∧ ea ≤ 971) (bb : -1074 ≤ eb ∧ eb ≤ 971) (hD : eb - ea = D)
    (HRR : Hid (PRight ma D rh rl true)) (C1 : ∀ w, (callFunc 44 #[.int .u64 0, .int .u64 rl, .int .u64 1]).run Try.prog w = .ok (.value (.tuple #[.int .u64 l2, .int .u64 cy])) w)
    (C2 : ∀ w, (callFunc 44 #[.int .u64 mb, .int .u64 rh, .int .u64 cy]).run Try.prog w = .ok (.value (.tuple #[.int .u64 h2, .int .u64 c2])) w)
    (z : Bool) (Z : (bits .or .u64 h2 l2 != 0) = z) (HPK : Hid (PPack ((!n) && z) h2 l2 (eb - 64) true R)) :
    Calls Try.prog 18 #[.int .u64 a, .int .u64 b] w fun e w' => e = .returned (.int .u64 R) ∧ Below w.heap.size w w' := by
  have hE : (ea == eb) = true := by simpa using hoe
  have hn1 : ¬ ea < eb := by omega
  clear hoe
  cases n
  · simp only [Bool.not_false, Bool.true_and, Bool.false_and] at HPK HSA HSB
    go_enter Try.func18, Try.ntmps18
    go_wp2_with (first
      | (go_at_call 33; (with_reducible refine (H1.out _).mono ?_); rintro e1 w1 ⟨rfl, rfl⟩)
      | (go_at_call 33; (with_reducible refine (H2.out _).mono ?_); rintro e1 w1 ⟨rfl, rfl⟩)
      | (go_at_call 35; (with_reducible refine (H3.out _).mono ?_); rintro e1 w1 ⟨rfl, rfl⟩)
      | (go_at_call 35; (with_reducible refine (H4.out _).mono ?_); rintro e1 w1 ⟨rfl, rfl⟩)
      | (go_at_call 36; (with_reducible refine (H5.out _).mono ?_); rintro e1 w1 ⟨rfl, rfl⟩)
      | (go_at_call 36; (with_reducible refine (H6.out _).mono ?_); rintro e1 w1 ⟨rfl, rfl⟩)
      | (go_at_call 39; (with_reducible refine (HSA.out _).mono ?_); rintro e1 w1 ⟨rfl, hb1⟩)
      | (go_at_call 39; (with_reducible refine (HSB.out _).mono ?_); rintro e2 w2 ⟨rfl, hb2⟩)
      | (go_at_call 42; (with_reducible refine (HRR.out _).mono ?_); rintro e3 w3 ⟨rfl, hb3⟩; obtain ⟨⟨k0, k1, k2⟩, ⟨k3, k4, k5⟩⟩ := two_cells hb3)
      | (go_at_call 41; (with_reducible refine (HPK.out _).mono ?_); rintro e4 w4 ⟨rfl, hb4⟩))
    go_ret
    exact ⟨rfl, add_fine hb1 hb2 hb3 hb4⟩
  · simp only [Bool.not_true, Bool.true_and, Bool.false_and] at HPK HSA HSB
    go_enter Try.func18, Try.ntmps18
    go_wp2_with (first
      | (go_at_call 33; (with_reducible refine (H1.out _).mono ?_); rintro e1 w1 ⟨rfl, rfl⟩)
      | (go_at_call 33; (with_reducible refine (H2.out _).mono ?_); rintro e1 w1 ⟨rfl, rfl⟩)
      | (go_at_call 35; (with_reducible refine (H3.out _).mono ?_); rintro e1 w1 ⟨rfl, rfl⟩)
      | (go_at_call 35; (with_reducible refine (H4.out _).mono ?_); rintro e1 w1 ⟨rfl, rfl⟩)
      | (go_at_call 36; (with_reducible refine (H5.out _).mono ?_); rintro e1 w1 ⟨rfl, rfl⟩)
      | (go_at_call 36; (with_reducible refine (H6.out _).mono ?_); rintro e1 w1 ⟨rfl, rfl⟩)
      | (go_at_call 39; (with_reducible refine (HSA.out _).mono ?_); rintro e1 w1 ⟨rfl, hb1⟩)
      | (go_at_call 39; (with_reducible refine (HSB.out _).mono ?_); rintro e2 w2 ⟨rfl, hb2⟩)
      | (go_at_call 42; (with_reducible refine (HRR.out _).mono ?_); rintro e3 w3 ⟨rfl, hb3⟩; obtain ⟨⟨k0, k1, k2⟩, ⟨k3, k4, k5⟩⟩ := two_cells hb3)
      | (go_at_call 41; (with_reducible refine (HPK.out _).mono ?_); rintro e4 w4 ⟨rfl, hb4⟩))
    go_ret
    exact ⟨rfl, add_fine hb1 hb2 hb3 hb4⟩
set_option maxRecDepth 100000 in
set_option maxHeartbeats 4000000 in
theorem add_less_11 (a b : Nat) (ma ea mb eb D rh rl l2 cy h2 c2 R : Int) (n : Bool) (w : World)
    (H1 : Hid (PNo 33 a)) (H2 : Hid (PNo 33 b)) (H3 : Hid (PNo 35 a)) (H4 : Hid (PNo 35 b)) (H5 : Hid (PNo 36 a)) (H6 : Hid (PNo 36 b))
    (HSA : Hid (PSplit a n ma ea)) (HSB : Hid (PSplit b (!n) mb eb)) (hoe : ea = eb) (hm : ma < mb) (ba : -1074 ≤ ea ∧ ea ≤ 971) (bb : -1074 ≤ eb ∧ eb ≤ 971) (hD : eb - ea = D)
    (HRR : Hid (PRight ma D rh rl false)) (C1 : ∀ w, (callFunc 44 #[.int .u64 0, .int .u64 rl, .int .u64 0]).run Try.prog w = .ok (.value (.tuple #[.int .u64 l2, .int .u64 cy])) w)
    (C2 : ∀ w, (callFunc 44 #[.int .u64 mb, .int .u64 rh, .int .u64 cy]).run Try.prog w = .ok (.value (.tuple #[.int .u64 h2, .int .u64 c2])) w)
    (z : Bool) (Z : (bits .or .u64 h2 l2 != 0) = z) (HPK : Hid (PPack ((!n) && z) h2 l2 (eb - 64) false R)) :
    Calls Try.prog 18 #[.int .u64 a, .int .u64 b] w fun e w' => e = .returned (.int .u64 R) ∧ Below w.heap.size w w' := by
  have hE : (ea == eb) = true := by simpa using hoe
  have hn1 : ¬ ea < eb := by omega
  clear hoe
  cases n
  · simp only [Bool.not_false, Bool.true_and, Bool.false_and] at HPK HSA HSB
    go_enter Try.func18, Try.ntmps18
    go_wp2_with (first
      | (go_at_call 33; (with_reducible refine (H1.out _).mono ?_); rintro e1 w1 ⟨rfl, rfl⟩)
      | (go_at_call 33; (with_reducible refine (H2.out _).mono ?_); rintro e1 w1 ⟨rfl, rfl⟩)
      | (go_at_call 35; (with_reducible refine (H3.out _).mono ?_); rintro e1 w1 ⟨rfl, rfl⟩)
      | (go_at_call 35; (with_reducible refine (H4.out _).mono ?_); rintro e1 w1 ⟨rfl, rfl⟩)
      | (go_at_call 36; (with_reducible refine (H5.out _).mono ?_); rintro e1 w1 ⟨rfl, rfl⟩)
      | (go_at_call 36; (with_reducible refine (H6.out _).mono ?_); rintro e1 w1 ⟨rfl, rfl⟩)
      | (go_at_call 39; (with_reducible refine (HSA.out _).mono ?_); rintro e1 w1 ⟨rfl, hb1⟩)
      | (go_at_call 39; (with_reducible refine (HSB.out _).mono ?_); rintro e2 w2 ⟨rfl, hb2⟩)
      | (go_at_call 42; (with_reducible refine (HRR.out _).mono ?_); rintro e3 w3 ⟨rfl, hb3⟩; obtain ⟨⟨k0, k1, k2⟩, ⟨k3, k4, k5⟩⟩ := two_cells hb3)
      | (go_at_call 41; (with_reducible refine (HPK.out _).mono ?_); rintro e4 w4 ⟨rfl, hb4⟩))
    go_ret
    exact ⟨rfl, add_fine hb1 hb2 hb3 hb4⟩
  · simp only [Bool.not_true, Bool.true_and, Bool.false_and] at HPK HSA HSB
    go_enter Try.func18, Try.ntmps18
    go_wp2_with (first
      | (go_at_call 33; (with_reducible refine (H1.out _).mono ?_); rintro e1 w1 ⟨rfl, rfl⟩)
      | (go_at_call 33; (with_reducible refine (H2.out _).mono ?_); rintro e1 w1 ⟨rfl, rfl⟩)
      | (go_at_call 35; (with_reducible refine (H3.out _).mono ?_); rintro e1 w1 ⟨rfl, rfl⟩)
      | (go_at_call 35; (with_reducible refine (H4.out _).mono ?_); rintro e1 w1 ⟨rfl, rfl⟩)
      | (go_at_call 36; (with_reducible refine (H5.out _).mono ?_); rintro e1 w1 ⟨rfl, rfl⟩)
      | (go_at_call 36; (with_reducible refine (H6.out _).mono ?_); rintro e1 w1 ⟨rfl, rfl⟩)
      | (go_at_call 39; (with_reducible refine (HSA.out _).mono ?_); rintro e1 w1 ⟨rfl, hb1⟩)
      | (go_at_call 39; (with_reducible refine (HSB.out _).mono ?_); rintro e2 w2 ⟨rfl, hb2⟩)
      | (go_at_call 42; (with_reducible refine (HRR.out _).mono ?_); rintro e3 w3 ⟨rfl, hb3⟩; obtain ⟨⟨k0, k1, k2⟩, ⟨k3, k4, k5⟩⟩ := two_cells hb3)
      | (go_at_call 41; (with_reducible refine (HPK.out _).mono ?_); rintro e4 w4 ⟨rfl, hb4⟩))
    go_ret
    exact ⟨rfl, add_fine hb1 hb2 hb3 hb4⟩
end Go.Proofs.Ytkifdppppihjcaa

namespace Go.Proofs.Ytkifdppppihjcaa
set_option linter.unusedVariables false
set_option linter.unusedSimpArgs false
open Go.RowKit Go.Shelf SF

abbrev PB (f : FuncId) (a : Nat) (v : Bool) : Prop := ∀ w, Calls Try.prog f #[.int .u64 a] w fun e w' => e = .returned (.bool v) ∧ w = w'
theorem ite01 (p : Prop) [Decidable p] : (if p then 1 else 0 : Nat) ≤ 1 := by split <;> decide
theorem zer_is {a : Nat} (h : W a) (z : zer a = true) : a = if ng a then 9223372036854775808 else 0 := by
  unfold W at h; unfold zer mag at z; unfold ng
  simp only [decide_eq_true_eq] at z ⊢
  split <;> omega
theorem zer_and {a b : Nat} (ha : W a) (hb : W b) (z1 : zer a = true) (z2 : zer b = true) : bits .and .u64 (a : Int) (b : Int) = ((sg (ng a && ng b) 0 : Nat) : Int) := by
  have e1 := zer_is ha z1
  have e2 := zer_is hb z2
  obtain ⟨p, hp⟩ : ∃ p, ng a = p := ⟨_, rfl⟩
  obtain ⟨q, hq⟩ : ∃ q, ng b = q := ⟨_, rfl⟩
  rw [hp] at e1; rw [hq] at e2; rw [hp, hq]
  rw [u64_and_nat a b ha hb, e1, e2]
  cases p <;> cases q <;> decide
set_option maxHeartbeats 1000000 in
theorem add_n1 (a b : Nat) (N1 : Hid (PB 33 a true)) (w : World) : Calls Try.prog 18 #[.int .u64 a, .int .u64 b] w fun e w' => e = .returned (.int .u64 (9221120237041090560)) ∧ Below w.heap.size w w' := by
  go_enter Try.func18, Try.ntmps18
  go_wp2_with (first
    | (go_at_call 33; (with_reducible refine (N1.out _).mono ?_); rintro e1 w1 ⟨rfl, rfl⟩))
  go_ret
  exact ⟨rfl, Below.refl _ _⟩
set_option maxHeartbeats 1000000 in
theorem add_n2 (a b : Nat) (N1 : Hid (PB 33 a false)) (N2 : Hid (PB 33 b true)) (w : World) : Calls Try.prog 18 #[.int .u64 a, .int .u64 b] w fun e w' => e = .returned (.int .u64 (9221120237041090560)) ∧ Below w.heap.size w w' := by
  go_enter Try.func18, Try.ntmps18
  go_wp2_with (first
    | (go_at_call 33; (with_reducible refine (N1.out _).mono ?_); rintro e1 w1 ⟨rfl, rfl⟩)
    | (go_at_call 33; (with_reducible refine (N2.out _).mono ?_); rintro e1 w1 ⟨rfl, rfl⟩))
  go_ret
  exact ⟨rfl, Below.refl _ _⟩
set_option maxHeartbeats 1000000 in
theorem add_i12 (a b : Nat) (he : ((a : Int) == (b : Int)) = false) (N1 : Hid (PB 33 a false)) (N2 : Hid (PB 33 b false)) (I1 : Hid (PB 35 a true)) (I2 : Hid (PB 35 b true)) (w : World) : Calls Try.prog 18 #[.int .u64 a, .int .u64 b] w fun e w' => e = .returned (.int .u64 (9221120237041090560)) ∧ Below w.heap.size w w' := by
  go_enter Try.func18, Try.ntmps18
  go_wp2_with (first
    | (go_at_call 33; (with_reducible refine (N1.out _).mono ?_); rintro e1 w1 ⟨rfl, rfl⟩)
    | (go_at_call 33; (with_reducible refine (N2.out _).mono ?_); rintro e1 w1 ⟨rfl, rfl⟩)
    | (go_at_call 35; (with_reducible refine (I1.out _).mono ?_); rintro e1 w1 ⟨rfl, rfl⟩)
    | (go_at_call 35; (with_reducible refine (I2.out _).mono ?_); rintro e1 w1 ⟨rfl, rfl⟩))
  go_ret
  exact ⟨rfl, Below.refl _ _⟩
set_option maxHeartbeats 1000000 in
theorem add_i12e (a b : Nat) (he : ((a : Int) == (b : Int)) = true) (N1 : Hid (PB 33 a false)) (N2 : Hid (PB 33 b false)) (I1 : Hid (PB 35 a true)) (I2 : Hid (PB 35 b true)) (w : World) : Calls Try.prog 18 #[.int .u64 a, .int .u64 b] w fun e w' => e = .returned (.int .u64 ((a : Int))) ∧ Below w.heap.size w w' := by
  go_enter Try.func18, Try.ntmps18
  go_wp2_with (first
    | (go_at_call 33; (with_reducible refine (N1.out _).mono ?_); rintro e1 w1 ⟨rfl, rfl⟩)
    | (go_at_call 33; (with_reducible refine (N2.out _).mono ?_); rintro e1 w1 ⟨rfl, rfl⟩)
    | (go_at_call 35; (with_reducible refine (I1.out _).mono ?_); rintro e1 w1 ⟨rfl, rfl⟩)
    | (go_at_call 35; (with_reducible refine (I2.out _).mono ?_); rintro e1 w1 ⟨rfl, rfl⟩))
  go_ret
  exact ⟨rfl, Below.refl _ _⟩
set_option maxHeartbeats 1000000 in
theorem add_i1 (a b : Nat) (N1 : Hid (PB 33 a false)) (N2 : Hid (PB 33 b false)) (I1 : Hid (PB 35 a true)) (I2 : Hid (PB 35 b false)) (w : World) : Calls Try.prog 18 #[.int .u64 a, .int .u64 b] w fun e w' => e = .returned (.int .u64 ((a : Int))) ∧ Below w.heap.size w w' := by
  go_enter Try.func18, Try.ntmps18
  go_wp2_with (first
    | (go_at_call 33; (with_reducible refine (N1.out _).mono ?_); rintro e1 w1 ⟨rfl, rfl⟩)
    | (go_at_call 33; (with_reducible refine (N2.out _).mono ?_); rintro e1 w1 ⟨rfl, rfl⟩)
    | (go_at_call 35; (with_reducible refine (I1.out _).mono ?_); rintro e1 w1 ⟨rfl, rfl⟩)
    | (go_at_call 35; (with_reducible refine (I2.out _).mono ?_); rintro e1 w1 ⟨rfl, rfl⟩))
  go_ret
  exact ⟨rfl, Below.refl _ _⟩
set_option maxHeartbeats 1000000 in
theorem add_i2 (a b : Nat) (N1 : Hid (PB 33 a false)) (N2 : Hid (PB 33 b false)) (I1 : Hid (PB 35 a false)) (I2 : Hid (PB 35 b true)) (w : World) : Calls Try.prog 18 #[.int .u64 a, .int .u64 b] w fun e w' => e = .returned (.int .u64 ((b : Int))) ∧ Below w.heap.size w w' := by
  go_enter Try.func18, Try.ntmps18
  go_wp2_with (first
    | (go_at_call 33; (with_reducible refine (N1.out _).mono ?_); rintro e1 w1 ⟨rfl, rfl⟩)
    | (go_at_call 33; (with_reducible refine (N2.out _).mono ?_); rintro e1 w1 ⟨rfl, rfl⟩)
    | (go_at_call 35; (with_reducible refine (I1.out _).mono ?_); rintro e1 w1 ⟨rfl, rfl⟩)
    | (go_at_call 35; (with_reducible refine (I2.out _).mono ?_); rintro e1 w1 ⟨rfl, rfl⟩))
  go_ret
  exact ⟨rfl, Below.refl _ _⟩
set_option maxHeartbeats 1000000 in
theorem add_z12 (a b : Nat) (r : Int) (hr : bits .and .u64 (a : Int) (b : Int) = r) (N1 : Hid (PB 33 a false)) (N2 : Hid (PB 33 b false)) (I1 : Hid (PB 35 a false)) (I2 : Hid (PB 35 b false)) (Z1 : Hid (PB 36 a true)) (Z2 : Hid (PB 36 b true)) (w : World) : Calls Try.prog 18 #[.int .u64 a, .int .u64 b] w fun e w' => e = .returned (.int .u64 (r)) ∧ Below w.heap.size w w' := by
  go_enter Try.func18, Try.ntmps18
  go_wp2_with (first
    | (go_at_call 33; (with_reducible refine (N1.out _).mono ?_); rintro e1 w1 ⟨rfl, rfl⟩)
    | (go_at_call 33; (with_reducible refine (N2.out _).mono ?_); rintro e1 w1 ⟨rfl, rfl⟩)
    | (go_at_call 35; (with_reducible refine (I1.out _).mono ?_); rintro e1 w1 ⟨rfl, rfl⟩)
    | (go_at_call 35; (with_reducible refine (I2.out _).mono ?_); rintro e1 w1 ⟨rfl, rfl⟩)
    | (go_at_call 36; (with_reducible refine (Z1.out _).mono ?_); rintro e1 w1 ⟨rfl, rfl⟩)
    | (go_at_call 36; (with_reducible refine (Z2.out _).mono ?_); rintro e1 w1 ⟨rfl, rfl⟩))
  go_ret
  exact ⟨rfl, Below.refl _ _⟩
set_option maxHeartbeats 1000000 in
theorem add_z1 (a b : Nat) (N1 : Hid (PB 33 a false)) (N2 : Hid (PB 33 b false)) (I1 : Hid (PB 35 a false)) (I2 : Hid (PB 35 b false)) (Z1 : Hid (PB 36 a true)) (Z2 : Hid (PB 36 b false)) (w : World) : Calls Try.prog 18 #[.int .u64 a, .int .u64 b] w fun e w' => e = .returned (.int .u64 ((b : Int))) ∧ Below w.heap.size w w' := by
  go_enter Try.func18, Try.ntmps18
  go_wp2_with (first
    | (go_at_call 33; (with_reducible refine (N1.out _).mono ?_); rintro e1 w1 ⟨rfl, rfl⟩)
    | (go_at_call 33; (with_reducible refine (N2.out _).mono ?_); rintro e1 w1 ⟨rfl, rfl⟩)
    | (go_at_call 35; (with_reducible refine (I1.out _).mono ?_); rintro e1 w1 ⟨rfl, rfl⟩)
    | (go_at_call 35; (with_reducible refine (I2.out _).mono ?_); rintro e1 w1 ⟨rfl, rfl⟩)
    | (go_at_call 36; (with_reducible refine (Z1.out _).mono ?_); rintro e1 w1 ⟨rfl, rfl⟩)
    | (go_at_call 36; (with_reducible refine (Z2.out _).mono ?_); rintro e1 w1 ⟨rfl, rfl⟩))
  go_ret
  exact ⟨rfl, Below.refl _ _⟩
set_option maxHeartbeats 1000000 in
theorem add_z2 (a b : Nat) (N1 : Hid (PB 33 a false)) (N2 : Hid (PB 33 b false)) (I1 : Hid (PB 35 a false)) (I2 : Hid (PB 35 b false)) (Z1 : Hid (PB 36 a false)) (Z2 : Hid (PB 36 b true)) (w : World) : Calls Try.prog 18 #[.int .u64 a, .int .u64 b] w fun e w' => e = .returned (.int .u64 ((a : Int))) ∧ Below w.heap.size w w' := by
  go_enter Try.func18, Try.ntmps18
  go_wp2_with (first
    | (go_at_call 33; (with_reducible refine (N1.out _).mono ?_); rintro e1 w1 ⟨rfl, rfl⟩)
    | (go_at_call 33; (with_reducible refine (N2.out _).mono ?_); rintro e1 w1 ⟨rfl, rfl⟩)
    | (go_at_call 35; (with_reducible refine (I1.out _).mono ?_); rintro e1 w1 ⟨rfl, rfl⟩)
    | (go_at_call 35; (with_reducible refine (I2.out _).mono ?_); rintro e1 w1 ⟨rfl, rfl⟩)
    | (go_at_call 36; (with_reducible refine (Z1.out _).mono ?_); rintro e1 w1 ⟨rfl, rfl⟩)
    | (go_at_call 36; (with_reducible refine (Z2.out _).mono ?_); rintro e1 w1 ⟨rfl, rfl⟩))
  go_ret
  exact ⟨rfl, Below.refl _ _⟩
set_option maxHeartbeats 1000000 in
theorem add_fin_00 (a b : Nat) (ha : W a) (hb : W b) (n1 : nan a = false) (n2 : nan b = false) (i1 : inf a = false) (i2 : inf b = false) (z1 : zer a = false) (z2 : zer b = false) (ho : se b < se a) (w : World) :
    Calls Try.prog 18 #[.int .u64 a, .int .u64 b] w fun e w' => e = .returned (.int .u64 ((addF a b : Nat) : Int)) ∧ Below w.heap.size w w' := by
  have ba : -1074 ≤ se a ∧ se a ≤ 971 := ⟨se_ge a, se_le n1 i1⟩
  have bb : -1074 ≤ se b ∧ se b ≤ 971 := ⟨se_ge b, se_le n2 i2⟩
  obtain ⟨d, hd⟩ : ∃ d : Nat, se a - se b = (d : Int) := ⟨(se a - se b).toNat, by omega⟩
  have hdm : d = 0 → sm b ≤ sm a := fun h => by omega
  have P0 := addP_eq (a := a) (b := b) (d := d) z1 z2 (by omega) hdm
  skip
  have H1 := Lib.hid (isnan_c a ha); rw [n1] at H1
  have H2 := Lib.hid (isnan_c b hb); rw [n2] at H2
  have H3 := Lib.hid (isinf_c a ha); rw [i1] at H3
  have H4 := Lib.hid (isinf_c b hb); rw [i2] at H4
  have H5 := Lib.hid (iszero_c a ha); rw [z1] at H5
  have H6 := Lib.hid (iszero_c b hb); rw [z2] at H6
  have HSA := Lib.hid (split_c a ha)
  have HSB := Lib.hid (split_c b hb)
  have la := sm_lt a
  have lb := sm_lt b
  have HRR := Lib.hid (right_c (sm b) 0 d (W_of (by omega)) (W_of (by decide)))
  have s64 : (sm b * 2 ^ 64 % 2 ^ d ≠ 0) ↔ (two (sm b) 0 % 2 ^ d ≠ 0) := by
    rw [show two (sm b) 0 = sm b * 2 ^ 64 by unfold two; rw [show (2 : Nat) ^ 64 = 18446744073709551616 by decide]; omega]
  have hrl : W (rL (sm b) 0 d) := W_of (Nat.mod_lt _ (by decide))
  have rt : rT (sm b) 0 d = decide (sm b * 2 ^ 64 % 2 ^ d ≠ 0) := by unfold rT; rw [decide_eq_decide]; exact s64.symm
  unfold addP at P0
  rw [← rt] at P0
  by_cases hn : ng a = ng b
  · rw [if_pos hn] at P0
    obtain ⟨q1, q2, q3⟩ := sum_two (d := d) la lb
    rw [← q2] at P0
    have HPK := Lib.hid (pack_c (ng a) (sm a + rH (sm b) 0 d) (rL (sm b) 0 d) (se a - 64) (rT (sm b) 0 d) q1 hrl)
    rw [P0] at HPK
    have nn : ng b = ng a := by first | exact hn | exact hn.symm
    rw [nn] at HSB
    rw [show ng a = ng a by first | rfl | exact nn] at HPK
    refine add_same_00 a b (sm a) (se a) (sm b) (se b) d (rH (sm b) 0 d) (rL (sm b) 0 d) ((sm a + rH (sm b) 0 d : Nat) : Int) (((sm a + rH (sm b) 0 d + 0) / 18446744073709551616 : Nat) : Int) _ (ng a) (rT (sm b) 0 d) w H1 H2 H3 H4 H5 H6 HSA HSB ho ba bb hd HRR ?_ ?_ HPK
    · intro w
      have := add64 0 (rL (sm b) 0 d) 0 (by decide) w
      unfold W at hrl
      rw [show (0 + rL (sm b) 0 d + 0) % 18446744073709551616 = rL (sm b) 0 d by omega, show (0 + rL (sm b) 0 d + 0) / 18446744073709551616 = 0 by omega] at this
      exact this
    · intro w
      have := add64 (sm a) (rH (sm b) 0 d) 0 (by decide) w
      unfold W at q1
      rw [show (sm a + rH (sm b) 0 d + 0) % 18446744073709551616 = sm a + rH (sm b) 0 d by omega] at this
      exact this
  · rw [if_neg hn] at P0
    have hle : sm b ≤ sm a * 2 ^ d := by
      by_cases g : d = 0
      · have := hdm g; subst g; simpa using this
      · have h1 : 2 ^ 52 ≤ sm a := sm_norm (by omega)
        calc sm b ≤ 2 ^ 52 * 2 ^ 1 := Nat.le_of_lt lb
          _ ≤ sm a * 2 ^ d := Nat.mul_le_mul h1 (Nat.pow_le_pow_right (by decide) (by omega))
    obtain ⟨q1, q2, q3⟩ := diff_two (d := d) la lb hle
    have nn : ng b = !ng a := by
      obtain ⟨p, hp⟩ : ∃ p, ng a = p := ⟨_, rfl⟩
      obtain ⟨q, hq⟩ : ∃ q, ng b = q := ⟨_, rfl⟩
      rw [hp, hq] at hn ⊢
      revert hn; cases p <;> cases q <;> decide
    obtain ⟨cy, hcy⟩ : ∃ cy : Nat, (if 0 < rL (sm b) 0 d + (if rT (sm b) 0 d then 1 else 0) then 1 else 0 : Nat) = cy := ⟨_, rfl⟩
    obtain ⟨l2, hl2⟩ : ∃ l2 : Nat, (18446744073709551616 - rL (sm b) 0 d - (if rT (sm b) 0 d then 1 else 0)) % 18446744073709551616 = l2 := ⟨_, rfl⟩
    have hl2W : W l2 := W_of (by rw [← hl2]; exact Nat.mod_lt _ (by decide))
    have hh2W : W (sm a - rH (sm b) 0 d - cy) := W_of (by omega)
    have hcy1 : cy ≤ 1 := by rw [← hcy]; exact ite01 _
    have S1 := sub64 0 (rL (sm b) 0 d) (if rT (sm b) 0 d then 1 else 0) (by split <;> decide)
    rw [hcy, hl2] at q1
    rw [hcy] at q2
    have S2 := sub64 (sm a) (rH (sm b) 0 d) cy hcy1
    rw [show (sm a + 18446744073709551616 - rH (sm b) 0 d - cy) % 18446744073709551616 = sm a - rH (sm b) 0 d - cy by omega] at S2
    rw [Nat.zero_add, hcy, hl2] at S1
    rw [← q1] at P0
    have HPK := Lib.hid (pack_c (ng a && decide (two (sm a - rH (sm b) 0 d - cy) l2 ≠ 0)) (sm a - rH (sm b) 0 d - cy) l2 (se a - 64) (rT (sm b) 0 d) hh2W hl2W)
    rw [P0] at HPK
    rw [nn] at HSB
    rw [show ng a = ng a by first | rfl | exact nn] at HPK
    have Z : (bits .or .u64 ((sm a - rH (sm b) 0 d - cy : Nat) : Int) (l2 : Int) != 0) = decide (two (sm a - rH (sm b) 0 d - cy) l2 ≠ 0) := by
      rw [bor_ne hh2W hl2W, decide_eq_decide]
      have := two_zero (hi := sm a - rH (sm b) 0 d - cy) (lo := l2)
      omega
    cases hT : rT (sm b) 0 d
    · rw [hT] at HPK S1
      exact add_less_00 a b (sm a) (se a) (sm b) (se b) d (rH (sm b) 0 d) (rL (sm b) 0 d) (l2 : Int) (cy : Int) ((sm a - rH (sm b) 0 d - cy : Nat) : Int) _ _ (ng a) w H1 H2 H3 H4 H5 H6 HSA HSB ho ba bb hd (Lib.hid (by have := HRR.out; unfold RightV at this; rw [hT] at this; exact this)) S1 S2 _ Z HPK
    · rw [hT] at HPK S1
      exact add_more_00 a b (sm a) (se a) (sm b) (se b) d (rH (sm b) 0 d) (rL (sm b) 0 d) (l2 : Int) (cy : Int) ((sm a - rH (sm b) 0 d - cy : Nat) : Int) _ _ (ng a) w H1 H2 H3 H4 H5 H6 HSA HSB ho ba bb hd (Lib.hid (by have := HRR.out; unfold RightV at this; rw [hT] at this; exact this)) S1 S2 _ Z HPK
set_option maxHeartbeats 1000000 in
theorem add_fin_01 (a b : Nat) (ha : W a) (hb : W b) (n1 : nan a = false) (n2 : nan b = false) (i1 : inf a = false) (i2 : inf b = false) (z1 : zer a = false) (z2 : zer b = false) (hoe : se a = se b) (hm : ¬ ((sm a : Nat) : Int) < ((sm b : Nat) : Int)) (w : World) :
    Calls Try.prog 18 #[.int .u64 a, .int .u64 b] w fun e w' => e = .returned (.int .u64 ((addF a b : Nat) : Int)) ∧ Below w.heap.size w w' := by
  have ba : -1074 ≤ se a ∧ se a ≤ 971 := ⟨se_ge a, se_le n1 i1⟩
  have bb : -1074 ≤ se b ∧ se b ≤ 971 := ⟨se_ge b, se_le n2 i2⟩
  obtain ⟨d, hd⟩ : ∃ d : Nat, se a - se b = (d : Int) := ⟨(se a - se b).toNat, by omega⟩
  have hdm : d = 0 → sm b ≤ sm a := fun h => by omega
  have P0 := addP_eq (a := a) (b := b) (d := d) z1 z2 (by omega) hdm
  skip
  have H1 := Lib.hid (isnan_c a ha); rw [n1] at H1
  have H2 := Lib.hid (isnan_c b hb); rw [n2] at H2
  have H3 := Lib.hid (isinf_c a ha); rw [i1] at H3
  have H4 := Lib.hid (isinf_c b hb); rw [i2] at H4
  have H5 := Lib.hid (iszero_c a ha); rw [z1] at H5
  have H6 := Lib.hid (iszero_c b hb); rw [z2] at H6
  have HSA := Lib.hid (split_c a ha)
  have HSB := Lib.hid (split_c b hb)
  have la := sm_lt a
  have lb := sm_lt b
  have HRR := Lib.hid (right_c (sm b) 0 d (W_of (by omega)) (W_of (by decide)))
  have s64 : (sm b * 2 ^ 64 % 2 ^ d ≠ 0) ↔ (two (sm b) 0 % 2 ^ d ≠ 0) := by
    rw [show two (sm b) 0 = sm b * 2 ^ 64 by unfold two; rw [show (2 : Nat) ^ 64 = 18446744073709551616 by decide]; omega]
  have hrl : W (rL (sm b) 0 d) := W_of (Nat.mod_lt _ (by decide))
  have rt : rT (sm b) 0 d = decide (sm b * 2 ^ 64 % 2 ^ d ≠ 0) := by unfold rT; rw [decide_eq_decide]; exact s64.symm
  unfold addP at P0
  rw [← rt] at P0
  by_cases hn : ng a = ng b
  · rw [if_pos hn] at P0
    obtain ⟨q1, q2, q3⟩ := sum_two (d := d) la lb
    rw [← q2] at P0
    have HPK := Lib.hid (pack_c (ng a) (sm a + rH (sm b) 0 d) (rL (sm b) 0 d) (se a - 64) (rT (sm b) 0 d) q1 hrl)
    rw [P0] at HPK
    have nn : ng b = ng a := by first | exact hn | exact hn.symm
    rw [nn] at HSB
    rw [show ng a = ng a by first | rfl | exact nn] at HPK
    refine add_same_01 a b (sm a) (se a) (sm b) (se b) d (rH (sm b) 0 d) (rL (sm b) 0 d) ((sm a + rH (sm b) 0 d : Nat) : Int) (((sm a + rH (sm b) 0 d + 0) / 18446744073709551616 : Nat) : Int) _ (ng a) (rT (sm b) 0 d) w H1 H2 H3 H4 H5 H6 HSA HSB hoe hm ba bb hd HRR ?_ ?_ HPK
    · intro w
      have := add64 0 (rL (sm b) 0 d) 0 (by decide) w
      unfold W at hrl
      rw [show (0 + rL (sm b) 0 d + 0) % 18446744073709551616 = rL (sm b) 0 d by omega, show (0 + rL (sm b) 0 d + 0) / 18446744073709551616 = 0 by omega] at this
      exact this
    · intro w
      have := add64 (sm a) (rH (sm b) 0 d) 0 (by decide) w
      unfold W at q1
      rw [show (sm a + rH (sm b) 0 d + 0) % 18446744073709551616 = sm a + rH (sm b) 0 d by omega] at this
      exact this
  · rw [if_neg hn] at P0
    have hle : sm b ≤ sm a * 2 ^ d := by
      by_cases g : d = 0
      · have := hdm g; subst g; simpa using this
      · have h1 : 2 ^ 52 ≤ sm a := sm_norm (by omega)
        calc sm b ≤ 2 ^ 52 * 2 ^ 1 := Nat.le_of_lt lb
          _ ≤ sm a * 2 ^ d := Nat.mul_le_mul h1 (Nat.pow_le_pow_right (by decide) (by omega))
    obtain ⟨q1, q2, q3⟩ := diff_two (d := d) la lb hle
    have nn : ng b = !ng a := by
      obtain ⟨p, hp⟩ : ∃ p, ng a = p := ⟨_, rfl⟩
      obtain ⟨q, hq⟩ : ∃ q, ng b = q := ⟨_, rfl⟩
      rw [hp, hq] at hn ⊢
      revert hn; cases p <;> cases q <;> decide
    obtain ⟨cy, hcy⟩ : ∃ cy : Nat, (if 0 < rL (sm b) 0 d + (if rT (sm b) 0 d then 1 else 0) then 1 else 0 : Nat) = cy := ⟨_, rfl⟩
    obtain ⟨l2, hl2⟩ : ∃ l2 : Nat, (18446744073709551616 - rL (sm b) 0 d - (if rT (sm b) 0 d then 1 else 0)) % 18446744073709551616 = l2 := ⟨_, rfl⟩
    have hl2W : W l2 := W_of (by rw [← hl2]; exact Nat.mod_lt _ (by decide))
    have hh2W : W (sm a - rH (sm b) 0 d - cy) := W_of (by omega)
    have hcy1 : cy ≤ 1 := by rw [← hcy]; exact ite01 _
    have S1 := sub64 0 (rL (sm b) 0 d) (if rT (sm b) 0 d then 1 else 0) (by split <;> decide)
    rw [hcy, hl2] at q1
    rw [hcy] at q2
    have S2 := sub64 (sm a) (rH (sm b) 0 d) cy hcy1
    rw [show (sm a + 18446744073709551616 - rH (sm b) 0 d - cy) % 18446744073709551616 = sm a - rH (sm b) 0 d - cy by omega] at S2
    rw [Nat.zero_add, hcy, hl2] at S1
    rw [← q1] at P0
    have HPK := Lib.hid (pack_c (ng a && decide (two (sm a - rH (sm b) 0 d - cy) l2 ≠ 0)) (sm a - rH (sm b) 0 d - cy) l2 (se a - 64) (rT (sm b) 0 d) hh2W hl2W)
    rw [P0] at HPK
    rw [nn] at HSB
    rw [show ng a = ng a by first | rfl | exact nn] at HPK
    have Z : (bits .or .u64 ((sm a - rH (sm b) 0 d - cy : Nat) : Int) (l2 : Int) != 0) = decide (two (sm a - rH (sm b) 0 d - cy) l2 ≠ 0) := by
      rw [bor_ne hh2W hl2W, decide_eq_decide]
      have := two_zero (hi := sm a - rH (sm b) 0 d - cy) (lo := l2)
      omega
    cases hT : rT (sm b) 0 d
    · rw [hT] at HPK S1
      exact add_less_01 a b (sm a) (se a) (sm b) (se b) d (rH (sm b) 0 d) (rL (sm b) 0 d) (l2 : Int) (cy : Int) ((sm a - rH (sm b) 0 d - cy : Nat) : Int) _ _ (ng a) w H1 H2 H3 H4 H5 H6 HSA HSB hoe hm ba bb hd (Lib.hid (by have := HRR.out; unfold RightV at this; rw [hT] at this; exact this)) S1 S2 _ Z HPK
    · rw [hT] at HPK S1
      exact add_more_01 a b (sm a) (se a) (sm b) (se b) d (rH (sm b) 0 d) (rL (sm b) 0 d) (l2 : Int) (cy : Int) ((sm a - rH (sm b) 0 d - cy : Nat) : Int) _ _ (ng a) w H1 H2 H3 H4 H5 H6 HSA HSB hoe hm ba bb hd (Lib.hid (by have := HRR.out; unfold RightV at this; rw [hT] at this; exact this)) S1 S2 _ Z HPK
set_option maxHeartbeats 1000000 in
theorem add_fin_10 (a b : Nat) (ha : W a) (hb : W b) (n1 : nan a = false) (n2 : nan b = false) (i1 : inf a = false) (i2 : inf b = false) (z1 : zer a = false) (z2 : zer b = false) (ho : se a < se b) (w : World) :
    Calls Try.prog 18 #[.int .u64 a, .int .u64 b] w fun e w' => e = .returned (.int .u64 ((addF a b : Nat) : Int)) ∧ Below w.heap.size w w' := by
  have ba : -1074 ≤ se a ∧ se a ≤ 971 := ⟨se_ge a, se_le n1 i1⟩
  have bb : -1074 ≤ se b ∧ se b ≤ 971 := ⟨se_ge b, se_le n2 i2⟩
  obtain ⟨d, hd⟩ : ∃ d : Nat, se b - se a = (d : Int) := ⟨(se b - se a).toNat, by omega⟩
  have hdm : d = 0 → sm a ≤ sm b := fun h => by omega
  have P0 := addP_eq (a := b) (b := a) (d := d) z2 z1 (by omega) hdm
  rw [addF_comm] at P0
  have H1 := Lib.hid (isnan_c a ha); rw [n1] at H1
  have H2 := Lib.hid (isnan_c b hb); rw [n2] at H2
  have H3 := Lib.hid (isinf_c a ha); rw [i1] at H3
  have H4 := Lib.hid (isinf_c b hb); rw [i2] at H4
  have H5 := Lib.hid (iszero_c a ha); rw [z1] at H5
  have H6 := Lib.hid (iszero_c b hb); rw [z2] at H6
  have HSA := Lib.hid (split_c a ha)
  have HSB := Lib.hid (split_c b hb)
  have lb := sm_lt b
  have la := sm_lt a
  have HRR := Lib.hid (right_c (sm a) 0 d (W_of (by omega)) (W_of (by decide)))
  have s64 : (sm a * 2 ^ 64 % 2 ^ d ≠ 0) ↔ (two (sm a) 0 % 2 ^ d ≠ 0) := by
    rw [show two (sm a) 0 = sm a * 2 ^ 64 by unfold two; rw [show (2 : Nat) ^ 64 = 18446744073709551616 by decide]; omega]
  have hrl : W (rL (sm a) 0 d) := W_of (Nat.mod_lt _ (by decide))
  have rt : rT (sm a) 0 d = decide (sm a * 2 ^ 64 % 2 ^ d ≠ 0) := by unfold rT; rw [decide_eq_decide]; exact s64.symm
  unfold addP at P0
  rw [← rt] at P0
  by_cases hn : ng b = ng a
  · rw [if_pos hn] at P0
    obtain ⟨q1, q2, q3⟩ := sum_two (d := d) lb la
    rw [← q2] at P0
    have HPK := Lib.hid (pack_c (ng b) (sm b + rH (sm a) 0 d) (rL (sm a) 0 d) (se b - 64) (rT (sm a) 0 d) q1 hrl)
    rw [P0] at HPK
    have nn : ng b = ng a := by first | exact hn | exact hn.symm
    rw [nn] at HSB
    rw [show ng b = ng a by first | rfl | exact nn] at HPK
    refine add_same_10 a b (sm a) (se a) (sm b) (se b) d (rH (sm a) 0 d) (rL (sm a) 0 d) ((sm b + rH (sm a) 0 d : Nat) : Int) (((sm b + rH (sm a) 0 d + 0) / 18446744073709551616 : Nat) : Int) _ (ng a) (rT (sm a) 0 d) w H1 H2 H3 H4 H5 H6 HSA HSB ho ba bb hd HRR ?_ ?_ HPK
    · intro w
      have := add64 0 (rL (sm a) 0 d) 0 (by decide) w
      unfold W at hrl
      rw [show (0 + rL (sm a) 0 d + 0) % 18446744073709551616 = rL (sm a) 0 d by omega, show (0 + rL (sm a) 0 d + 0) / 18446744073709551616 = 0 by omega] at this
      exact this
    · intro w
      have := add64 (sm b) (rH (sm a) 0 d) 0 (by decide) w
      unfold W at q1
      rw [show (sm b + rH (sm a) 0 d + 0) % 18446744073709551616 = sm b + rH (sm a) 0 d by omega] at this
      exact this
  · rw [if_neg hn] at P0
    have hle : sm a ≤ sm b * 2 ^ d := by
      by_cases g : d = 0
      · have := hdm g; subst g; simpa using this
      · have h1 : 2 ^ 52 ≤ sm b := sm_norm (by omega)
        calc sm a ≤ 2 ^ 52 * 2 ^ 1 := Nat.le_of_lt la
          _ ≤ sm b * 2 ^ d := Nat.mul_le_mul h1 (Nat.pow_le_pow_right (by decide) (by omega))
    obtain ⟨q1, q2, q3⟩ := diff_two (d := d) lb la hle
    have nn : ng b = !ng a := by
      obtain ⟨p, hp⟩ : ∃ p, ng a = p := ⟨_, rfl⟩
      obtain ⟨q, hq⟩ : ∃ q, ng b = q := ⟨_, rfl⟩
      rw [hp, hq] at hn ⊢
      revert hn; cases p <;> cases q <;> decide
    obtain ⟨cy, hcy⟩ : ∃ cy : Nat, (if 0 < rL (sm a) 0 d + (if rT (sm a) 0 d then 1 else 0) then 1 else 0 : Nat) = cy := ⟨_, rfl⟩
    obtain ⟨l2, hl2⟩ : ∃ l2 : Nat, (18446744073709551616 - rL (sm a) 0 d - (if rT (sm a) 0 d then 1 else 0)) % 18446744073709551616 = l2 := ⟨_, rfl⟩
    have hl2W : W l2 := W_of (by rw [← hl2]; exact Nat.mod_lt _ (by decide))
    have hh2W : W (sm b - rH (sm a) 0 d - cy) := W_of (by omega)
    have hcy1 : cy ≤ 1 := by rw [← hcy]; exact ite01 _
    have S1 := sub64 0 (rL (sm a) 0 d) (if rT (sm a) 0 d then 1 else 0) (by split <;> decide)
    rw [hcy, hl2] at q1
    rw [hcy] at q2
    have S2 := sub64 (sm b) (rH (sm a) 0 d) cy hcy1
    rw [show (sm b + 18446744073709551616 - rH (sm a) 0 d - cy) % 18446744073709551616 = sm b - rH (sm a) 0 d - cy by omega] at S2
    rw [Nat.zero_add, hcy, hl2] at S1
    rw [← q1] at P0
    have HPK := Lib.hid (pack_c (ng b && decide (two (sm b - rH (sm a) 0 d - cy) l2 ≠ 0)) (sm b - rH (sm a) 0 d - cy) l2 (se b - 64) (rT (sm a) 0 d) hh2W hl2W)
    rw [P0] at HPK
    rw [nn] at HSB
    rw [show ng b = (!ng a) by first | rfl | exact nn] at HPK
    have Z : (bits .or .u64 ((sm b - rH (sm a) 0 d - cy : Nat) : Int) (l2 : Int) != 0) = decide (two (sm b - rH (sm a) 0 d - cy) l2 ≠ 0) := by
      rw [bor_ne hh2W hl2W, decide_eq_decide]
      have := two_zero (hi := sm b - rH (sm a) 0 d - cy) (lo := l2)
      omega
    cases hT : rT (sm a) 0 d
    · rw [hT] at HPK S1
      exact add_less_10 a b (sm a) (se a) (sm b) (se b) d (rH (sm a) 0 d) (rL (sm a) 0 d) (l2 : Int) (cy : Int) ((sm b - rH (sm a) 0 d - cy : Nat) : Int) _ _ (ng a) w H1 H2 H3 H4 H5 H6 HSA HSB ho ba bb hd (Lib.hid (by have := HRR.out; unfold RightV at this; rw [hT] at this; exact this)) S1 S2 _ Z HPK
    · rw [hT] at HPK S1
      exact add_more_10 a b (sm a) (se a) (sm b) (se b) d (rH (sm a) 0 d) (rL (sm a) 0 d) (l2 : Int) (cy : Int) ((sm b - rH (sm a) 0 d - cy : Nat) : Int) _ _ (ng a) w H1 H2 H3 H4 H5 H6 HSA HSB ho ba bb hd (Lib.hid (by have := HRR.out; unfold RightV at this; rw [hT] at this; exact this)) S1 S2 _ Z HPK
set_option maxHeartbeats 1000000 in
theorem add_fin_11 (a b : Nat) (ha : W a) (hb : W b) (n1 : nan a = false) (n2 : nan b = false) (i1 : inf a = false) (i2 : inf b = false) (z1 : zer a = false) (z2 : zer b = false) (hoe : se a = se b) (hm : ((sm a : Nat) : Int) < ((sm b : Nat) : Int)) (w : World) :
    Calls Try.prog 18 #[.int .u64 a, .int .u64 b] w fun e w' => e = .returned (.int .u64 ((addF a b : Nat) : Int)) ∧ Below w.heap.size w w' := by
  have ba : -1074 ≤ se a ∧ se a ≤ 971 := ⟨se_ge a, se_le n1 i1⟩
  have bb : -1074 ≤ se b ∧ se b ≤ 971 := ⟨se_ge b, se_le n2 i2⟩
  obtain ⟨d, hd⟩ : ∃ d : Nat, se b - se a = (d : Int) := ⟨(se b - se a).toNat, by omega⟩
  have hdm : d = 0 → sm a ≤ sm b := fun h => by omega
  have P0 := addP_eq (a := b) (b := a) (d := d) z2 z1 (by omega) hdm
  rw [addF_comm] at P0
  have H1 := Lib.hid (isnan_c a ha); rw [n1] at H1
  have H2 := Lib.hid (isnan_c b hb); rw [n2] at H2
  have H3 := Lib.hid (isinf_c a ha); rw [i1] at H3
  have H4 := Lib.hid (isinf_c b hb); rw [i2] at H4
  have H5 := Lib.hid (iszero_c a ha); rw [z1] at H5
  have H6 := Lib.hid (iszero_c b hb); rw [z2] at H6
  have HSA := Lib.hid (split_c a ha)
  have HSB := Lib.hid (split_c b hb)
  have lb := sm_lt b
  have la := sm_lt a
  have HRR := Lib.hid (right_c (sm a) 0 d (W_of (by omega)) (W_of (by decide)))
  have s64 : (sm a * 2 ^ 64 % 2 ^ d ≠ 0) ↔ (two (sm a) 0 % 2 ^ d ≠ 0) := by
    rw [show two (sm a) 0 = sm a * 2 ^ 64 by unfold two; rw [show (2 : Nat) ^ 64 = 18446744073709551616 by decide]; omega]
  have hrl : W (rL (sm a) 0 d) := W_of (Nat.mod_lt _ (by decide))
  have rt : rT (sm a) 0 d = decide (sm a * 2 ^ 64 % 2 ^ d ≠ 0) := by unfold rT; rw [decide_eq_decide]; exact s64.symm
  unfold addP at P0
  rw [← rt] at P0
  by_cases hn : ng b = ng a
  · rw [if_pos hn] at P0
    obtain ⟨q1, q2, q3⟩ := sum_two (d := d) lb la
    rw [← q2] at P0
    have HPK := Lib.hid (pack_c (ng b) (sm b + rH (sm a) 0 d) (rL (sm a) 0 d) (se b - 64) (rT (sm a) 0 d) q1 hrl)
    rw [P0] at HPK
    have nn : ng b = ng a := by first | exact hn | exact hn.symm
    rw [nn] at HSB
    rw [show ng b = ng a by first | rfl | exact nn] at HPK
    refine add_same_11 a b (sm a) (se a) (sm b) (se b) d (rH (sm a) 0 d) (rL (sm a) 0 d) ((sm b + rH (sm a) 0 d : Nat) : Int) (((sm b + rH (sm a) 0 d + 0) / 18446744073709551616 : Nat) : Int) _ (ng a) (rT (sm a) 0 d) w H1 H2 H3 H4 H5 H6 HSA HSB hoe hm ba bb hd HRR ?_ ?_ HPK
    · intro w
      have := add64 0 (rL (sm a) 0 d) 0 (by decide) w
      unfold W at hrl
      rw [show (0 + rL (sm a) 0 d + 0) % 18446744073709551616 = rL (sm a) 0 d by omega, show (0 + rL (sm a) 0 d + 0) / 18446744073709551616 = 0 by omega] at this
      exact this
    · intro w
      have := add64 (sm b) (rH (sm a) 0 d) 0 (by decide) w
      unfold W at q1
      rw [show (sm b + rH (sm a) 0 d + 0) % 18446744073709551616 = sm b + rH (sm a) 0 d by omega] at this
      exact this
  · rw [if_neg hn] at P0
    have hle : sm a ≤ sm b * 2 ^ d := by
      by_cases g : d = 0
      · have := hdm g; subst g; simpa using this
      · have h1 : 2 ^ 52 ≤ sm b := sm_norm (by omega)
        calc sm a ≤ 2 ^ 52 * 2 ^ 1 := Nat.le_of_lt la
          _ ≤ sm b * 2 ^ d := Nat.mul_le_mul h1 (Nat.pow_le_pow_right (by decide) (by omega))
    obtain ⟨q1, q2, q3⟩ := diff_two (d := d) lb la hle
    have nn : ng b = !ng a := by
      obtain ⟨p, hp⟩ : ∃ p, ng a = p := ⟨_, rfl⟩
      obtain ⟨q, hq⟩ : ∃ q, ng b = q := ⟨_, rfl⟩
      rw [hp, hq] at hn ⊢
      revert hn; cases p <;> cases q <;> decide
    obtain ⟨cy, hcy⟩ : ∃ cy : Nat, (if 0 < rL (sm a) 0 d + (if rT (sm a) 0 d then 1 else 0) then 1 else 0 : Nat) = cy := ⟨_, rfl⟩
    obtain ⟨l2, hl2⟩ : ∃ l2 : Nat, (18446744073709551616 - rL (sm a) 0 d - (if rT (sm a) 0 d then 1 else 0)) % 18446744073709551616 = l2 := ⟨_, rfl⟩
    have hl2W : W l2 := W_of (by rw [← hl2]; exact Nat.mod_lt _ (by decide))
    have hh2W : W (sm b - rH (sm a) 0 d - cy) := W_of (by omega)
    have hcy1 : cy ≤ 1 := by rw [← hcy]; exact ite01 _
    have S1 := sub64 0 (rL (sm a) 0 d) (if rT (sm a) 0 d then 1 else 0) (by split <;> decide)
    rw [hcy, hl2] at q1
    rw [hcy] at q2
    have S2 := sub64 (sm b) (rH (sm a) 0 d) cy hcy1
    rw [show (sm b + 18446744073709551616 - rH (sm a) 0 d - cy) % 18446744073709551616 = sm b - rH (sm a) 0 d - cy by omega] at S2
    rw [Nat.zero_add, hcy, hl2] at S1
    rw [← q1] at P0
    have HPK := Lib.hid (pack_c (ng b && decide (two (sm b - rH (sm a) 0 d - cy) l2 ≠ 0)) (sm b - rH (sm a) 0 d - cy) l2 (se b - 64) (rT (sm a) 0 d) hh2W hl2W)
    rw [P0] at HPK
    rw [nn] at HSB
    rw [show ng b = (!ng a) by first | rfl | exact nn] at HPK
    have Z : (bits .or .u64 ((sm b - rH (sm a) 0 d - cy : Nat) : Int) (l2 : Int) != 0) = decide (two (sm b - rH (sm a) 0 d - cy) l2 ≠ 0) := by
      rw [bor_ne hh2W hl2W, decide_eq_decide]
      have := two_zero (hi := sm b - rH (sm a) 0 d - cy) (lo := l2)
      omega
    cases hT : rT (sm a) 0 d
    · rw [hT] at HPK S1
      exact add_less_11 a b (sm a) (se a) (sm b) (se b) d (rH (sm a) 0 d) (rL (sm a) 0 d) (l2 : Int) (cy : Int) ((sm b - rH (sm a) 0 d - cy : Nat) : Int) _ _ (ng a) w H1 H2 H3 H4 H5 H6 HSA HSB hoe hm ba bb hd (Lib.hid (by have := HRR.out; unfold RightV at this; rw [hT] at this; exact this)) S1 S2 _ Z HPK
    · rw [hT] at HPK S1
      exact add_more_11 a b (sm a) (se a) (sm b) (se b) d (rH (sm a) 0 d) (rL (sm a) 0 d) (l2 : Int) (cy : Int) ((sm b - rH (sm a) 0 d - cy : Nat) : Int) _ _ (ng a) w H1 H2 H3 H4 H5 H6 HSA HSB hoe hm ba bb hd (Lib.hid (by have := HRR.out; unfold RightV at this; rw [hT] at this; exact this)) S1 S2 _ Z HPK
theorem add_c (a b : Nat) (ha : W a) (hb : W b) (w : World) : Calls Try.prog 18 #[.int .u64 a, .int .u64 b] w fun e w' => e = .returned (.int .u64 ((addV a b : Nat) : Int)) ∧ Below w.heap.size w w' := by
  have N1 := Lib.hid (isnan_c a ha)
  have N2 := Lib.hid (isnan_c b hb)
  have I1 := Lib.hid (isinf_c a ha)
  have I2 := Lib.hid (isinf_c b hb)
  have Z1 := Lib.hid (iszero_c a ha)
  have Z2 := Lib.hid (iszero_c b hb)
  unfold addV
  by_cases n1 : nan a = true
  · rw [n1] at N1 ⊢; exact add_n1 a b N1 w
  have n1 := Bool.eq_false_iff.2 n1; rw [n1] at N1 ⊢
  by_cases n2 : nan b = true
  · rw [n2] at N2 ⊢; exact add_n2 a b N1 N2 w
  have n2 := Bool.eq_false_iff.2 n2; rw [n2] at N2 ⊢
  rw [Bool.or_self, if_neg Bool.false_ne_true]
  by_cases i1 : inf a = true
  · rw [i1] at I1 ⊢
    rw [if_pos rfl]
    by_cases i2 : inf b = true
    · rw [i2] at I2 ⊢
      by_cases e : a = b
      · rw [if_neg (by simpa using e)]; exact add_i12e a b (by subst e; exact beq_self_eq_true _) N1 N2 I1 I2 w
      · rw [if_pos (by simpa using e)]; exact add_i12 a b (by simp; omega) N1 N2 I1 I2 w
    · have i2 := Bool.eq_false_iff.2 i2; rw [i2] at I2 ⊢
      exact add_i1 a b N1 N2 I1 I2 w
  have i1 := Bool.eq_false_iff.2 i1; rw [i1] at I1 ⊢
  rw [if_neg Bool.false_ne_true]
  by_cases i2 : inf b = true
  · rw [i2] at I2 ⊢; exact add_i2 a b N1 N2 I1 I2 w
  have i2 := Bool.eq_false_iff.2 i2; rw [i2] at I2 ⊢
  rw [if_neg Bool.false_ne_true]
  by_cases z1 : zer a = true
  · by_cases z2 : zer b = true
    · rw [addF_zeros z1 z2]
      rw [z1] at Z1; rw [z2] at Z2
      exact add_z12 a b _ (zer_and ha hb z1 z2) N1 N2 I1 I2 Z1 Z2 w
    · have z2 := Bool.eq_false_iff.2 z2
      rw [addF_zero hb n2 i2 z1 z2]
      rw [z1] at Z1; rw [z2] at Z2
      exact add_z1 a b N1 N2 I1 I2 Z1 Z2 w
  have z1 := Bool.eq_false_iff.2 z1
  by_cases z2 : zer b = true
  · rw [addF_comm, addF_zero ha n1 i1 z2 z1]
    rw [z1] at Z1; rw [z2] at Z2
    exact add_z2 a b N1 N2 I1 I2 Z1 Z2 w
  have z2 := Bool.eq_false_iff.2 z2
  rcases Int.lt_trichotomy (se a) (se b) with o | o | o
  · exact add_fin_10 a b ha hb n1 n2 i1 i2 z1 z2 o w
  · by_cases m : ((sm a : Nat) : Int) < ((sm b : Nat) : Int)
    · exact add_fin_11 a b ha hb n1 n2 i1 i2 z1 z2 o m w
    · exact add_fin_01 a b ha hb n1 n2 i1 i2 z1 z2 o m w
  · exact add_fin_00 a b ha hb n1 n2 i1 i2 z1 z2 o w
end Go.Proofs.Ytkifdppppihjcaa
