/- The reference's ToDouble. -/
import Derived.Test.YtecgkhijiogggaaZ0
import Derived.Test.YtecgkhijiogggaaM
namespace Go.Proofs.Ytecgkhijiogggaa
set_option linter.unusedVariables false
set_option linter.unusedSimpArgs false
open Go.RowKit Go.Shelf SF
set_option maxRecDepth 100000 in
set_option maxHeartbeats 2000000 in
theorem rTo_bad (a : Nat) (tt : Int) (HT : Hid (∀ w, Calls Try.prog 41 #[.int .u64 a] w fun e w' => e = .returned (.int .u64 tt) ∧ Below w.heap.size w w')) (SB : Hid (∀ w, Calls Try.prog 60 #[.int .u64 tt] w fun e w' => e = .returned (.tuple #[.bool false, .slice none 0 0, .int .i64 0, .bool false]) ∧ w = w')) (w : World) : Calls Try.prog 56 #[.int .u64 a] w fun e w' => e = .returned (.tuple #[.int .i64 (0), .int .i64 (0), .int .i64 (-43)]) ∧ Below w.heap.size w w' := by
  go_enter Try.func56, Try.ntmps56
  go_wp2_with (first
    | (go_at_call 41; (with_reducible refine (HT.out _).mono ?_); rintro e0 w0 ⟨rfl, hb0⟩)
    | (go_at_call 60; (with_reducible refine (SB.out _).mono ?_); rintro e1 w1 ⟨rfl, rfl⟩))
  go_ret3
  exact ⟨rfl, hb0⟩
set_option maxRecDepth 100000 in
set_option maxHeartbeats 2000000 in
theorem rTo_far (a : Nat) (tt : Int) (HT : Hid (∀ w, Calls Try.prog 41 #[.int .u64 a] w fun e w' => e = .returned (.int .u64 tt) ∧ Below w.heap.size w w')) (p : Bool) (A : Nat) (e : Int) (SA : Hid (∀ w, Calls Try.prog 60 #[.int .u64 tt] w (Sp w p A e))) (he : 200 < e) (w : World) : Calls Try.prog 56 #[.int .u64 a] w fun e w' => e = .returned (.tuple #[.int .i64 (0), .int .i64 (0), .int .i64 (-43)]) ∧ Below w.heap.size w w' := by
  go_enter Try.func56, Try.ntmps56
  go_wp2_with (first
    | (go_at_call 41; (with_reducible refine (HT.out _).mono ?_); rintro e0 w0 ⟨rfl, hb0⟩)
    | (go_at_call 60; (with_reducible refine (SA.out _).mono ?_); rintro e1 w1 ⟨a1, n1, c1, rfl, hv1, hb1⟩))
  go_ret3
  exact ⟨rfl, btn hb0 hb1⟩
set_option maxRecDepth 100000 in
set_option maxHeartbeats 2000000 in
theorem rTo_big (a : Nat) (tt : Int) (HT : Hid (∀ w, Calls Try.prog 41 #[.int .u64 a] w fun e w' => e = .returned (.int .u64 tt) ∧ Below w.heap.size w w')) (A : Nat) (e : Int) (SA : Hid (∀ w, Calls Try.prog 60 #[.int .u64 tt] w (Sp w false A e))) (he : -1074 ≤ e ∧ e ≤ 200) (M : Nat) (HS : Hid (∀ (w1 : World) (a1 : Option Addr) (n1 c1 : Nat), Nw w1 (.slice a1 n1 c1) (A) → Calls Try.prog 78 #[.slice a1 n1 c1, .int .i64 (e)] w1 (OneOk w1 (M)))) (n : Int) (HB : Hid (∀ (w1 : World) (a1 : Option Addr) (n1 c1 : Nat), Nw w1 (.slice a1 n1 c1) M → Calls Try.prog 77 #[.slice a1 n1 c1] w1 fun e w' => e = .returned (.int .i64 n) ∧ w1 = w')) (HOf : Hid (∀ w1, Calls Try.prog 83 #[.int .u64 1] w1 (One w1 1))) (L : Nat) (HS2 : Hid (∀ (w1 : World) (a1 : Option Addr) (n1 c1 : Nat), Nw w1 (.slice a1 n1 c1) (1) → Calls Try.prog 78 #[.slice a1 n1 c1, .int .i64 (127)] w1 (OneOk w1 (L)))) (hn : 127 < n) (w : World) : Calls Try.prog 56 #[.int .u64 a] w fun e w' => e = .returned (.tuple #[.int .i64 (0), .int .i64 (0), .int .i64 (-43)]) ∧ Below w.heap.size w w' := by
  go_enter Try.func56, Try.ntmps56
  go_wp2_with (first
    | (go_at_call 41; (with_reducible refine (HT.out _).mono ?_); rintro e0 w0 ⟨rfl, hb0⟩)
    | (go_at_call 60; (with_reducible refine (SA.out _).mono ?_); rintro e1 w1 ⟨a1, n1, c1, rfl, hv1, hb1⟩)
    | (go_at_call 78; (with_reducible refine (HS.out _ _ _ _ hv1).mono ?_); rintro e2 w2 ⟨a2, n2, c2, rfl, hv2, hb2⟩)
    | (go_at_call 77; (with_reducible refine (HB.out _ _ _ _ hv2).mono ?_); rintro e3 w3 ⟨rfl, rfl⟩)
    | (go_at_call 83; (with_reducible refine (HOf.out _).mono ?_); rintro e4 w4 ⟨a4, n4, c4, rfl, hv4, hb4⟩)
    | (go_at_call 78; (with_reducible refine (HS2.out _ _ _ _ hv4).mono ?_); rintro e5 w5 ⟨a5, n5, c5, rfl, hv5, hb5⟩))
  go_ret3
  exact ⟨rfl, btn hb0 (btn hb1 (btn hb2 (btn hb4 hb5)))⟩
set_option maxRecDepth 100000 in
set_option maxHeartbeats 2000000 in
theorem rTo_bign (a : Nat) (tt : Int) (HT : Hid (∀ w, Calls Try.prog 41 #[.int .u64 a] w fun e w' => e = .returned (.int .u64 tt) ∧ Below w.heap.size w w')) (A : Nat) (e : Int) (SA : Hid (∀ w, Calls Try.prog 60 #[.int .u64 tt] w (Sp w true A e))) (he : -1074 ≤ e ∧ e ≤ 200) (M : Nat) (HS : Hid (∀ (w1 : World) (a1 : Option Addr) (n1 c1 : Nat), Nw w1 (.slice a1 n1 c1) (A) → Calls Try.prog 78 #[.slice a1 n1 c1, .int .i64 (e)] w1 (OneOk w1 (M)))) (n : Int) (HB : Hid (∀ (w1 : World) (a1 : Option Addr) (n1 c1 : Nat), Nw w1 (.slice a1 n1 c1) M → Calls Try.prog 77 #[.slice a1 n1 c1] w1 fun e w' => e = .returned (.int .i64 n) ∧ w1 = w')) (HOf : Hid (∀ w1, Calls Try.prog 83 #[.int .u64 1] w1 (One w1 1))) (L : Nat) (HS2 : Hid (∀ (w1 : World) (a1 : Option Addr) (n1 c1 : Nat), Nw w1 (.slice a1 n1 c1) (1) → Calls Try.prog 78 #[.slice a1 n1 c1, .int .i64 (127)] w1 (OneOk w1 (L)))) (hn : 127 < n) (t : Int) (HC : Hid (∀ (w1 : World) (a1 : Option Addr) (n1 c1 : Nat) (a2 : Option Addr) (n2 c2 : Nat), Nw w1 (.slice a1 n1 c1) (M) → Nw w1 (.slice a2 n2 c2) (L) → Calls Try.prog 81 #[.slice a1 n1 c1, .slice a2 n2 c2] w1 fun e w' => e = .returned (.int .i64 t) ∧ Below w1.heap.size w1 w')) (hz : (t == 0) = false) (w : World) : Calls Try.prog 56 #[.int .u64 a] w fun e w' => e = .returned (.tuple #[.int .i64 (0), .int .i64 (0), .int .i64 (-43)]) ∧ Below w.heap.size w w' := by
  go_enter Try.func56, Try.ntmps56
  go_wp2_with (first
    | (go_at_call 41; (with_reducible refine (HT.out _).mono ?_); rintro e0 w0 ⟨rfl, hb0⟩)
    | (go_at_call 60; (with_reducible refine (SA.out _).mono ?_); rintro e1 w1 ⟨a1, n1, c1, rfl, hv1, hb1⟩)
    | (go_at_call 78; (with_reducible refine (HS.out _ _ _ _ hv1).mono ?_); rintro e2 w2 ⟨a2, n2, c2, rfl, hv2, hb2⟩)
    | (go_at_call 77; (with_reducible refine (HB.out _ _ _ _ hv2).mono ?_); rintro e3 w3 ⟨rfl, rfl⟩)
    | (go_at_call 83; (with_reducible refine (HOf.out _).mono ?_); rintro e4 w4 ⟨a4, n4, c4, rfl, hv4, hb4⟩)
    | (go_at_call 78; (with_reducible refine (HS2.out _ _ _ _ hv4).mono ?_); rintro e5 w5 ⟨a5, n5, c5, rfl, hv5, hb5⟩)
    | (go_at_call 81; (with_reducible refine (HC.out _ _ _ _ _ _ _ (hv2.below (btn hb4 hb5)) hv5).mono ?_); rintro e6 w6 ⟨rfl, hb6⟩))
  go_ret3
  exact ⟨rfl, btn hb0 (btn hb1 (btn hb2 (btn hb4 (btn hb5 hb6))))⟩
set_option maxRecDepth 100000 in
set_option maxHeartbeats 2000000 in
theorem rTo_pos (a : Nat) (tt : Int) (HT : Hid (∀ w, Calls Try.prog 41 #[.int .u64 a] w fun e w' => e = .returned (.int .u64 tt) ∧ Below w.heap.size w w')) (A : Nat) (e : Int) (SA : Hid (∀ w, Calls Try.prog 60 #[.int .u64 tt] w (Sp w false A e))) (he : -1074 ≤ e ∧ e ≤ 200) (M : Nat) (HS : Hid (∀ (w1 : World) (a1 : Option Addr) (n1 c1 : Nat), Nw w1 (.slice a1 n1 c1) (A) → Calls Try.prog 78 #[.slice a1 n1 c1, .int .i64 (e)] w1 (OneOk w1 (M)))) (n : Int) (HB : Hid (∀ (w1 : World) (a1 : Option Addr) (n1 c1 : Nat), Nw w1 (.slice a1 n1 c1) M → Calls Try.prog 77 #[.slice a1 n1 c1] w1 fun e w' => e = .returned (.int .i64 n) ∧ w1 = w')) (HOf : Hid (∀ w1, Calls Try.prog 83 #[.int .u64 1] w1 (One w1 1))) (L : Nat) (HS2 : Hid (∀ (w1 : World) (a1 : Option Addr) (n1 c1 : Nat), Nw w1 (.slice a1 n1 c1) (1) → Calls Try.prog 78 #[.slice a1 n1 c1, .int .i64 (127)] w1 (OneOk w1 (L)))) (hn : ¬ 127 < n) (lo hi l h : Int) (HL : Hid (∀ (w1 : World) (a1 : Option Addr) (n1 c1 : Nat), Nw w1 (.slice a1 n1 c1) M → Calls Try.prog 102 #[.slice a1 n1 c1] w1 fun e w' => e = .returned (.int .u64 l) ∧ w1 = w')) (N : Nat) (HS3 : Hid (∀ (w1 : World) (a1 : Option Addr) (n1 c1 : Nat), Nw w1 (.slice a1 n1 c1) (M) → Calls Try.prog 78 #[.slice a1 n1 c1, .int .i64 (-64)] w1 (OneOk w1 (N)))) (HL2 : Hid (∀ (w1 : World) (a1 : Option Addr) (n1 c1 : Nat), Nw w1 (.slice a1 n1 c1) N → Calls Try.prog 102 #[.slice a1 n1 c1] w1 fun e w' => e = .returned (.int .u64 h) ∧ w1 = w')) (e1 : IntKind.i64.wrap l = lo) (e2 : IntKind.i64.wrap h = hi) (w : World) : Calls Try.prog 56 #[.int .u64 a] w fun e w' => e = .returned (.tuple #[.int .i64 (lo), .int .i64 (hi), .int .i64 (0)]) ∧ Below w.heap.size w w' := by
  go_enter Try.func56, Try.ntmps56
  go_wp2_with (first
    | (go_at_call 41; (with_reducible refine (HT.out _).mono ?_); rintro e0 w0 ⟨rfl, hb0⟩)
    | (go_at_call 60; (with_reducible refine (SA.out _).mono ?_); rintro e1 w1 ⟨a1, n1, c1, rfl, hv1, hb1⟩)
    | (go_at_call 78; (with_reducible refine (HS.out _ _ _ _ hv1).mono ?_); rintro e2 w2 ⟨a2, n2, c2, rfl, hv2, hb2⟩)
    | (go_at_call 77; (with_reducible refine (HB.out _ _ _ _ hv2).mono ?_); rintro e3 w3 ⟨rfl, rfl⟩)
    | (go_at_call 83; (with_reducible refine (HOf.out _).mono ?_); rintro e4 w4 ⟨a4, n4, c4, rfl, hv4, hb4⟩)
    | (go_at_call 78; (with_reducible refine (HS2.out _ _ _ _ hv4).mono ?_); rintro e5 w5 ⟨a5, n5, c5, rfl, hv5, hb5⟩)
    | (go_at_call 102; (with_reducible refine (HL.out _ _ _ _ (hv2.below (btn hb4 hb5))).mono ?_); rintro e7 w7 ⟨rfl, rfl⟩)
    | (go_at_call 78; (with_reducible refine (HS3.out _ _ _ _ (hv2.below (btn hb4 hb5))).mono ?_); rintro e8 w8 ⟨a8, n8, c8, rfl, hv8, hb8⟩)
    | (go_at_call 102; (with_reducible refine (HL2.out _ _ _ _ hv8).mono ?_); rintro e9 w9 ⟨rfl, rfl⟩))
  go_ret3
  exact ⟨rfl, btn (btn hb0 (btn hb1 (btn hb2 (btn hb4 hb5)))) hb8⟩
set_option maxRecDepth 100000 in
set_option maxHeartbeats 2000000 in
theorem rTo_neg (a : Nat) (tt : Int) (HT : Hid (∀ w, Calls Try.prog 41 #[.int .u64 a] w fun e w' => e = .returned (.int .u64 tt) ∧ Below w.heap.size w w')) (A : Nat) (e : Int) (SA : Hid (∀ w, Calls Try.prog 60 #[.int .u64 tt] w (Sp w true A e))) (he : -1074 ≤ e ∧ e ≤ 200) (M : Nat) (HS : Hid (∀ (w1 : World) (a1 : Option Addr) (n1 c1 : Nat), Nw w1 (.slice a1 n1 c1) (A) → Calls Try.prog 78 #[.slice a1 n1 c1, .int .i64 (e)] w1 (OneOk w1 (M)))) (n : Int) (HB : Hid (∀ (w1 : World) (a1 : Option Addr) (n1 c1 : Nat), Nw w1 (.slice a1 n1 c1) M → Calls Try.prog 77 #[.slice a1 n1 c1] w1 fun e w' => e = .returned (.int .i64 n) ∧ w1 = w')) (HOf : Hid (∀ w1, Calls Try.prog 83 #[.int .u64 1] w1 (One w1 1))) (L : Nat) (HS2 : Hid (∀ (w1 : World) (a1 : Option Addr) (n1 c1 : Nat), Nw w1 (.slice a1 n1 c1) (1) → Calls Try.prog 78 #[.slice a1 n1 c1, .int .i64 (127)] w1 (OneOk w1 (L)))) (hn : ¬ 127 < n) (lo hi l h : Int) (HL : Hid (∀ (w1 : World) (a1 : Option Addr) (n1 c1 : Nat), Nw w1 (.slice a1 n1 c1) M → Calls Try.prog 102 #[.slice a1 n1 c1] w1 fun e w' => e = .returned (.int .u64 l) ∧ w1 = w')) (N : Nat) (HS3 : Hid (∀ (w1 : World) (a1 : Option Addr) (n1 c1 : Nat), Nw w1 (.slice a1 n1 c1) (M) → Calls Try.prog 78 #[.slice a1 n1 c1, .int .i64 (-64)] w1 (OneOk w1 (N)))) (HL2 : Hid (∀ (w1 : World) (a1 : Option Addr) (n1 c1 : Nat), Nw w1 (.slice a1 n1 c1) N → Calls Try.prog 102 #[.slice a1 n1 c1] w1 fun e w' => e = .returned (.int .u64 h) ∧ w1 = w')) (e1 : IntKind.i64.wrap l = lo) (e2 : IntKind.i64.wrap h = hi) (x y : Int) (HN : Hid (∀ w, Calls Try.prog 88 #[.int .i64 lo, .int .i64 hi] w fun e w' => e = .returned (.tuple #[.int .i64 x, .int .i64 y]) ∧ w = w')) (w : World) : Calls Try.prog 56 #[.int .u64 a] w fun e w' => e = .returned (.tuple #[.int .i64 (x), .int .i64 (y), .int .i64 (0)]) ∧ Below w.heap.size w w' := by
  go_enter Try.func56, Try.ntmps56
  go_wp2_with (first
    | (go_at_call 41; (with_reducible refine (HT.out _).mono ?_); rintro e0 w0 ⟨rfl, hb0⟩)
    | (go_at_call 60; (with_reducible refine (SA.out _).mono ?_); rintro e1 w1 ⟨a1, n1, c1, rfl, hv1, hb1⟩)
    | (go_at_call 78; (with_reducible refine (HS.out _ _ _ _ hv1).mono ?_); rintro e2 w2 ⟨a2, n2, c2, rfl, hv2, hb2⟩)
    | (go_at_call 77; (with_reducible refine (HB.out _ _ _ _ hv2).mono ?_); rintro e3 w3 ⟨rfl, rfl⟩)
    | (go_at_call 83; (with_reducible refine (HOf.out _).mono ?_); rintro e4 w4 ⟨a4, n4, c4, rfl, hv4, hb4⟩)
    | (go_at_call 78; (with_reducible refine (HS2.out _ _ _ _ hv4).mono ?_); rintro e5 w5 ⟨a5, n5, c5, rfl, hv5, hb5⟩)
    | (go_at_call 102; (with_reducible refine (HL.out _ _ _ _ (hv2.below (btn hb4 hb5))).mono ?_); rintro e7 w7 ⟨rfl, rfl⟩)
    | (go_at_call 78; (with_reducible refine (HS3.out _ _ _ _ (hv2.below (btn hb4 hb5))).mono ?_); rintro e8 w8 ⟨a8, n8, c8, rfl, hv8, hb8⟩)
    | (go_at_call 102; (with_reducible refine (HL2.out _ _ _ _ hv8).mono ?_); rintro e9 w9 ⟨rfl, rfl⟩)
    | (go_at_call 88; (with_reducible refine (HN.out _).mono ?_); rintro e10 w10 ⟨rfl, rfl⟩))
  go_ret3
  exact ⟨rfl, btn (btn hb0 (btn hb1 (btn hb2 (btn hb4 hb5)))) hb8⟩
set_option maxRecDepth 100000 in
set_option maxHeartbeats 2000000 in
theorem rTo_min (a : Nat) (tt : Int) (HT : Hid (∀ w, Calls Try.prog 41 #[.int .u64 a] w fun e w' => e = .returned (.int .u64 tt) ∧ Below w.heap.size w w')) (A : Nat) (e : Int) (SA : Hid (∀ w, Calls Try.prog 60 #[.int .u64 tt] w (Sp w true A e))) (he : -1074 ≤ e ∧ e ≤ 200) (M : Nat) (HS : Hid (∀ (w1 : World) (a1 : Option Addr) (n1 c1 : Nat), Nw w1 (.slice a1 n1 c1) (A) → Calls Try.prog 78 #[.slice a1 n1 c1, .int .i64 (e)] w1 (OneOk w1 (M)))) (n : Int) (HB : Hid (∀ (w1 : World) (a1 : Option Addr) (n1 c1 : Nat), Nw w1 (.slice a1 n1 c1) M → Calls Try.prog 77 #[.slice a1 n1 c1] w1 fun e w' => e = .returned (.int .i64 n) ∧ w1 = w')) (HOf : Hid (∀ w1, Calls Try.prog 83 #[.int .u64 1] w1 (One w1 1))) (L : Nat) (HS2 : Hid (∀ (w1 : World) (a1 : Option Addr) (n1 c1 : Nat), Nw w1 (.slice a1 n1 c1) (1) → Calls Try.prog 78 #[.slice a1 n1 c1, .int .i64 (127)] w1 (OneOk w1 (L)))) (hn : 127 < n) (t : Int) (HC : Hid (∀ (w1 : World) (a1 : Option Addr) (n1 c1 : Nat) (a2 : Option Addr) (n2 c2 : Nat), Nw w1 (.slice a1 n1 c1) (M) → Nw w1 (.slice a2 n2 c2) (L) → Calls Try.prog 81 #[.slice a1 n1 c1, .slice a2 n2 c2] w1 fun e w' => e = .returned (.int .i64 t) ∧ Below w1.heap.size w1 w')) (ht : t = 0) (lo hi l h : Int) (HL : Hid (∀ (w1 : World) (a1 : Option Addr) (n1 c1 : Nat), Nw w1 (.slice a1 n1 c1) M → Calls Try.prog 102 #[.slice a1 n1 c1] w1 fun e w' => e = .returned (.int .u64 l) ∧ w1 = w')) (N : Nat) (HS3 : Hid (∀ (w1 : World) (a1 : Option Addr) (n1 c1 : Nat), Nw w1 (.slice a1 n1 c1) (M) → Calls Try.prog 78 #[.slice a1 n1 c1, .int .i64 (-64)] w1 (OneOk w1 (N)))) (HL2 : Hid (∀ (w1 : World) (a1 : Option Addr) (n1 c1 : Nat), Nw w1 (.slice a1 n1 c1) N → Calls Try.prog 102 #[.slice a1 n1 c1] w1 fun e w' => e = .returned (.int .u64 h) ∧ w1 = w')) (e1 : IntKind.i64.wrap l = lo) (e2 : IntKind.i64.wrap h = hi) (x y : Int) (HN : Hid (∀ w, Calls Try.prog 88 #[.int .i64 lo, .int .i64 hi] w fun e w' => e = .returned (.tuple #[.int .i64 x, .int .i64 y]) ∧ w = w')) (w : World) : Calls Try.prog 56 #[.int .u64 a] w fun e w' => e = .returned (.tuple #[.int .i64 (x), .int .i64 (y), .int .i64 (0)]) ∧ Below w.heap.size w w' := by
  go_enter Try.func56, Try.ntmps56
  go_wp2_with (first
    | (go_at_call 41; (with_reducible refine (HT.out _).mono ?_); rintro e0 w0 ⟨rfl, hb0⟩)
    | (go_at_call 60; (with_reducible refine (SA.out _).mono ?_); rintro e1 w1 ⟨a1, n1, c1, rfl, hv1, hb1⟩)
    | (go_at_call 78; (with_reducible refine (HS.out _ _ _ _ hv1).mono ?_); rintro e2 w2 ⟨a2, n2, c2, rfl, hv2, hb2⟩)
    | (go_at_call 77; (with_reducible refine (HB.out _ _ _ _ hv2).mono ?_); rintro e3 w3 ⟨rfl, rfl⟩)
    | (go_at_call 83; (with_reducible refine (HOf.out _).mono ?_); rintro e4 w4 ⟨a4, n4, c4, rfl, hv4, hb4⟩)
    | (go_at_call 78; (with_reducible refine (HS2.out _ _ _ _ hv4).mono ?_); rintro e5 w5 ⟨a5, n5, c5, rfl, hv5, hb5⟩)
    | (go_at_call 81; (with_reducible refine (HC.out _ _ _ _ _ _ _ (hv2.below (btn hb4 hb5)) hv5).mono ?_); rintro e6 w6 ⟨rfl, hb6⟩)
    | (go_at_call 102; (with_reducible refine (HL.out _ _ _ _ (hv2.below (btn hb4 (btn hb5 hb6)))).mono ?_); rintro e7 w7 ⟨rfl, rfl⟩)
    | (go_at_call 78; (with_reducible refine (HS3.out _ _ _ _ (hv2.below (btn hb4 (btn hb5 hb6)))).mono ?_); rintro e8 w8 ⟨a8, n8, c8, rfl, hv8, hb8⟩)
    | (go_at_call 102; (with_reducible refine (HL2.out _ _ _ _ hv8).mono ?_); rintro e9 w9 ⟨rfl, rfl⟩)
    | (go_at_call 88; (with_reducible refine (HN.out _).mono ?_); rintro e10 w10 ⟨rfl, rfl⟩))
  go_ret3
  exact ⟨rfl, btn (btn hb0 (btn hb1 (btn hb2 (btn hb4 (btn hb5 hb6))))) hb8⟩
theorem W_wholeV0 {a : Nat} (ha : W a) : W (wholeV 0 a) := by
  unfold wholeV
  split; exact W_of (by decide)
  split; exact ha
  split; exact ha
  exact W_sg (by have := pat_le (wq 0 (ng a) (sm a) (-se a).toNat) 0 false; omega)
theorem whole_bad {a : Nat} (h : nan a = true ∨ inf a = true) : nan (wholeV 0 a) = true ∨ inf (wholeV 0 a) = true := by
  by_cases h1 : nan a = true
  · left; rw [show wholeV 0 a = NaN by simp [wholeV, h1]]; decide
  · have h2 : inf a = true := by rcases h with h | h; exact absurd h h1; exact h
    right; rw [show wholeV 0 a = a by simp [wholeV, h1, h2]]; exact h2
theorem pat53 {m : Nat} (h : bl m ≤ 53) : pat m 0 false < 9218868437227405312 := by
  by_cases h0 : m = 0
  · rw [h0, pat_zero]; decide
  · have hn := (nf false h0 h (e := 0) (by have := bl_pos h0; omega) (by omega))
    unfold pat
    rw [patG_fit (by decide) h0 (by unfold qz; omega) (by unfold qz; omega) (by decide)]
    have hq : qz 53 (-1074) (bl m) 0 = (bl m : Int) - 53 := by unfold qz; have := bl_pos h0; omega
    rw [hq]
    have hl := bl_lt m
    have hv : m * 2 ^ (0 - ((bl m : Int) - 53)).toNat < 2 ^ 53 := by
      calc m * 2 ^ (0 - ((bl m : Int) - 53)).toNat < 2 ^ bl m * 2 ^ (0 - ((bl m : Int) - 53)).toNat := Nat.mul_lt_mul_of_pos_right hl (Nat.two_pow_pos _)
        _ = 2 ^ 53 := by rw [← Nat.pow_add]; congr 1; omega
    rw [show (2 : Nat) ^ 53 = 9007199254740992 by decide] at hv
    rw [show (2 : Nat) ^ (53 - 1) = 4503599627370496 by decide]
    have : ((bl m : Int) - 53 - -1074).toNat ≤ 1074 := by omega
    omega
theorem whole_good {a : Nat} (h1 : nan a = false) (h2 : inf a = false) : nan (wholeV 0 a) = false ∧ inf (wholeV 0 a) = false := by
  unfold wholeV
  rw [if_neg (by rw [h1]; decide)]
  split
  · exact ⟨h1, h2⟩
  · split
    · exact ⟨h1, h2⟩
    · rw [wq_trunc]
      have hb : bl (sm a / 2 ^ (-se a).toNat) ≤ 53 := bl_mono' (Nat.div_le_self _ _) (bl_sm a)
      have hp := pat53 hb
      have hm : mag (sg (ng a) (pat (sm a / 2 ^ (-se a).toNat) 0 false)) = pat (sm a / 2 ^ (-se a).toNat) 0 false := mag_sg (by omega)
      unfold nan inf
      rw [hm]
      exact ⟨decide_eq_false (by omega), decide_eq_false (by omega)⟩
theorem to_neg {M : Nat} (h : M ≤ 170141183460469231731687303715884105728) : wr (-(M : Int)) = wr (-(dI (wr ((M % 18446744073709551616 : Nat) : Int)) (wr ((M / 18446744073709551616 % 18446744073709551616 : Nat) : Int)))) ∧ -(M : Int) / 18446744073709551616 = wr (-(dI (wr ((M % 18446744073709551616 : Nat) : Int)) (wr ((M / 18446744073709551616 % 18446744073709551616 : Nat) : Int))) / 18446744073709551616) := by
  have f1 : wr ((M % 18446744073709551616 : Nat) : Int) % 18446744073709551616 = (M : Int) % 18446744073709551616 := by unfold wr; omega
  obtain ⟨m, hm⟩ : ∃ m : Int, (M : Int) = m := ⟨_, rfl⟩
  have m0 : 0 ≤ m := by omega
  have m1 : m ≤ 170141183460469231731687303715884105728 := by omega
  have f2 : wr ((M / 18446744073709551616 % 18446744073709551616 : Nat) : Int) = if m = 170141183460469231731687303715884105728 then -9223372036854775808 else m / 18446744073709551616 := by
    have e : ((M / 18446744073709551616 % 18446744073709551616 : Nat) : Int) = m / 18446744073709551616 % 18446744073709551616 := by omega
    rw [e]
    clear e f1 hm h
    unfold wr
    by_cases c : m = 170141183460469231731687303715884105728
    · rw [if_pos c]; omega
    · rw [if_neg c]; omega
  unfold dI
  rw [f1, f2, hm]
  clear f1 f2 hm h
  unfold wr
  by_cases c : m = 170141183460469231731687303715884105728
  · rw [if_pos c]; omega
  · rw [if_neg c]; omega
set_option maxHeartbeats 2000000 in
theorem rTo_c (a : Nat) (ha : W a) (w : World) : Calls Try.prog 56 #[.int .u64 a] w fun e w' => e = .returned (.tuple #[.int .i64 (toLo a), .int .i64 (toHi a), .int .i64 (toT a)]) ∧ Below w.heap.size w w' := by
  have HT := Lib.hid (rTrunc_c a ha)
  have tW := W_wholeV0 ha
  by_cases bad : nan a = true ∨ inf a = true
  · have F : toFail a = true := by unfold toFail; rcases bad with h | h <;> rw [h] <;> simp
    rw [show toLo a = 0 by unfold toLo; rw [if_pos F], show toHi a = 0 by unfold toHi; rw [if_pos F], show toT a = -43 by unfold toT; rw [if_pos F]]
    exact rTo_bad a _ HT (Lib.hid (rsplit_bad _ tW (whole_bad bad))) w
  have n1 : nan a = false := Bool.eq_false_iff.2 (fun h => bad (.inl h))
  have i1 : inf a = false := Bool.eq_false_iff.2 (fun h => bad (.inr h))
  have F : toFail a = toBad (wholeV 0 a) := by unfold toFail; rw [n1, i1]; rfl
  have eLo : toLo a = if toBad (wholeV 0 a) = true then 0 else wr (toI (wholeV 0 a)) := by unfold toLo; rw [F]
  have eHi : toHi a = if toBad (wholeV 0 a) = true then 0 else toI (wholeV 0 a) / 18446744073709551616 := by unfold toHi; rw [F]
  have eT : toT a = if toBad (wholeV 0 a) = true then -43 else 0 := by unfold toT; rw [F]
  rw [eLo, eHi, eT]
  obtain ⟨g1, g2⟩ := whole_good n1 i1
  obtain ⟨t, ht⟩ : ∃ t, wholeV 0 a = t := ⟨_, rfl⟩
  rw [ht] at HT tW g1 g2 ⊢
  clear ht eLo eHi eT F bad n1 i1
  have SA := fun w => rsplit_c t tW g1 g2 w
  have la := se_ge t
  have ua := se_le g1 g2
  have bA := bl_sm t
  have tb : toBad t = (decide (170141183460469231731687303715884105728 ≤ toM t) && !(ng t && decide (toM t = 170141183460469231731687303715884105728))) := rfl
  by_cases far : 200 < se t
  · have hs := sm_norm (a := t) (by omega)
    have hM : toM t = sm t * 2 ^ (se t).toNat := by unfold toM; rw [if_pos (by omega)]
    have big : 170141183460469231731687303715884105728 < toM t := by
      rw [hM]
      calc 170141183460469231731687303715884105728 < 4503599627370496 * 2 ^ 200 := by decide
        _ ≤ sm t * 2 ^ (se t).toNat := Nat.mul_le_mul hs (pow_le (by omega))
    have B : toBad t = true := by rw [tb, decide_eq_true (by omega), decide_eq_false (by omega)]; cases ng t <;> rfl
    rw [if_pos B, if_pos B, if_pos B]
    exact rTo_far a _ HT _ _ _ (Lib.hid SA) far w
  have hMb : bl (toM t) ≤ 253 := by
    unfold toM
    split
    · have := bl_shl (sm t) (se t).toNat; omega
    · exact Nat.le_trans (bl_mono (Nat.div_le_self _ _)) (by omega)
  have HS : Hid (∀ (w1 : World) (a1 : Option Addr) (n1 c1 : Nat), Nw w1 (.slice a1 n1 c1) (sm t) → Calls Try.prog 78 #[.slice a1 n1 c1, .int .i64 (se t)] w1 (OneOk w1 (toM t))) := fun w1 a1 n1 c1 h => by
    by_cases c : 0 ≤ se t
    · have hM : toM t = sm t * 2 ^ (se t).toNat := by unfold toM; rw [if_pos c]
      have := rshl_n (se t).toNat h (by omega)
      rw [show (((se t).toNat : Nat) : Int) = se t by omega] at this
      rw [hM]; exact this
    · have hM : toM t = sm t / 2 ^ (-se t).toNat := by unfold toM; rw [if_neg c]
      have := rshr_n (-se t).toNat h (by omega) (by omega)
      rw [show -(((-se t).toNat : Nat) : Int) = se t by omega] at this
      rw [hM]; exact this
  have HB := Lib.hid (fun (w1 : World) (a1 : Option Addr) (n1 c1 : Nat) (h : Nw w1 (.slice a1 n1 c1) (toM t)) => rbits_n h (by omega))
  have HOf : Hid (∀ w1, Calls Try.prog 83 #[.int .u64 1] w1 (One w1 1)) := fun w1 => rof_n 1 w1 (W_of (by decide))
  have b1 : bl 1 = 1 := by decide
  have HS2 : Hid (∀ (w1 : World) (a1 : Option Addr) (n1 c1 : Nat), Nw w1 (.slice a1 n1 c1) 1 → Calls Try.prog 78 #[.slice a1 n1 c1, .int .i64 127] w1 (OneOk w1 170141183460469231731687303715884105728)) := fun w1 a1 n1 c1 h => by
    have := rshl_n 127 h (by omega)
    rw [show (1 : Nat) * 2 ^ 127 = 170141183460469231731687303715884105728 by decide] at this
    exact this
  have bL : bl 170141183460469231731687303715884105728 = 128 := by decide
  have HC := fun (w1 : World) (a1 : Option Addr) (n1 c1 : Nat) (a2 : Option Addr) (n2 c2 : Nat) (h1 : Nw w1 (.slice a1 n1 c1) (toM t)) (h2 : Nw w1 (.slice a2 n2 c2) 170141183460469231731687303715884105728) => rcmp_n h1 (by omega) h2 (by omega)
  have HL := Lib.hid (fun (w1 : World) (a1 : Option Addr) (n1 c1 : Nat) (h : Nw w1 (.slice a1 n1 c1) (toM t)) => rlow_n h (by omega))
  have HS3 : Hid (∀ (w1 : World) (a1 : Option Addr) (n1 c1 : Nat), Nw w1 (.slice a1 n1 c1) (toM t) → Calls Try.prog 78 #[.slice a1 n1 c1, .int .i64 (-64)] w1 (OneOk w1 (toM t / 18446744073709551616))) := fun w1 a1 n1 c1 h => by
    have := rshr_n 64 h (by omega) (by decide)
    rw [show (2 : Nat) ^ 64 = 18446744073709551616 by decide] at this
    exact this
  have HL2 := Lib.hid (fun (w1 : World) (a1 : Option Addr) (n1 c1 : Nat) (h : Nw w1 (.slice a1 n1 c1) (toM t / 18446744073709551616)) => rlow_n h (Nat.le_trans (bl_mono (Nat.div_le_self _ _)) (by omega)))
  have he : -1074 ≤ se t ∧ se t ≤ 200 := by omega
  have hbl : 127 < bl (toM t) ↔ 170141183460469231731687303715884105728 ≤ toM t := by
    rw [show (170141183460469231731687303715884105728 : Nat) = 2 ^ 127 by decide]
    constructor
    · intro h
      rcases Nat.lt_or_ge (toM t) (2 ^ 127) with g | g
      · have := bl_le_of_lt g; omega
      · exact g
    · exact lt_bl_of_le
  have ti : toI t = if ng t = true then -(toM t : Int) else (toM t : Int) := rfl
  obtain ⟨M, hM⟩ : ∃ M, toM t = M := ⟨_, rfl⟩
  rw [hM] at tb HS HB HC HL HS3 HL2 hbl ti
  have wl : IntKind.i64.wrap ((M % 18446744073709551616 : Nat) : Int) = wr ((M % 18446744073709551616 : Nat) : Int) := by rw [IntKind.wrap_i64]; rfl
  have wh : IntKind.i64.wrap ((M / 18446744073709551616 % 18446744073709551616 : Nat) : Int) = wr ((M / 18446744073709551616 % 18446744073709551616 : Nat) : Int) := by rw [IntKind.wrap_i64]; rfl
  have cc : ∀ x : Int, Cell64 (wr x) := fun x => by unfold Cell64 wr; omega
  have HN := Lib.hid (fun w => rNeg2_c (wr ((M % 18446744073709551616 : Nat) : Int)) (wr ((M / 18446744073709551616 % 18446744073709551616 : Nat) : Int)) (cc _) (cc _) w)
  cases hp : ng t
  · rw [hp] at SA tb ti
    have SA := Lib.hid SA
    by_cases hn : (127 : Int) < (bl M : Int)
    · have B : toBad t = true := by rw [tb, decide_eq_true (hbl.1 (by omega))]; rfl
      rw [if_pos B, if_pos B, if_pos B]
      exact rTo_big a _ HT _ _ SA he _ HS _ HB HOf _ HS2 hn w
    · have hlt : ¬ 170141183460469231731687303715884105728 ≤ M := fun h => by have := hbl.2 h; omega
      have B : ¬ toBad t = true := by rw [tb, decide_eq_false hlt]; exact Bool.false_ne_true
      rw [if_neg B, if_neg B, if_neg B, ti, if_neg Bool.false_ne_true]
      have e1 : wr (M : Int) = wr ((M % 18446744073709551616 : Nat) : Int) := by unfold wr; omega
      have e2 : (M : Int) / 18446744073709551616 = wr ((M / 18446744073709551616 % 18446744073709551616 : Nat) : Int) := by unfold wr; omega
      rw [e1, e2]
      exact rTo_pos a _ HT _ _ SA he _ HS _ HB HOf _ HS2 hn _ _ _ _ HL _ HS3 HL2 wl wh w
  · rw [hp] at SA tb ti
    have SA := Lib.hid SA
    have hneg := to_neg (M := M)
    by_cases hn : (127 : Int) < (bl M : Int)
    · have hge := hbl.1 (by omega)
      obtain ⟨c, hc⟩ : ∃ c, cmpI (M : Int) ((170141183460469231731687303715884105728 : Nat) : Int) = c := ⟨_, rfl⟩
      rw [hc] at HC
      have HC := Lib.hid HC
      have hc0 : c = 0 ↔ M = 170141183460469231731687303715884105728 := by rw [← hc]; unfold cmpI; split <;> (try split) <;> omega
      by_cases eq : M = 170141183460469231731687303715884105728
      · have B : ¬ toBad t = true := by rw [tb, decide_eq_true eq]; simp
        rw [if_neg B, if_neg B, if_neg B, ti, if_pos rfl, (hneg (by omega)).1, (hneg (by omega)).2]
        exact rTo_min a _ HT _ _ SA he _ HS _ HB HOf _ HS2 hn _ HC (hc0.2 eq) _ _ _ _ HL _ HS3 HL2 wl wh _ _ HN w
      · have B : toBad t = true := by rw [tb, decide_eq_true hge, decide_eq_false eq]; rfl
        rw [if_pos B, if_pos B, if_pos B]
        exact rTo_bign a _ HT _ _ SA he _ HS _ HB HOf _ HS2 hn _ HC (beq_no (fun h => eq (hc0.1 h))) w
    · have hlt : ¬ 170141183460469231731687303715884105728 ≤ M := fun h => by have := hbl.2 h; omega
      have B : ¬ toBad t = true := by rw [tb, decide_eq_false hlt]; exact Bool.false_ne_true
      rw [if_neg B, if_neg B, if_neg B, ti, if_pos rfl, (hneg (by omega)).1, (hneg (by omega)).2]
      exact rTo_neg a _ HT _ _ SA he _ HS _ HB HOf _ HS2 hn _ _ _ _ HL _ HS3 HL2 wl wh _ _ HN w
end Go.Proofs.Ytecgkhijiogggaa
