/- Texts R, for this seat. -/
import Derived.Test.YtkifdppppihjcaaL
import Derived.BigQuiet
import Derived.Deep.QuietTactic
namespace Go.Proofs.Ytkifdppppihjcaa
set_option linter.unusedVariables false
set_option linter.unusedSimpArgs false
open Go.RowKit Go.Shelf SF
set_option maxRecDepth 100000 in
set_option maxHeartbeats 2000000 in
theorem to_zp0 (a t : Nat) (N1 : Hid (PB 33 a false)) (I1 : Hid (PB 35 a false)) (HT : Hid (∀ w, Calls Try.prog 56 #[.int .u64 a] w fun e w' => e = .returned (.int .u64 t) ∧ Below w.heap.size w w')) (m : Int) (HSA : Hid (PSplit t false m (0))) (bm : 4503599627370496 ≤ m ∧ m < 9007199254740992) (g1 : decide (0 < m) = true) (b : Int) (bb : 0 ≤ b ∧ b ≤ 64) (HL : Hid (∀ w, Calls Try.prog 62 #[.int .u64 (m)] w fun e w' => e = .returned (.int .i64 b) ∧ w = w')) (g2 : decide (127 < b) = false) (r0 r1 : Int) (Q0 : IntKind.i64.wrap (m) = r0) (Q1 : IntKind.i64.wrap (0) = r1) (w : World) : Calls Try.prog 51 #[.int .u64 a] w fun e w' => e = .returned (.tuple #[.int .i64 (r0), .int .i64 (r1), .int .i64 (0)]) ∧ Below w.heap.size w w' := by
  go_enter Try.func51, Try.ntmps51
  go_wp2_with (first
    | (go_at_call 33; (with_reducible refine (N1.out _).mono ?_); rintro e1 w1 ⟨rfl, rfl⟩)
    | (go_at_call 35; (with_reducible refine (I1.out _).mono ?_); rintro e1 w1 ⟨rfl, rfl⟩)
    | (go_at_call 56; (with_reducible refine (HT.out _).mono ?_); rintro e1 w1 ⟨rfl, hb1⟩)
    | (go_at_call 39; (with_reducible refine (HSA.out _).mono ?_); rintro e2 w2 ⟨rfl, hb2⟩))
  go_quiet ((go_at_call 62; exact quiet_left (HL.out _)))
  go_wp2
  go_quiet (fail)
  go_wp2
  go_ret3
  exact ⟨rfl, by repeat (first | exact (bt hb1 hb2).alloc (bt hb1 hb2).size _ | refine below_drewN ?_ _)⟩
set_option maxRecDepth 100000 in
set_option maxHeartbeats 2000000 in
theorem to_np0 (a t : Nat) (N1 : Hid (PB 33 a false)) (I1 : Hid (PB 35 a false)) (HT : Hid (∀ w, Calls Try.prog 56 #[.int .u64 a] w fun e w' => e = .returned (.int .u64 t) ∧ Below w.heap.size w w')) (m e : Int) (HSA : Hid (PSplit t false m (e))) (he : -1074 ≤ e ∧ e < 0) (k : Nat) (hk : min (-e) 63 = (k : Int)) (bm : 0 ≤ m ∧ m < 9007199254740992) (x : Int) (hv : m / 2 ^ k = x) (bx : 0 ≤ x ∧ x < 9007199254740992) (g1 : decide (0 < x) = false) (r0 r1 : Int) (Q0 : IntKind.i64.wrap (x) = r0) (Q1 : IntKind.i64.wrap (0) = r1) (w : World) : Calls Try.prog 51 #[.int .u64 a] w fun e w' => e = .returned (.tuple #[.int .i64 (r0), .int .i64 (r1), .int .i64 (0)]) ∧ Below w.heap.size w w' := by
  go_enter Try.func51, Try.ntmps51
  go_wp2_with (first
    | (go_at_call 33; (with_reducible refine (N1.out _).mono ?_); rintro e1 w1 ⟨rfl, rfl⟩)
    | (go_at_call 35; (with_reducible refine (I1.out _).mono ?_); rintro e1 w1 ⟨rfl, rfl⟩)
    | (go_at_call 56; (with_reducible refine (HT.out _).mono ?_); rintro e1 w1 ⟨rfl, hb1⟩)
    | (go_at_call 39; (with_reducible refine (HSA.out _).mono ?_); rintro e2 w2 ⟨rfl, hb2⟩))
  go_quiet (fail)
  go_wp2
  go_quiet (fail)
  go_wp2
  go_ret3
  exact ⟨rfl, by repeat (first | exact (bt hb1 hb2).alloc (bt hb1 hb2).size _ | refine below_drewN ?_ _)⟩
set_option maxRecDepth 100000 in
set_option maxHeartbeats 2000000 in
theorem to_lp0 (a t : Nat) (N1 : Hid (PB 33 a false)) (I1 : Hid (PB 35 a false)) (HT : Hid (∀ w, Calls Try.prog 56 #[.int .u64 a] w fun e w' => e = .returned (.int .u64 t) ∧ Below w.heap.size w w')) (m e : Int) (HSA : Hid (PSplit t false m (e))) (he : -1074 ≤ e ∧ e < 0) (k : Nat) (hk : min (-e) 63 = (k : Int)) (bm : 0 ≤ m ∧ m < 9007199254740992) (x : Int) (hv : m / 2 ^ k = x) (bx : 0 ≤ x ∧ x < 9007199254740992) (g1 : decide (0 < x) = true) (b : Int) (bb : 0 ≤ b ∧ b ≤ 64) (HL : Hid (∀ w, Calls Try.prog 62 #[.int .u64 (x)] w fun e w' => e = .returned (.int .i64 b) ∧ w = w')) (g2 : decide (127 < b) = false) (r0 r1 : Int) (Q0 : IntKind.i64.wrap (x) = r0) (Q1 : IntKind.i64.wrap (0) = r1) (w : World) : Calls Try.prog 51 #[.int .u64 a] w fun e w' => e = .returned (.tuple #[.int .i64 (r0), .int .i64 (r1), .int .i64 (0)]) ∧ Below w.heap.size w w' := by
  go_enter Try.func51, Try.ntmps51
  go_wp2_with (first
    | (go_at_call 33; (with_reducible refine (N1.out _).mono ?_); rintro e1 w1 ⟨rfl, rfl⟩)
    | (go_at_call 35; (with_reducible refine (I1.out _).mono ?_); rintro e1 w1 ⟨rfl, rfl⟩)
    | (go_at_call 56; (with_reducible refine (HT.out _).mono ?_); rintro e1 w1 ⟨rfl, hb1⟩)
    | (go_at_call 39; (with_reducible refine (HSA.out _).mono ?_); rintro e2 w2 ⟨rfl, hb2⟩))
  go_quiet ((go_at_call 62; exact quiet_left (HL.out _)))
  go_wp2
  go_quiet (fail)
  go_wp2
  go_ret3
  exact ⟨rfl, by repeat (first | exact (bt hb1 hb2).alloc (bt hb1 hb2).size _ | refine below_drewN ?_ _)⟩
set_option maxRecDepth 100000 in
set_option maxHeartbeats 2000000 in
theorem to_mp0 (a t : Nat) (N1 : Hid (PB 33 a false)) (I1 : Hid (PB 35 a false)) (HT : Hid (∀ w, Calls Try.prog 56 #[.int .u64 a] w fun e w' => e = .returned (.int .u64 t) ∧ Below w.heap.size w w')) (m : Int) (n1 n2 : Nat) (HSA : Hid (PSplit t false m ((n2 : Int)))) (bm : 4503599627370496 ≤ m ∧ m < 9007199254740992) (g1 : decide (0 < m) = true) (be : 0 < n2 ∧ n2 < 64) (hn : (64 : Int) - n2 = (n1 : Int)) (h l : Int) (HH : m / 2 ^ n1 = h) (LL : IntKind.u64.wrap (m * 2 ^ n2) = l) (b : Int) (bb : 0 ≤ b ∧ b ≤ 64) (HL : Hid (∀ w, Calls Try.prog 62 #[.int .u64 (m)] w fun e w' => e = .returned (.int .i64 b) ∧ w = w')) (g2 : decide (127 < b + (n2 : Int)) = false) (r0 r1 : Int) (Q0 : IntKind.i64.wrap (l) = r0) (Q1 : IntKind.i64.wrap (h) = r1) (w : World) : Calls Try.prog 51 #[.int .u64 a] w fun e w' => e = .returned (.tuple #[.int .i64 (r0), .int .i64 (r1), .int .i64 (0)]) ∧ Below w.heap.size w w' := by
  go_enter Try.func51, Try.ntmps51
  go_wp2_with (first
    | (go_at_call 33; (with_reducible refine (N1.out _).mono ?_); rintro e1 w1 ⟨rfl, rfl⟩)
    | (go_at_call 35; (with_reducible refine (I1.out _).mono ?_); rintro e1 w1 ⟨rfl, rfl⟩)
    | (go_at_call 56; (with_reducible refine (HT.out _).mono ?_); rintro e1 w1 ⟨rfl, hb1⟩)
    | (go_at_call 39; (with_reducible refine (HSA.out _).mono ?_); rintro e2 w2 ⟨rfl, hb2⟩))
  go_quiet ((go_at_call 62; exact quiet_left (HL.out _)))
  go_wp2
  go_quiet (fail)
  go_wp2
  go_quiet (fail)
  go_wp2
  go_ret3
  exact ⟨rfl, by repeat (first | exact (bt hb1 hb2).alloc (bt hb1 hb2).size _ | refine below_drewN ?_ _)⟩
set_option maxRecDepth 100000 in
set_option maxHeartbeats 2000000 in
theorem to_hp0 (a t : Nat) (N1 : Hid (PB 33 a false)) (I1 : Hid (PB 35 a false)) (HT : Hid (∀ w, Calls Try.prog 56 #[.int .u64 a] w fun e w' => e = .returned (.int .u64 t) ∧ Below w.heap.size w w')) (m e : Int) (HSA : Hid (PSplit t false m (e))) (bm : 4503599627370496 ≤ m ∧ m < 9007199254740992) (g1 : decide (0 < m) = true) (be : 64 ≤ e ∧ e ≤ 75) (n1 : Nat) (hn : e - 64 = (n1 : Int)) (h : Int) (HH : IntKind.u64.wrap (m * 2 ^ n1) = h) (b : Int) (bb : 0 ≤ b ∧ b ≤ 64) (HL : Hid (∀ w, Calls Try.prog 62 #[.int .u64 (m)] w fun e w' => e = .returned (.int .i64 b) ∧ w = w')) (g2 : decide (127 < b + e) = false) (r0 r1 : Int) (Q0 : IntKind.i64.wrap (0) = r0) (Q1 : IntKind.i64.wrap (h) = r1) (w : World) : Calls Try.prog 51 #[.int .u64 a] w fun e w' => e = .returned (.tuple #[.int .i64 (r0), .int .i64 (r1), .int .i64 (0)]) ∧ Below w.heap.size w w' := by
  go_enter Try.func51, Try.ntmps51
  go_wp2_with (first
    | (go_at_call 33; (with_reducible refine (N1.out _).mono ?_); rintro e1 w1 ⟨rfl, rfl⟩)
    | (go_at_call 35; (with_reducible refine (I1.out _).mono ?_); rintro e1 w1 ⟨rfl, rfl⟩)
    | (go_at_call 56; (with_reducible refine (HT.out _).mono ?_); rintro e1 w1 ⟨rfl, hb1⟩)
    | (go_at_call 39; (with_reducible refine (HSA.out _).mono ?_); rintro e2 w2 ⟨rfl, hb2⟩))
  go_quiet ((go_at_call 62; exact quiet_left (HL.out _)))
  go_wp2
  go_quiet (fail)
  go_wp2
  go_ret3
  exact ⟨rfl, by repeat (first | exact (bt hb1 hb2).alloc (bt hb1 hb2).size _ | refine below_drewN ?_ _)⟩
set_option maxRecDepth 100000 in
set_option maxHeartbeats 2000000 in
theorem to_fp0 (a t : Nat) (N1 : Hid (PB 33 a false)) (I1 : Hid (PB 35 a false)) (HT : Hid (∀ w, Calls Try.prog 56 #[.int .u64 a] w fun e w' => e = .returned (.int .u64 t) ∧ Below w.heap.size w w')) (m e : Int) (HSA : Hid (PSplit t false m (e))) (bm : 4503599627370496 ≤ m ∧ m < 9007199254740992) (g1 : decide (0 < m) = true) (be : 0 ≤ e ∧ e ≤ 972) (b : Int) (bb : 0 ≤ b ∧ b ≤ 64) (HL : Hid (∀ w, Calls Try.prog 62 #[.int .u64 (m)] w fun e w' => e = .returned (.int .i64 b) ∧ w = w')) (g2 : decide (127 < b + e) = true) (w : World) : Calls Try.prog 51 #[.int .u64 a] w fun e w' => e = .returned (.tuple #[.int .i64 (0), .int .i64 (0), .int .i64 (-43)]) ∧ Below w.heap.size w w' := by
  go_enter Try.func51, Try.ntmps51
  go_wp2_with (first
    | (go_at_call 33; (with_reducible refine (N1.out _).mono ?_); rintro e1 w1 ⟨rfl, rfl⟩)
    | (go_at_call 35; (with_reducible refine (I1.out _).mono ?_); rintro e1 w1 ⟨rfl, rfl⟩)
    | (go_at_call 56; (with_reducible refine (HT.out _).mono ?_); rintro e1 w1 ⟨rfl, hb1⟩)
    | (go_at_call 39; (with_reducible refine (HSA.out _).mono ?_); rintro e2 w2 ⟨rfl, hb2⟩))
  go_quiet ((go_at_call 62; exact quiet_left (HL.out _)))
  go_wp2
  go_ret3
  exact ⟨rfl, by repeat (first | exact (bt hb1 hb2).alloc (bt hb1 hb2).size _ | refine below_drewN ?_ _)⟩
set_option maxRecDepth 100000 in
set_option maxHeartbeats 2000000 in
theorem to_zp1 (a t : Nat) (N1 : Hid (PB 33 a false)) (I1 : Hid (PB 35 a false)) (HT : Hid (∀ w, Calls Try.prog 56 #[.int .u64 a] w fun e w' => e = .returned (.int .u64 t) ∧ Below w.heap.size w w')) (m : Int) (HSA : Hid (PSplit t true m (0))) (bm : 4503599627370496 ≤ m ∧ m < 9007199254740992) (g1 : decide (0 < m) = true) (hm : (m == 4503599627370496) = false) (b : Int) (bb : 0 ≤ b ∧ b ≤ 64) (HL : Hid (∀ w, Calls Try.prog 62 #[.int .u64 (m)] w fun e w' => e = .returned (.int .i64 b) ∧ w = w')) (g2 : decide (127 < b) = false) (l2 b1 h2 b2 : Int) (C1 : ∀ w, (callFunc 44 #[.int .u64 0, .int .u64 (m), .int .u64 0]).run Try.prog w = .ok (.value (.tuple #[.int .u64 l2, .int .u64 b1])) w) (C2 : ∀ w, (callFunc 44 #[.int .u64 0, .int .u64 (0), .int .u64 b1]).run Try.prog w = .ok (.value (.tuple #[.int .u64 h2, .int .u64 b2])) w) (r0 r1 : Int) (Q0 : IntKind.i64.wrap (l2) = r0) (Q1 : IntKind.i64.wrap (h2) = r1) (w : World) : Calls Try.prog 51 #[.int .u64 a] w fun e w' => e = .returned (.tuple #[.int .i64 (r0), .int .i64 (r1), .int .i64 (0)]) ∧ Below w.heap.size w w' := by
  go_enter Try.func51, Try.ntmps51
  go_wp2_with (first
    | (go_at_call 33; (with_reducible refine (N1.out _).mono ?_); rintro e1 w1 ⟨rfl, rfl⟩)
    | (go_at_call 35; (with_reducible refine (I1.out _).mono ?_); rintro e1 w1 ⟨rfl, rfl⟩)
    | (go_at_call 56; (with_reducible refine (HT.out _).mono ?_); rintro e1 w1 ⟨rfl, hb1⟩)
    | (go_at_call 39; (with_reducible refine (HSA.out _).mono ?_); rintro e2 w2 ⟨rfl, hb2⟩))
  go_quiet ((go_at_call 62; exact quiet_left (HL.out _)))
  go_wp2
  go_quiet (fail)
  go_wp2
  go_ret3
  exact ⟨rfl, by repeat (first | exact (bt hb1 hb2).alloc (bt hb1 hb2).size _ | refine below_drewN ?_ _)⟩
set_option maxRecDepth 100000 in
set_option maxHeartbeats 2000000 in
theorem to_np1 (a t : Nat) (N1 : Hid (PB 33 a false)) (I1 : Hid (PB 35 a false)) (HT : Hid (∀ w, Calls Try.prog 56 #[.int .u64 a] w fun e w' => e = .returned (.int .u64 t) ∧ Below w.heap.size w w')) (m e : Int) (HSA : Hid (PSplit t true m (e))) (he : -1074 ≤ e ∧ e < 0) (k : Nat) (hk : min (-e) 63 = (k : Int)) (bm : 0 ≤ m ∧ m < 9007199254740992) (x : Int) (hv : m / 2 ^ k = x) (bx : 0 ≤ x ∧ x < 9007199254740992) (g1 : decide (0 < x) = false) (hm : (x == 4503599627370496) = false) (l2 b1 h2 b2 : Int) (C1 : ∀ w, (callFunc 44 #[.int .u64 0, .int .u64 (x), .int .u64 0]).run Try.prog w = .ok (.value (.tuple #[.int .u64 l2, .int .u64 b1])) w) (C2 : ∀ w, (callFunc 44 #[.int .u64 0, .int .u64 (0), .int .u64 b1]).run Try.prog w = .ok (.value (.tuple #[.int .u64 h2, .int .u64 b2])) w) (r0 r1 : Int) (Q0 : IntKind.i64.wrap (l2) = r0) (Q1 : IntKind.i64.wrap (h2) = r1) (w : World) : Calls Try.prog 51 #[.int .u64 a] w fun e w' => e = .returned (.tuple #[.int .i64 (r0), .int .i64 (r1), .int .i64 (0)]) ∧ Below w.heap.size w w' := by
  go_enter Try.func51, Try.ntmps51
  go_wp2_with (first
    | (go_at_call 33; (with_reducible refine (N1.out _).mono ?_); rintro e1 w1 ⟨rfl, rfl⟩)
    | (go_at_call 35; (with_reducible refine (I1.out _).mono ?_); rintro e1 w1 ⟨rfl, rfl⟩)
    | (go_at_call 56; (with_reducible refine (HT.out _).mono ?_); rintro e1 w1 ⟨rfl, hb1⟩)
    | (go_at_call 39; (with_reducible refine (HSA.out _).mono ?_); rintro e2 w2 ⟨rfl, hb2⟩))
  go_quiet (fail)
  go_wp2
  go_quiet (fail)
  go_wp2
  go_ret3
  exact ⟨rfl, by repeat (first | exact (bt hb1 hb2).alloc (bt hb1 hb2).size _ | refine below_drewN ?_ _)⟩
set_option maxRecDepth 100000 in
set_option maxHeartbeats 2000000 in
theorem to_lp1 (a t : Nat) (N1 : Hid (PB 33 a false)) (I1 : Hid (PB 35 a false)) (HT : Hid (∀ w, Calls Try.prog 56 #[.int .u64 a] w fun e w' => e = .returned (.int .u64 t) ∧ Below w.heap.size w w')) (m e : Int) (HSA : Hid (PSplit t true m (e))) (he : -1074 ≤ e ∧ e < 0) (k : Nat) (hk : min (-e) 63 = (k : Int)) (bm : 0 ≤ m ∧ m < 9007199254740992) (x : Int) (hv : m / 2 ^ k = x) (bx : 0 ≤ x ∧ x < 9007199254740992) (g1 : decide (0 < x) = true) (hm : (x == 4503599627370496) = false) (b : Int) (bb : 0 ≤ b ∧ b ≤ 64) (HL : Hid (∀ w, Calls Try.prog 62 #[.int .u64 (x)] w fun e w' => e = .returned (.int .i64 b) ∧ w = w')) (g2 : decide (127 < b) = false) (l2 b1 h2 b2 : Int) (C1 : ∀ w, (callFunc 44 #[.int .u64 0, .int .u64 (x), .int .u64 0]).run Try.prog w = .ok (.value (.tuple #[.int .u64 l2, .int .u64 b1])) w) (C2 : ∀ w, (callFunc 44 #[.int .u64 0, .int .u64 (0), .int .u64 b1]).run Try.prog w = .ok (.value (.tuple #[.int .u64 h2, .int .u64 b2])) w) (r0 r1 : Int) (Q0 : IntKind.i64.wrap (l2) = r0) (Q1 : IntKind.i64.wrap (h2) = r1) (w : World) : Calls Try.prog 51 #[.int .u64 a] w fun e w' => e = .returned (.tuple #[.int .i64 (r0), .int .i64 (r1), .int .i64 (0)]) ∧ Below w.heap.size w w' := by
  go_enter Try.func51, Try.ntmps51
  go_wp2_with (first
    | (go_at_call 33; (with_reducible refine (N1.out _).mono ?_); rintro e1 w1 ⟨rfl, rfl⟩)
    | (go_at_call 35; (with_reducible refine (I1.out _).mono ?_); rintro e1 w1 ⟨rfl, rfl⟩)
    | (go_at_call 56; (with_reducible refine (HT.out _).mono ?_); rintro e1 w1 ⟨rfl, hb1⟩)
    | (go_at_call 39; (with_reducible refine (HSA.out _).mono ?_); rintro e2 w2 ⟨rfl, hb2⟩))
  go_quiet ((go_at_call 62; exact quiet_left (HL.out _)))
  go_wp2
  go_quiet (fail)
  go_wp2
  go_ret3
  exact ⟨rfl, by repeat (first | exact (bt hb1 hb2).alloc (bt hb1 hb2).size _ | refine below_drewN ?_ _)⟩
set_option maxRecDepth 100000 in
set_option maxHeartbeats 2000000 in
theorem to_mp1 (a t : Nat) (N1 : Hid (PB 33 a false)) (I1 : Hid (PB 35 a false)) (HT : Hid (∀ w, Calls Try.prog 56 #[.int .u64 a] w fun e w' => e = .returned (.int .u64 t) ∧ Below w.heap.size w w')) (m : Int) (n1 n2 : Nat) (HSA : Hid (PSplit t true m ((n2 : Int)))) (bm : 4503599627370496 ≤ m ∧ m < 9007199254740992) (g1 : decide (0 < m) = true) (hm : (m == 4503599627370496) = false) (be : 0 < n2 ∧ n2 < 64) (hn : (64 : Int) - n2 = (n1 : Int)) (h l : Int) (HH : m / 2 ^ n1 = h) (LL : IntKind.u64.wrap (m * 2 ^ n2) = l) (b : Int) (bb : 0 ≤ b ∧ b ≤ 64) (HL : Hid (∀ w, Calls Try.prog 62 #[.int .u64 (m)] w fun e w' => e = .returned (.int .i64 b) ∧ w = w')) (g2 : decide (127 < b + (n2 : Int)) = false) (l2 b1 h2 b2 : Int) (C1 : ∀ w, (callFunc 44 #[.int .u64 0, .int .u64 (l), .int .u64 0]).run Try.prog w = .ok (.value (.tuple #[.int .u64 l2, .int .u64 b1])) w) (C2 : ∀ w, (callFunc 44 #[.int .u64 0, .int .u64 (h), .int .u64 b1]).run Try.prog w = .ok (.value (.tuple #[.int .u64 h2, .int .u64 b2])) w) (r0 r1 : Int) (Q0 : IntKind.i64.wrap (l2) = r0) (Q1 : IntKind.i64.wrap (h2) = r1) (w : World) : Calls Try.prog 51 #[.int .u64 a] w fun e w' => e = .returned (.tuple #[.int .i64 (r0), .int .i64 (r1), .int .i64 (0)]) ∧ Below w.heap.size w w' := by
  go_enter Try.func51, Try.ntmps51
  go_wp2_with (first
    | (go_at_call 33; (with_reducible refine (N1.out _).mono ?_); rintro e1 w1 ⟨rfl, rfl⟩)
    | (go_at_call 35; (with_reducible refine (I1.out _).mono ?_); rintro e1 w1 ⟨rfl, rfl⟩)
    | (go_at_call 56; (with_reducible refine (HT.out _).mono ?_); rintro e1 w1 ⟨rfl, hb1⟩)
    | (go_at_call 39; (with_reducible refine (HSA.out _).mono ?_); rintro e2 w2 ⟨rfl, hb2⟩))
  go_quiet ((go_at_call 62; exact quiet_left (HL.out _)))
  go_wp2
  go_quiet (fail)
  go_wp2
  go_quiet (fail)
  go_wp2
  go_ret3
  exact ⟨rfl, by repeat (first | exact (bt hb1 hb2).alloc (bt hb1 hb2).size _ | refine below_drewN ?_ _)⟩
set_option maxRecDepth 100000 in
set_option maxHeartbeats 2000000 in
theorem to_hp1 (a t : Nat) (N1 : Hid (PB 33 a false)) (I1 : Hid (PB 35 a false)) (HT : Hid (∀ w, Calls Try.prog 56 #[.int .u64 a] w fun e w' => e = .returned (.int .u64 t) ∧ Below w.heap.size w w')) (m e : Int) (HSA : Hid (PSplit t true m (e))) (bm : 4503599627370496 ≤ m ∧ m < 9007199254740992) (g1 : decide (0 < m) = true) (hm : (m == 4503599627370496) = false) (be : 64 ≤ e ∧ e ≤ 75) (n1 : Nat) (hn : e - 64 = (n1 : Int)) (h : Int) (HH : IntKind.u64.wrap (m * 2 ^ n1) = h) (b : Int) (bb : 0 ≤ b ∧ b ≤ 64) (HL : Hid (∀ w, Calls Try.prog 62 #[.int .u64 (m)] w fun e w' => e = .returned (.int .i64 b) ∧ w = w')) (g2 : decide (127 < b + e) = false) (l2 b1 h2 b2 : Int) (C1 : ∀ w, (callFunc 44 #[.int .u64 0, .int .u64 (0), .int .u64 0]).run Try.prog w = .ok (.value (.tuple #[.int .u64 l2, .int .u64 b1])) w) (C2 : ∀ w, (callFunc 44 #[.int .u64 0, .int .u64 (h), .int .u64 b1]).run Try.prog w = .ok (.value (.tuple #[.int .u64 h2, .int .u64 b2])) w) (r0 r1 : Int) (Q0 : IntKind.i64.wrap (l2) = r0) (Q1 : IntKind.i64.wrap (h2) = r1) (w : World) : Calls Try.prog 51 #[.int .u64 a] w fun e w' => e = .returned (.tuple #[.int .i64 (r0), .int .i64 (r1), .int .i64 (0)]) ∧ Below w.heap.size w w' := by
  go_enter Try.func51, Try.ntmps51
  go_wp2_with (first
    | (go_at_call 33; (with_reducible refine (N1.out _).mono ?_); rintro e1 w1 ⟨rfl, rfl⟩)
    | (go_at_call 35; (with_reducible refine (I1.out _).mono ?_); rintro e1 w1 ⟨rfl, rfl⟩)
    | (go_at_call 56; (with_reducible refine (HT.out _).mono ?_); rintro e1 w1 ⟨rfl, hb1⟩)
    | (go_at_call 39; (with_reducible refine (HSA.out _).mono ?_); rintro e2 w2 ⟨rfl, hb2⟩))
  go_quiet ((go_at_call 62; exact quiet_left (HL.out _)))
  go_wp2
  go_quiet (fail)
  go_wp2
  go_ret3
  exact ⟨rfl, by repeat (first | exact (bt hb1 hb2).alloc (bt hb1 hb2).size _ | refine below_drewN ?_ _)⟩
set_option maxRecDepth 100000 in
set_option maxHeartbeats 2000000 in
theorem to_fp1 (a t : Nat) (N1 : Hid (PB 33 a false)) (I1 : Hid (PB 35 a false)) (HT : Hid (∀ w, Calls Try.prog 56 #[.int .u64 a] w fun e w' => e = .returned (.int .u64 t) ∧ Below w.heap.size w w')) (m e : Int) (HSA : Hid (PSplit t true m (e))) (bm : 4503599627370496 ≤ m ∧ m < 9007199254740992) (g1 : decide (0 < m) = true) (hm : (m == 4503599627370496) = false) (be : 0 ≤ e ∧ e ≤ 972) (b : Int) (bb : 0 ≤ b ∧ b ≤ 64) (HL : Hid (∀ w, Calls Try.prog 62 #[.int .u64 (m)] w fun e w' => e = .returned (.int .i64 b) ∧ w = w')) (g2 : decide (127 < b + e) = true) (w : World) : Calls Try.prog 51 #[.int .u64 a] w fun e w' => e = .returned (.tuple #[.int .i64 (0), .int .i64 (0), .int .i64 (-43)]) ∧ Below w.heap.size w w' := by
  go_enter Try.func51, Try.ntmps51
  go_wp2_with (first
    | (go_at_call 33; (with_reducible refine (N1.out _).mono ?_); rintro e1 w1 ⟨rfl, rfl⟩)
    | (go_at_call 35; (with_reducible refine (I1.out _).mono ?_); rintro e1 w1 ⟨rfl, rfl⟩)
    | (go_at_call 56; (with_reducible refine (HT.out _).mono ?_); rintro e1 w1 ⟨rfl, hb1⟩)
    | (go_at_call 39; (with_reducible refine (HSA.out _).mono ?_); rintro e2 w2 ⟨rfl, hb2⟩))
  go_quiet ((go_at_call 62; exact quiet_left (HL.out _)))
  go_wp2
  go_ret3
  exact ⟨rfl, by repeat (first | exact (bt hb1 hb2).alloc (bt hb1 hb2).size _ | refine below_drewN ?_ _)⟩
set_option maxRecDepth 100000 in
set_option maxHeartbeats 2000000 in
theorem to_zp2 (a t : Nat) (N1 : Hid (PB 33 a false)) (I1 : Hid (PB 35 a false)) (HT : Hid (∀ w, Calls Try.prog 56 #[.int .u64 a] w fun e w' => e = .returned (.int .u64 t) ∧ Below w.heap.size w w')) (m : Int) (HSA : Hid (PSplit t true m (0))) (bm : 4503599627370496 ≤ m ∧ m < 9007199254740992) (g1 : decide (0 < m) = true) (hm : (m == 4503599627370496) = true) (b : Int) (bb : 0 ≤ b ∧ b ≤ 64) (HL : Hid (∀ w, Calls Try.prog 62 #[.int .u64 (m)] w fun e w' => e = .returned (.int .i64 b) ∧ w = w')) (g2 : decide (127 < b) = false) (l2 b1 h2 b2 : Int) (C1 : ∀ w, (callFunc 44 #[.int .u64 0, .int .u64 (m), .int .u64 0]).run Try.prog w = .ok (.value (.tuple #[.int .u64 l2, .int .u64 b1])) w) (C2 : ∀ w, (callFunc 44 #[.int .u64 0, .int .u64 (0), .int .u64 b1]).run Try.prog w = .ok (.value (.tuple #[.int .u64 h2, .int .u64 b2])) w) (r0 r1 : Int) (Q0 : IntKind.i64.wrap (l2) = r0) (Q1 : IntKind.i64.wrap (h2) = r1) (w : World) : Calls Try.prog 51 #[.int .u64 a] w fun e w' => e = .returned (.tuple #[.int .i64 (r0), .int .i64 (r1), .int .i64 (0)]) ∧ Below w.heap.size w w' := by
  go_enter Try.func51, Try.ntmps51
  go_wp2_with (first
    | (go_at_call 33; (with_reducible refine (N1.out _).mono ?_); rintro e1 w1 ⟨rfl, rfl⟩)
    | (go_at_call 35; (with_reducible refine (I1.out _).mono ?_); rintro e1 w1 ⟨rfl, rfl⟩)
    | (go_at_call 56; (with_reducible refine (HT.out _).mono ?_); rintro e1 w1 ⟨rfl, hb1⟩)
    | (go_at_call 39; (with_reducible refine (HSA.out _).mono ?_); rintro e2 w2 ⟨rfl, hb2⟩))
  go_quiet ((go_at_call 62; exact quiet_left (HL.out _)))
  go_wp2
  go_quiet (fail)
  go_wp2
  go_ret3
  exact ⟨rfl, by repeat (first | exact (bt hb1 hb2).alloc (bt hb1 hb2).size _ | refine below_drewN ?_ _)⟩
set_option maxRecDepth 100000 in
set_option maxHeartbeats 2000000 in
theorem to_lp2 (a t : Nat) (N1 : Hid (PB 33 a false)) (I1 : Hid (PB 35 a false)) (HT : Hid (∀ w, Calls Try.prog 56 #[.int .u64 a] w fun e w' => e = .returned (.int .u64 t) ∧ Below w.heap.size w w')) (m e : Int) (HSA : Hid (PSplit t true m (e))) (he : -1074 ≤ e ∧ e < 0) (k : Nat) (hk : min (-e) 63 = (k : Int)) (bm : 0 ≤ m ∧ m < 9007199254740992) (x : Int) (hv : m / 2 ^ k = x) (bx : 0 ≤ x ∧ x < 9007199254740992) (g1 : decide (0 < x) = true) (hm : (x == 4503599627370496) = true) (b : Int) (bb : 0 ≤ b ∧ b ≤ 64) (HL : Hid (∀ w, Calls Try.prog 62 #[.int .u64 (x)] w fun e w' => e = .returned (.int .i64 b) ∧ w = w')) (g2 : decide (127 < b) = false) (l2 b1 h2 b2 : Int) (C1 : ∀ w, (callFunc 44 #[.int .u64 0, .int .u64 (x), .int .u64 0]).run Try.prog w = .ok (.value (.tuple #[.int .u64 l2, .int .u64 b1])) w) (C2 : ∀ w, (callFunc 44 #[.int .u64 0, .int .u64 (0), .int .u64 b1]).run Try.prog w = .ok (.value (.tuple #[.int .u64 h2, .int .u64 b2])) w) (r0 r1 : Int) (Q0 : IntKind.i64.wrap (l2) = r0) (Q1 : IntKind.i64.wrap (h2) = r1) (w : World) : Calls Try.prog 51 #[.int .u64 a] w fun e w' => e = .returned (.tuple #[.int .i64 (r0), .int .i64 (r1), .int .i64 (0)]) ∧ Below w.heap.size w w' := by
  go_enter Try.func51, Try.ntmps51
  go_wp2_with (first
    | (go_at_call 33; (with_reducible refine (N1.out _).mono ?_); rintro e1 w1 ⟨rfl, rfl⟩)
    | (go_at_call 35; (with_reducible refine (I1.out _).mono ?_); rintro e1 w1 ⟨rfl, rfl⟩)
    | (go_at_call 56; (with_reducible refine (HT.out _).mono ?_); rintro e1 w1 ⟨rfl, hb1⟩)
    | (go_at_call 39; (with_reducible refine (HSA.out _).mono ?_); rintro e2 w2 ⟨rfl, hb2⟩))
  go_quiet ((go_at_call 62; exact quiet_left (HL.out _)))
  go_wp2
  go_quiet (fail)
  go_wp2
  go_ret3
  exact ⟨rfl, by repeat (first | exact (bt hb1 hb2).alloc (bt hb1 hb2).size _ | refine below_drewN ?_ _)⟩
set_option maxRecDepth 100000 in
set_option maxHeartbeats 2000000 in
theorem to_mp2 (a t : Nat) (N1 : Hid (PB 33 a false)) (I1 : Hid (PB 35 a false)) (HT : Hid (∀ w, Calls Try.prog 56 #[.int .u64 a] w fun e w' => e = .returned (.int .u64 t) ∧ Below w.heap.size w w')) (m : Int) (n1 n2 : Nat) (HSA : Hid (PSplit t true m ((n2 : Int)))) (bm : 4503599627370496 ≤ m ∧ m < 9007199254740992) (g1 : decide (0 < m) = true) (hm : (m == 4503599627370496) = true) (be : 0 < n2 ∧ n2 < 64) (hn : (64 : Int) - n2 = (n1 : Int)) (h l : Int) (HH : m / 2 ^ n1 = h) (LL : IntKind.u64.wrap (m * 2 ^ n2) = l) (he : ((n2 : Int) == 75) = false) (b : Int) (bb : 0 ≤ b ∧ b ≤ 64) (HL : Hid (∀ w, Calls Try.prog 62 #[.int .u64 (m)] w fun e w' => e = .returned (.int .i64 b) ∧ w = w')) (g2 : decide (127 < b + (n2 : Int)) = false) (l2 b1 h2 b2 : Int) (C1 : ∀ w, (callFunc 44 #[.int .u64 0, .int .u64 (l), .int .u64 0]).run Try.prog w = .ok (.value (.tuple #[.int .u64 l2, .int .u64 b1])) w) (C2 : ∀ w, (callFunc 44 #[.int .u64 0, .int .u64 (h), .int .u64 b1]).run Try.prog w = .ok (.value (.tuple #[.int .u64 h2, .int .u64 b2])) w) (r0 r1 : Int) (Q0 : IntKind.i64.wrap (l2) = r0) (Q1 : IntKind.i64.wrap (h2) = r1) (w : World) : Calls Try.prog 51 #[.int .u64 a] w fun e w' => e = .returned (.tuple #[.int .i64 (r0), .int .i64 (r1), .int .i64 (0)]) ∧ Below w.heap.size w w' := by
  go_enter Try.func51, Try.ntmps51
  go_wp2_with (first
    | (go_at_call 33; (with_reducible refine (N1.out _).mono ?_); rintro e1 w1 ⟨rfl, rfl⟩)
    | (go_at_call 35; (with_reducible refine (I1.out _).mono ?_); rintro e1 w1 ⟨rfl, rfl⟩)
    | (go_at_call 56; (with_reducible refine (HT.out _).mono ?_); rintro e1 w1 ⟨rfl, hb1⟩)
    | (go_at_call 39; (with_reducible refine (HSA.out _).mono ?_); rintro e2 w2 ⟨rfl, hb2⟩))
  go_quiet ((go_at_call 62; exact quiet_left (HL.out _)))
  go_wp2
  go_quiet (fail)
  go_wp2
  go_quiet (fail)
  go_wp2
  go_ret3
  exact ⟨rfl, by repeat (first | exact (bt hb1 hb2).alloc (bt hb1 hb2).size _ | refine below_drewN ?_ _)⟩
set_option maxRecDepth 100000 in
set_option maxHeartbeats 2000000 in
theorem to_hp2 (a t : Nat) (N1 : Hid (PB 33 a false)) (I1 : Hid (PB 35 a false)) (HT : Hid (∀ w, Calls Try.prog 56 #[.int .u64 a] w fun e w' => e = .returned (.int .u64 t) ∧ Below w.heap.size w w')) (m e : Int) (HSA : Hid (PSplit t true m (e))) (bm : 4503599627370496 ≤ m ∧ m < 9007199254740992) (g1 : decide (0 < m) = true) (hm : (m == 4503599627370496) = true) (be : 64 ≤ e ∧ e ≤ 75) (n1 : Nat) (hn : e - 64 = (n1 : Int)) (h : Int) (HH : IntKind.u64.wrap (m * 2 ^ n1) = h) (he : (e == 75) = false) (b : Int) (bb : 0 ≤ b ∧ b ≤ 64) (HL : Hid (∀ w, Calls Try.prog 62 #[.int .u64 (m)] w fun e w' => e = .returned (.int .i64 b) ∧ w = w')) (g2 : decide (127 < b + e) = false) (l2 b1 h2 b2 : Int) (C1 : ∀ w, (callFunc 44 #[.int .u64 0, .int .u64 (0), .int .u64 0]).run Try.prog w = .ok (.value (.tuple #[.int .u64 l2, .int .u64 b1])) w) (C2 : ∀ w, (callFunc 44 #[.int .u64 0, .int .u64 (h), .int .u64 b1]).run Try.prog w = .ok (.value (.tuple #[.int .u64 h2, .int .u64 b2])) w) (r0 r1 : Int) (Q0 : IntKind.i64.wrap (l2) = r0) (Q1 : IntKind.i64.wrap (h2) = r1) (w : World) : Calls Try.prog 51 #[.int .u64 a] w fun e w' => e = .returned (.tuple #[.int .i64 (r0), .int .i64 (r1), .int .i64 (0)]) ∧ Below w.heap.size w w' := by
  go_enter Try.func51, Try.ntmps51
  go_wp2_with (first
    | (go_at_call 33; (with_reducible refine (N1.out _).mono ?_); rintro e1 w1 ⟨rfl, rfl⟩)
    | (go_at_call 35; (with_reducible refine (I1.out _).mono ?_); rintro e1 w1 ⟨rfl, rfl⟩)
    | (go_at_call 56; (with_reducible refine (HT.out _).mono ?_); rintro e1 w1 ⟨rfl, hb1⟩)
    | (go_at_call 39; (with_reducible refine (HSA.out _).mono ?_); rintro e2 w2 ⟨rfl, hb2⟩))
  go_quiet ((go_at_call 62; exact quiet_left (HL.out _)))
  go_wp2
  go_quiet (fail)
  go_wp2
  go_ret3
  exact ⟨rfl, by repeat (first | exact (bt hb1 hb2).alloc (bt hb1 hb2).size _ | refine below_drewN ?_ _)⟩
set_option maxRecDepth 100000 in
set_option maxHeartbeats 2000000 in
theorem to_fp2 (a t : Nat) (N1 : Hid (PB 33 a false)) (I1 : Hid (PB 35 a false)) (HT : Hid (∀ w, Calls Try.prog 56 #[.int .u64 a] w fun e w' => e = .returned (.int .u64 t) ∧ Below w.heap.size w w')) (m e : Int) (HSA : Hid (PSplit t true m (e))) (bm : 4503599627370496 ≤ m ∧ m < 9007199254740992) (g1 : decide (0 < m) = true) (hm : (m == 4503599627370496) = true) (be : 0 ≤ e ∧ e ≤ 972) (he : (e == 75) = false) (b : Int) (bb : 0 ≤ b ∧ b ≤ 64) (HL : Hid (∀ w, Calls Try.prog 62 #[.int .u64 (m)] w fun e w' => e = .returned (.int .i64 b) ∧ w = w')) (g2 : decide (127 < b + e) = true) (w : World) : Calls Try.prog 51 #[.int .u64 a] w fun e w' => e = .returned (.tuple #[.int .i64 (0), .int .i64 (0), .int .i64 (-43)]) ∧ Below w.heap.size w w' := by
  go_enter Try.func51, Try.ntmps51
  go_wp2_with (first
    | (go_at_call 33; (with_reducible refine (N1.out _).mono ?_); rintro e1 w1 ⟨rfl, rfl⟩)
    | (go_at_call 35; (with_reducible refine (I1.out _).mono ?_); rintro e1 w1 ⟨rfl, rfl⟩)
    | (go_at_call 56; (with_reducible refine (HT.out _).mono ?_); rintro e1 w1 ⟨rfl, hb1⟩)
    | (go_at_call 39; (with_reducible refine (HSA.out _).mono ?_); rintro e2 w2 ⟨rfl, hb2⟩))
  go_quiet ((go_at_call 62; exact quiet_left (HL.out _)))
  go_wp2
  go_ret3
  exact ⟨rfl, by repeat (first | exact (bt hb1 hb2).alloc (bt hb1 hb2).size _ | refine below_drewN ?_ _)⟩
set_option maxRecDepth 100000 in
set_option maxHeartbeats 2000000 in
theorem to_edge (a t : Nat) (N1 : Hid (PB 33 a false)) (I1 : Hid (PB 35 a false)) (HT : Hid (∀ w, Calls Try.prog 56 #[.int .u64 a] w fun e w' => e = .returned (.int .u64 t) ∧ Below w.heap.size w w')) (m : Int) (HSA : Hid (PSplit t true m (75))) (bm : 4503599627370496 ≤ m ∧ m < 9007199254740992) (g1 : decide (0 < m) = true) (hm : (m == 4503599627370496) = true) (h : Int) (HH : IntKind.u64.wrap (m * 2048) = h) (b : Int) (bb : 0 ≤ b ∧ b ≤ 64) (HL : Hid (∀ w, Calls Try.prog 62 #[.int .u64 (m)] w fun e w' => e = .returned (.int .i64 b) ∧ w = w')) (g2 : decide (127 < b + 75) = true) (l2 b1 h2 b2 : Int) (C1 : ∀ w, (callFunc 44 #[.int .u64 0, .int .u64 (0), .int .u64 0]).run Try.prog w = .ok (.value (.tuple #[.int .u64 l2, .int .u64 b1])) w) (C2 : ∀ w, (callFunc 44 #[.int .u64 0, .int .u64 (h), .int .u64 b1]).run Try.prog w = .ok (.value (.tuple #[.int .u64 h2, .int .u64 b2])) w) (r0 r1 : Int) (Q0 : IntKind.i64.wrap (l2) = r0) (Q1 : IntKind.i64.wrap (h2) = r1) (w : World) : Calls Try.prog 51 #[.int .u64 a] w fun e w' => e = .returned (.tuple #[.int .i64 (r0), .int .i64 (r1), .int .i64 (0)]) ∧ Below w.heap.size w w' := by
  go_enter Try.func51, Try.ntmps51
  go_wp2_with (first
    | (go_at_call 33; (with_reducible refine (N1.out _).mono ?_); rintro e1 w1 ⟨rfl, rfl⟩)
    | (go_at_call 35; (with_reducible refine (I1.out _).mono ?_); rintro e1 w1 ⟨rfl, rfl⟩)
    | (go_at_call 56; (with_reducible refine (HT.out _).mono ?_); rintro e1 w1 ⟨rfl, hb1⟩)
    | (go_at_call 39; (with_reducible refine (HSA.out _).mono ?_); rintro e2 w2 ⟨rfl, hb2⟩))
  go_quiet ((go_at_call 62; exact quiet_left (HL.out _)))
  go_wp2
  go_quiet (fail)
  go_wp2
  go_ret3
  exact ⟨rfl, by repeat (first | exact (bt hb1 hb2).alloc (bt hb1 hb2).size _ | refine below_drewN ?_ _)⟩
end Go.Proofs.Ytkifdppppihjcaa

namespace Go.Proofs.Ytkifdppppihjcaa
set_option linter.unusedVariables false
set_option linter.unusedSimpArgs false
open Go.RowKit Go.Shelf SF
theorem to_n1 (a : Nat) (N1 : Hid (PB 33 a true)) (w : World) : Calls Try.prog 51 #[.int .u64 a] w fun e w' => e = .returned (.tuple #[.int .i64 0, .int .i64 0, .int .i64 (-43)]) ∧ Below w.heap.size w w' := by
  go_enter Try.func51, Try.ntmps51
  go_wp2_with (first
    | (go_at_call 33; (with_reducible refine (N1.out _).mono ?_); rintro e1 w1 ⟨rfl, rfl⟩))
  go_ret3
  exact ⟨rfl, Below.refl _ _⟩
theorem to_i1 (a : Nat) (N1 : Hid (PB 33 a false)) (I1 : Hid (PB 35 a true)) (w : World) : Calls Try.prog 51 #[.int .u64 a] w fun e w' => e = .returned (.tuple #[.int .i64 0, .int .i64 0, .int .i64 (-43)]) ∧ Below w.heap.size w w' := by
  go_enter Try.func51, Try.ntmps51
  go_wp2_with (first
    | (go_at_call 33; (with_reducible refine (N1.out _).mono ?_); rintro e1 w1 ⟨rfl, rfl⟩)
    | (go_at_call 35; (with_reducible refine (I1.out _).mono ?_); rintro e1 w1 ⟨rfl, rfl⟩))
  go_ret3
  exact ⟨rfl, Below.refl _ _⟩
theorem pair_pos {h l V : Nat} (hh : W h) (hl : W l) (e : two h l = V) (hV : V < 170141183460469231731687303715884105728) : IntKind.i64.wrap (l : Int) = wr (V : Int) ∧ IntKind.i64.wrap (h : Int) = (V : Int) / 18446744073709551616 := by
  unfold two at e; unfold W at hh hl; unfold wr
  rw [IntKind.wrap_i64, IntKind.wrap_i64]
  subst e
  constructor <;> omega
theorem pair_neg {h2 l2 V : Nat} (hh : W h2) (hl : W l2) (e : two h2 l2 + V = 340282366920938463463374607431768211456) (hV : V ≤ 170141183460469231731687303715884105728) : IntKind.i64.wrap (l2 : Int) = wr (-(V : Int)) ∧ IntKind.i64.wrap (h2 : Int) = (-(V : Int)) / 18446744073709551616 := by
  unfold two at e; unfold W at hh hl; unfold wr
  rw [IntKind.wrap_i64, IntKind.wrap_i64]
  constructor <;> omega
/-- The sign turned, if it is. -/
theorem neg_any (H L : Nat) (hL : W L) (hH : W H) (hV : two H L ≤ 170141183460469231731687303715884105728) : ∃ l2 b h2 b2 : Nat,
    (∀ w, (callFunc 44 #[.int .u64 0, .int .u64 (L : Int), .int .u64 0]).run Try.prog w = .ok (.value (.tuple #[.int .u64 (l2 : Int), .int .u64 (b : Int)])) w) ∧
    (∀ w, (callFunc 44 #[.int .u64 0, .int .u64 (H : Int), .int .u64 (b : Int)]).run Try.prog w = .ok (.value (.tuple #[.int .u64 (h2 : Int), .int .u64 (b2 : Int)])) w) ∧
    IntKind.i64.wrap (l2 : Int) = wr (-((two H L : Nat) : Int)) ∧ IntKind.i64.wrap (h2 : Int) = (-((two H L : Nat) : Int)) / 18446744073709551616 := by
  by_cases h0 : two H L = 0
  · obtain ⟨rfl, rfl⟩ := two_zero.1 h0
    refine ⟨0, 0, 0, 0, fun w => sub64 0 0 0 (by decide) w, fun w => sub64 0 0 0 (by decide) w, by rw [h0]; decide, by rw [h0]; decide⟩
  · obtain ⟨l2, b, h2, b2, w1, w2, s, C1, C2⟩ := neg_walk H L hL hH h0
    obtain ⟨p1, p2⟩ := pair_neg w2 w1 s hV
    exact ⟨l2, b, h2, b2, C1, C2, p1, p2⟩
theorem W_wholeV {how a : Nat} (ha : W a) : W (wholeV how a) := by
  unfold wholeV
  split; exact W_of (by decide)
  split; exact ha
  split; exact ha
  exact W_sg (by have := pat_le (wq how (ng a) (sm a) (-se a).toNat) 0 false; omega)
theorem se_any {a : Nat} (ha : W a) : se a ≤ 972 := by
  have := ex_lt a
  unfold se; split <;> omega
theorem lt1024 {M : Nat} (h : M < 9007199254740992) : M * 1024 < 18446744073709551616 := by omega
theorem sm_normal {t : Nat} (h : 0 ≤ se t) : 4503599627370496 ≤ sm t := by
  have := sm_norm (a := t) (by omega)
  exact this
theorem bl_normal {t : Nat} (h : 0 ≤ se t) : bl (sm t) = 53 := by
  have h1 := sm_normal h
  have h2 := sm_lt t
  exact bl_eq (k := 52) (by rw [show (2 : Nat) ^ 52 = 4503599627370496 by decide]; exact h1) (by rw [show (2 : Nat) ^ (52 + 1) = 9007199254740992 by decide]; exact h2)
/-- The numbers that fit. -/
theorem to_ok {p : Bool} {t h l : Nat} (hp : ng t = p) (hh : W h) (hl : W l) (e : two h l = toM t) (hb : toBad t = false) :
    toM t ≤ 170141183460469231731687303715884105728 ∧ (p = false → IntKind.i64.wrap (l : Int) = wr (toI t) ∧ IntKind.i64.wrap (h : Int) = toI t / 18446744073709551616) ∧ (p = true → toI t = -((two h l : Nat) : Int)) := by
  unfold toBad at hb
  rw [hp] at hb
  obtain ⟨V, hV⟩ : ∃ V, toM t = V := ⟨_, rfl⟩
  rw [hV] at hb e ⊢
  refine ⟨?_, ?_, ?_⟩
  · simp at hb
    by_cases g : 170141183460469231731687303715884105728 ≤ V
    · have := (hb g).2; omega
    · omega
  · intro hf
    have hI : toI t = (V : Int) := by unfold toI; rw [hp, hf, hV]; rfl
    rw [hI]
    refine pair_pos hh hl e ?_
    rw [hf] at hb
    simp at hb
    exact hb
  · intro ht
    unfold toI
    rw [hp, ht, hV, e]; rfl
set_option maxRecDepth 100000 in
set_option maxHeartbeats 2000000 in
theorem to_c (a : Nat) (ha : W a) (w : World) : Calls Try.prog 51 #[.int .u64 a] w fun e w' => e = .returned (.tuple #[.int .i64 (toLo a), .int .i64 (toHi a), .int .i64 (toT a)]) ∧ Below w.heap.size w w' := by
  have N1 := Lib.hid (isnan_c a ha)
  have I1 := Lib.hid (isinf_c a ha)
  by_cases n1 : nan a = true
  · have F : toFail a = true := by unfold toFail; rw [n1]; rfl
    rw [show toLo a = 0 by unfold toLo; rw [if_pos F], show toHi a = 0 by unfold toHi; rw [if_pos F], show toT a = -43 by unfold toT; rw [if_pos F]]
    rw [n1] at N1; exact to_n1 a N1 w
  have n1 := Bool.eq_false_iff.2 n1; rw [n1] at N1
  by_cases i1 : inf a = true
  · have F : toFail a = true := by unfold toFail; rw [n1, i1]; rfl
    rw [show toLo a = 0 by unfold toLo; rw [if_pos F], show toHi a = 0 by unfold toHi; rw [if_pos F], show toT a = -43 by unfold toT; rw [if_pos F]]
    rw [i1] at I1; exact to_i1 a N1 I1 w
  have i1 := Bool.eq_false_iff.2 i1; rw [i1] at I1
  have HT := trunc_c a ha
  have tW := W_wholeV (how := 0) ha
  have F : toFail a = toBad (wholeV 0 a) := by unfold toFail; rw [n1, i1]; rfl
  have eLo : toLo a = if toBad (wholeV 0 a) = true then 0 else wr (toI (wholeV 0 a)) := by unfold toLo; rw [F]
  have eHi : toHi a = if toBad (wholeV 0 a) = true then 0 else toI (wholeV 0 a) / 18446744073709551616 := by unfold toHi; rw [F]
  have eT : toT a = if toBad (wholeV 0 a) = true then -43 else 0 := by unfold toT; rw [F]
  rw [eLo, eHi, eT]
  clear eLo eHi eT F
  obtain ⟨t, ht⟩ : ∃ t, wholeV 0 a = t := ⟨_, rfl⟩
  rw [ht] at HT tW ⊢
  clear ht
  have HSA := split_c t tW
  unfold num at HSA
  have HT := Lib.hid HT
  have s1 := se_ge t
  have s2 := se_any tW
  have lm := sm_lt t
  obtain ⟨p, hp⟩ : ∃ p, ng t = p := ⟨_, rfl⟩
  rw [hp] at HSA
  have HSA := Lib.hid HSA
  by_cases he : se t < 0
  · obtain ⟨q1, q2⟩ := toM_small he
    have hb : toBad t = false := by unfold toBad; rw [decide_eq_false (by omega)]; rfl
    rw [if_neg (by rw [hb]; decide), if_neg (by rw [hb]; decide), if_neg (by rw [hb]; decide)]
    obtain ⟨k, hk⟩ : ∃ k : Nat, min (-se t) 63 = (k : Int) := ⟨(min (-se t) 63).toNat, by omega⟩
    rw [hk, Int.toNat_natCast] at q1
    obtain ⟨x, hx⟩ : ∃ x, toM t = x := ⟨_, rfl⟩
    have WX : W x := W_of (by omega)
    obtain ⟨o1, o2, o3⟩ := to_ok (h := 0) (l := x) hp (W_of (by decide)) WX (by rw [two_lo, hx]) hb
    have hv : ((sm t : Nat) : Int) / 2 ^ k = (x : Int) := by rw [← hx, q1, Int.natCast_ediv, Int.natCast_pow]; rfl
    have bx : (0 : Int) ≤ (x : Int) ∧ (x : Int) < 9007199254740992 := by omega
    have HL := Lib.hid (len64_c x WX)
    have bb : (0 : Int) ≤ (bl x : Int) ∧ (bl x : Int) ≤ 64 := by have := bl_W WX; omega
    have g2 : decide ((127 : Int) < (bl x : Int)) = false := decide_eq_false (by omega)
    have hm : (((x : Int) == 4503599627370496) = false) ∨ (((x : Int) == 4503599627370496) = true) := by cases ((x : Int) == 4503599627370496) <;> simp
    have bm : (0 : Int) ≤ ((sm t : Nat) : Int) ∧ ((sm t : Nat) : Int) < 9007199254740992 := by omega
    cases p
    · obtain ⟨r0, r1⟩ := o2 rfl
      by_cases g : (0 : Int) < (x : Int)
      · exact to_lp0 a t N1 I1 HT _ _ HSA ⟨s1, he⟩ k hk bm x hv bx (decide_eq_true g) _ bb HL g2 _ _ r0 r1 w
      · exact to_np0 a t N1 I1 HT _ _ HSA ⟨s1, he⟩ k hk bm x hv bx (decide_eq_false g) _ _ r0 r1 w
    · have hI := o3 rfl
      obtain ⟨l2, b1, h2, b2, C1, C2, r0, r1⟩ := neg_any 0 x WX (W_of (by decide)) (by rw [two_lo]; omega)
      rw [← hI] at r0 r1
      by_cases g : (0 : Int) < (x : Int)
      · rcases hm with hm | hm
        · exact to_lp1 a t N1 I1 HT _ _ HSA ⟨s1, he⟩ k hk bm x hv bx (decide_eq_true g) hm _ bb HL g2 _ _ _ _ C1 C2 _ _ r0 r1 w
        · exact to_lp2 a t N1 I1 HT _ _ HSA ⟨s1, he⟩ k hk bm x hv bx (decide_eq_true g) hm _ bb HL g2 _ _ _ _ C1 C2 _ _ r0 r1 w
      · have hm : (((x : Int) == 4503599627370496) = false) := by rw [beq_eq_false_iff_ne]; omega
        exact to_np1 a t N1 I1 HT _ _ HSA ⟨s1, he⟩ k hk bm x hv bx (decide_eq_false g) hm _ _ _ _ C1 C2 _ _ r0 r1 w
  have he : 0 ≤ se t := by omega
  have bln := bl_normal he
  have mn := sm_normal he
  obtain ⟨B1, B2⟩ := toM_big he
  rw [bln] at B1
  have eM : toM t = sm t * 2 ^ (se t).toNat := by unfold toM; rw [if_pos he]
  have WM : W (sm t) := W_of (by omega)
  have HL := Lib.hid (len64_c (sm t) WM)
  rw [bln] at HL
  have bb : (0 : Int) ≤ ((53 : Nat) : Int) ∧ ((53 : Nat) : Int) ≤ 64 := by decide
  obtain ⟨b, hbe⟩ : ∃ b : Int, ((53 : Nat) : Int) = b := ⟨_, rfl⟩
  rw [hbe] at HL bb
  have b53 : b = 53 := hbe.symm
  obtain ⟨E, hE⟩ : ∃ E, se t = E := ⟨_, rfl⟩
  obtain ⟨M, hM⟩ : ∃ M, sm t = M := ⟨_, rfl⟩
  rw [hE] at HSA s1 s2 he B1 B2 eM
  rw [hM] at HSA lm mn B1 B2 eM HL WM
  have bm : (4503599627370496 : Int) ≤ (M : Int) ∧ (M : Int) < 9007199254740992 := by omega
  have g1 : decide ((0 : Int) < (M : Int)) = true := decide_eq_true (by omega)
  have hm : (((M : Int) == 4503599627370496) = false) ∨ (((M : Int) == 4503599627370496) = true) := by cases ((M : Int) == 4503599627370496) <;> simp
  by_cases hb : toBad t = true
  · rw [if_pos hb, if_pos hb, if_pos hb]
    have hb2 := hb
    unfold toBad at hb2
    rw [hp] at hb2
    rw [Bool.and_eq_true, decide_eq_true_eq] at hb2
    have h75 : 75 ≤ E := by have := (B1.1 hb2.1).2; omega
    have g2 : decide ((127 : Int) < b + E) = true := decide_eq_true (by omega)
    cases p
    · exact to_fp0 a t N1 I1 HT _ _ HSA bm g1 ⟨he, s2⟩ b bb HL g2 w
    · rcases hm with hm | hm
      · exact to_fp1 a t N1 I1 HT _ _ HSA bm g1 hm ⟨he, s2⟩ b bb HL g2 w
      · have ne : E ≠ 75 := fun c => by
          have h1 := B2.2 ⟨by have := beq_iff_eq.1 hm; omega, c⟩
          rw [decide_eq_true h1] at hb2
          exact absurd hb2.2 (by decide)
        exact to_fp2 a t N1 I1 HT _ _ HSA bm g1 hm ⟨he, s2⟩ (beq_eq_false_iff_ne.2 ne) b bb HL g2 w
  have hb := Bool.eq_false_iff.2 hb
  rw [if_neg (by rw [hb]; decide), if_neg (by rw [hb]; decide), if_neg (by rw [hb]; decide)]
  by_cases h75 : 75 ≤ E
  · have big := B1.2 ⟨by omega, by omega⟩
    have hb2 := hb
    unfold toBad at hb2
    rw [hp, decide_eq_true big] at hb2
    cases p
    · exact absurd hb2 (by simp)
    have h127 : toM t = 170141183460469231731687303715884105728 := by
      by_cases c : toM t = 170141183460469231731687303715884105728
      · exact c
      · rw [decide_eq_false c] at hb2; exact absurd hb2 (by decide)
    obtain ⟨m1, e1⟩ := B2.1 h127
    subst m1
    subst e1
    have tt : two 9223372036854775808 0 = toM t := by rw [h127]; rfl
    obtain ⟨o1, o2, o3⟩ := to_ok hp (W_of (by decide)) (W_of (by decide)) tt hb
    obtain ⟨l2, b1, h2, b2, C1, C2, r0, r1⟩ := neg_any 9223372036854775808 0 (W_of (by decide)) (W_of (by decide)) (by decide)
    rw [← o3 rfl] at r0 r1
    exact to_edge a t N1 I1 HT _ HSA bm g1 (by decide) _ (by decide) b bb HL (by rw [b53]; decide) _ _ _ _ C1 C2 _ _ r0 r1 w
  by_cases h64 : 64 ≤ E
  · obtain ⟨n, hn⟩ : ∃ n : Nat, E - 64 = (n : Int) := ⟨(E - 64).toNat, by omega⟩
    have pn : 2 ^ n ≤ 1024 := by
      calc 2 ^ n ≤ 2 ^ 10 := Nat.pow_le_pow_right (by decide) (by omega)
        _ = 1024 := by decide
    have ml : M * 2 ^ n ≤ M * 1024 := Nat.mul_le_mul_left _ pn
    have WH : W (M * 2 ^ n) := W_of (Nat.lt_of_le_of_lt ml (lt1024 lm))
    have WL : W 0 := W_of (by decide)
    have tt : two (M * 2 ^ n) 0 = toM t := by
      rw [eM, show E.toNat = n + 64 by omega, Nat.pow_add, ← Nat.mul_assoc, show (2 : Nat) ^ 64 = 18446744073709551616 by decide]; unfold two; rw [Nat.add_zero]
    have HH : IntKind.u64.wrap ((M : Int) * 2 ^ n) = ((M * 2 ^ n : Nat) : Int) := by
      have e1 : ((M : Int) * 2 ^ n) = ((M * 2 ^ n : Nat) : Int) := by rw [Int.natCast_mul, Int.natCast_pow]; rfl
      rw [e1, IntKind.wrap_u64]; unfold W at WH; omega
    have g2 : decide ((127 : Int) < b + E) = false := decide_eq_false (by omega)
    have he75 : (E == 75) = false := by rw [beq_eq_false_iff_ne]; omega
    obtain ⟨o1, o2, o3⟩ := to_ok hp WH WL tt hb
    cases p
    · obtain ⟨r0, r1⟩ := o2 rfl
      exact to_hp0 a t N1 I1 HT _ _ HSA bm g1  ⟨h64, by omega⟩ n hn _ HH  b bb HL g2 _ _ r0 r1 w
    · obtain ⟨l2, b1, h2, b2, C1, C2, r0, r1⟩ := neg_any (M * 2 ^ n) 0 WL WH (by rw [tt]; exact o1)
      rw [← o3 rfl] at r0 r1
      rcases hm with hm | hm
      · exact to_hp1 a t N1 I1 HT _ _ HSA bm g1 hm ⟨h64, by omega⟩ n hn _ HH  b bb HL g2 _ _ _ _ C1 C2 _ _ r0 r1 w
      · exact to_hp2 a t N1 I1 HT _ _ HSA bm g1 hm ⟨h64, by omega⟩ n hn _ HH he75 b bb HL g2 _ _ _ _ C1 C2 _ _ r0 r1 w
  by_cases h0 : 0 < E
  · obtain ⟨n2, hn2⟩ : ∃ n : Nat, E = (n : Int) := ⟨E.toNat, by omega⟩
    subst hn2
    obtain ⟨n1, hn1⟩ : ∃ n : Nat, (64 : Int) - n2 = (n : Int) := ⟨(64 - (n2 : Int)).toNat, by omega⟩
    have e64 : (18446744073709551616 : Nat) = 2 ^ n1 * 2 ^ n2 := by rw [← Nat.pow_add, show n1 + n2 = 64 by omega]
    have WH : W (M / 2 ^ n1) := W_of (Nat.lt_of_le_of_lt (Nat.div_le_self _ _) WM)
    have WL : W (M * 2 ^ n2 % 18446744073709551616) := W_of (Nat.mod_lt _ (by decide))
    have tt : two (M / 2 ^ n1) (M * 2 ^ n2 % 18446744073709551616) = toM t := by
      have dv : M / 2 ^ n1 = M * 2 ^ n2 / 18446744073709551616 := by rw [e64, Nat.mul_div_mul_right _ _ (pow_pos n2)]
      rw [eM, Int.toNat_natCast, dv]
      exact two_div (M * 2 ^ n2)
    have HH : (M : Int) / 2 ^ n1 = ((M / 2 ^ n1 : Nat) : Int) := by rw [Int.natCast_ediv, Int.natCast_pow]; rfl
    have LL : IntKind.u64.wrap ((M : Int) * 2 ^ n2) = ((M * 2 ^ n2 % 18446744073709551616 : Nat) : Int) := by
      have e1 : ((M : Int) * 2 ^ n2) = ((M * 2 ^ n2 : Nat) : Int) := by rw [Int.natCast_mul, Int.natCast_pow]; rfl
      rw [e1, IntKind.wrap_u64, Int.natCast_emod]; rfl
    have g2 : decide ((127 : Int) < b + (n2 : Int)) = false := decide_eq_false (by omega)
    have he75 : ((n2 : Int) == 75) = false := by rw [beq_eq_false_iff_ne]; omega
    have be : 0 < n2 ∧ n2 < 64 := by omega
    obtain ⟨o1, o2, o3⟩ := to_ok hp WH WL tt hb
    cases p
    · obtain ⟨r0, r1⟩ := o2 rfl
      exact to_mp0 a t N1 I1 HT _ n1 n2 HSA bm g1  be hn1 _ _ HH LL  b bb HL g2 _ _ r0 r1 w
    · obtain ⟨l2, b1, h2, b2, C1, C2, r0, r1⟩ := neg_any (M / 2 ^ n1) (M * 2 ^ n2 % 18446744073709551616) WL WH (by rw [tt]; exact o1)
      rw [← o3 rfl] at r0 r1
      rcases hm with hm | hm
      · exact to_mp1 a t N1 I1 HT _ n1 n2 HSA bm g1 hm be hn1 _ _ HH LL  b bb HL g2 _ _ _ _ C1 C2 _ _ r0 r1 w
      · exact to_mp2 a t N1 I1 HT _ n1 n2 HSA bm g1 hm be hn1 _ _ HH LL he75 b bb HL g2 _ _ _ _ C1 C2 _ _ r0 r1 w
  · have e0 : E = 0 := by omega
    subst e0
    have WH : W 0 := W_of (by decide)
    have WL := WM
    have tt : two 0 M = toM t := by rw [two_lo, eM]; exact (Nat.mul_one M).symm
    have g2 : decide ((127 : Int) < b) = false := decide_eq_false (by omega)
    obtain ⟨o1, o2, o3⟩ := to_ok hp WH WL tt hb
    cases p
    · obtain ⟨r0, r1⟩ := o2 rfl
      exact to_zp0 a t N1 I1 HT _ HSA bm g1 b bb HL g2 _ _ r0 r1 w
    · obtain ⟨l2, b1, h2, b2, C1, C2, r0, r1⟩ := neg_any 0 M WL WH (by rw [tt]; exact o1)
      rw [← o3 rfl] at r0 r1
      rcases hm with hm | hm
      · exact to_zp1 a t N1 I1 HT _ HSA bm g1 hm b bb HL g2 _ _ _ _ C1 C2 _ _ r0 r1 w
      · exact to_zp2 a t N1 I1 HT _ HSA bm g1 hm b bb HL g2 _ _ _ _ C1 C2 _ _ r0 r1 w
theorem W_sqrtV {a : Nat} (h : W a) : W (sqrtV a) := by
  unfold sqrtV
  split; exact W_of (by decide)
  split; exact h
  split; exact W_of (by decide)
  split; exact h
  unfold sqrtF; exact W_of (Nat.lt_of_le_of_lt (pat_le _ _ _) (by decide))
theorem W_scale {a : Nat} {n : Int} (h : W a) : W (scaleV a n) := by
  unfold scaleV
  split; exact W_of (by decide)
  split; exact h
  exact W_sg (by have := pat_le (sm a) (se a + min (max n (-100000)) 100000) false; omega)
end Go.Proofs.Ytkifdppppihjcaa
