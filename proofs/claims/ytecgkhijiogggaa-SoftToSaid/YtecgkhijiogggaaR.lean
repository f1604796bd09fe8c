/- ToDouble. -/
import Derived.Test.YtecgkhijiogggaaQ
import Derived.BigQuiet
import Derived.Deep.QuietTactic
namespace Go.Proofs.Ytecgkhijiogggaa
set_option linter.unusedVariables false
set_option linter.unusedSimpArgs false
open Go.RowKit Go.Shelf SF
set_option maxRecDepth 100000 in
set_option maxHeartbeats 2000000 in
theorem to_zp0 (a t : Nat) (N1 : Hid (PB 62 a false)) (I1 : Hid (PB 63 a false)) (HT : Hid (∀ w, Calls Try.prog 40 #[.int .u64 a] w fun e w' => e = .returned (.int .u64 t) ∧ Below w.heap.size w w')) (m : Int) (HSA : Hid (PSplit t false m (0))) (bm : 4503599627370496 ≤ m ∧ m < 9007199254740992) (g1 : decide (0 < m) = true) (b : Int) (bb : 0 ≤ b ∧ b ≤ 64) (HL : Hid (∀ w, Calls Try.prog 101 #[.int .u64 (m)] w fun e w' => e = .returned (.int .i64 b) ∧ w = w')) (g2 : decide (127 < b) = false) (r0 r1 : Int) (Q0 : IntKind.i64.wrap (m) = r0) (Q1 : IntKind.i64.wrap (0) = r1) (w : World) : Calls Try.prog 55 #[.int .u64 a] w fun e w' => e = .returned (.tuple #[.int .i64 (r0), .int .i64 (r1), .int .i64 (0)]) ∧ Below w.heap.size w w' := by
  go_enter Try.func55, Try.ntmps55
  go_wp2_with (first
    | (go_at_call 62; (with_reducible refine (N1.out _).mono ?_); rintro e1 w1 ⟨rfl, rfl⟩)
    | (go_at_call 63; (with_reducible refine (I1.out _).mono ?_); rintro e1 w1 ⟨rfl, rfl⟩)
    | (go_at_call 40; (with_reducible refine (HT.out _).mono ?_); rintro e1 w1 ⟨rfl, hb1⟩)
    | (go_at_call 67; (with_reducible refine (HSA.out _).mono ?_); rintro e2 w2 ⟨rfl, hb2⟩))
  go_quiet ((go_at_call 101; exact quiet_left (HL.out _)))
  go_wp2
  go_quiet (fail)
  go_wp2
  go_ret3
  exact ⟨rfl, by repeat (first | exact (bt hb1 hb2).alloc (bt hb1 hb2).size _ | refine below_drewN ?_ _)⟩
set_option maxRecDepth 100000 in
set_option maxHeartbeats 2000000 in
theorem to_np0 (a t : Nat) (N1 : Hid (PB 62 a false)) (I1 : Hid (PB 63 a false)) (HT : Hid (∀ w, Calls Try.prog 40 #[.int .u64 a] w fun e w' => e = .returned (.int .u64 t) ∧ Below w.heap.size w w')) (m e : Int) (HSA : Hid (PSplit t false m (e))) (he : -1074 ≤ e ∧ e < 0) (k : Nat) (hk : min (-e) 63 = (k : Int)) (bm : 0 ≤ m ∧ m < 9007199254740992) (x : Int) (hv : m / 2 ^ k = x) (bx : 0 ≤ x ∧ x < 9007199254740992) (g1 : decide (0 < x) = false) (r0 r1 : Int) (Q0 : IntKind.i64.wrap (x) = r0) (Q1 : IntKind.i64.wrap (0) = r1) (w : World) : Calls Try.prog 55 #[.int .u64 a] w fun e w' => e = .returned (.tuple #[.int .i64 (r0), .int .i64 (r1), .int .i64 (0)]) ∧ Below w.heap.size w w' := by
  go_enter Try.func55, Try.ntmps55
  go_wp2_with (first
    | (go_at_call 62; (with_reducible refine (N1.out _).mono ?_); rintro e1 w1 ⟨rfl, rfl⟩)
    | (go_at_call 63; (with_reducible refine (I1.out _).mono ?_); rintro e1 w1 ⟨rfl, rfl⟩)
    | (go_at_call 40; (with_reducible refine (HT.out _).mono ?_); rintro e1 w1 ⟨rfl, hb1⟩)
    | (go_at_call 67; (with_reducible refine (HSA.out _).mono ?_); rintro e2 w2 ⟨rfl, hb2⟩))
  go_quiet (fail)
  go_wp2
  go_quiet (fail)
  go_wp2
  go_ret3
  exact ⟨rfl, by repeat (first | exact (bt hb1 hb2).alloc (bt hb1 hb2).size _ | refine below_drewN ?_ _)⟩
set_option maxRecDepth 100000 in
set_option maxHeartbeats 2000000 in
theorem to_lp0 (a t : Nat) (N1 : Hid (PB 62 a false)) (I1 : Hid (PB 63 a false)) (HT : Hid (∀ w, Calls Try.prog 40 #[.int .u64 a] w fun e w' => e = .returned (.int .u64 t) ∧ Below w.heap.size w w')) (m e : Int) (HSA : Hid (PSplit t false m (e))) (he : -1074 ≤ e ∧ e < 0) (k : Nat) (hk : min (-e) 63 = (k : Int)) (bm : 0 ≤ m ∧ m < 9007199254740992) (x : Int) (hv : m / 2 ^ k = x) (bx : 0 ≤ x ∧ x < 9007199254740992) (g1 : decide (0 < x) = true) (b : Int) (bb : 0 ≤ b ∧ b ≤ 64) (HL : Hid (∀ w, Calls Try.prog 101 #[.int .u64 (x)] w fun e w' => e = .returned (.int .i64 b) ∧ w = w')) (g2 : decide (127 < b) = false) (r0 r1 : Int) (Q0 : IntKind.i64.wrap (x) = r0) (Q1 : IntKind.i64.wrap (0) = r1) (w : World) : Calls Try.prog 55 #[.int .u64 a] w fun e w' => e = .returned (.tuple #[.int .i64 (r0), .int .i64 (r1), .int .i64 (0)]) ∧ Below w.heap.size w w' := by
  go_enter Try.func55, Try.ntmps55
  go_wp2_with (first
    | (go_at_call 62; (with_reducible refine (N1.out _).mono ?_); rintro e1 w1 ⟨rfl, rfl⟩)
    | (go_at_call 63; (with_reducible refine (I1.out _).mono ?_); rintro e1 w1 ⟨rfl, rfl⟩)
    | (go_at_call 40; (with_reducible refine (HT.out _).mono ?_); rintro e1 w1 ⟨rfl, hb1⟩)
    | (go_at_call 67; (with_reducible refine (HSA.out _).mono ?_); rintro e2 w2 ⟨rfl, hb2⟩))
  go_quiet ((go_at_call 101; exact quiet_left (HL.out _)))
  go_wp2
  go_quiet (fail)
  go_wp2
  go_ret3
  exact ⟨rfl, by repeat (first | exact (bt hb1 hb2).alloc (bt hb1 hb2).size _ | refine below_drewN ?_ _)⟩
set_option maxRecDepth 100000 in
set_option maxHeartbeats 2000000 in
theorem to_mp0 (a t : Nat) (N1 : Hid (PB 62 a false)) (I1 : Hid (PB 63 a false)) (HT : Hid (∀ w, Calls Try.prog 40 #[.int .u64 a] w fun e w' => e = .returned (.int .u64 t) ∧ Below w.heap.size w w')) (m : Int) (n1 n2 : Nat) (HSA : Hid (PSplit t false m ((n2 : Int)))) (bm : 4503599627370496 ≤ m ∧ m < 9007199254740992) (g1 : decide (0 < m) = true) (be : 0 < n2 ∧ n2 < 64) (hn : (64 : Int) - n2 = (n1 : Int)) (h l : Int) (HH : m / 2 ^ n1 = h) (LL : IntKind.u64.wrap (m * 2 ^ n2) = l) (b : Int) (bb : 0 ≤ b ∧ b ≤ 64) (HL : Hid (∀ w, Calls Try.prog 101 #[.int .u64 (m)] w fun e w' => e = .returned (.int .i64 b) ∧ w = w')) (g2 : decide (127 < b + (n2 : Int)) = false) (r0 r1 : Int) (Q0 : IntKind.i64.wrap (l) = r0) (Q1 : IntKind.i64.wrap (h) = r1) (w : World) : Calls Try.prog 55 #[.int .u64 a] w fun e w' => e = .returned (.tuple #[.int .i64 (r0), .int .i64 (r1), .int .i64 (0)]) ∧ Below w.heap.size w w' := by
  go_enter Try.func55, Try.ntmps55
  go_wp2_with (first
    | (go_at_call 62; (with_reducible refine (N1.out _).mono ?_); rintro e1 w1 ⟨rfl, rfl⟩)
    | (go_at_call 63; (with_reducible refine (I1.out _).mono ?_); rintro e1 w1 ⟨rfl, rfl⟩)
    | (go_at_call 40; (with_reducible refine (HT.out _).mono ?_); rintro e1 w1 ⟨rfl, hb1⟩)
    | (go_at_call 67; (with_reducible refine (HSA.out _).mono ?_); rintro e2 w2 ⟨rfl, hb2⟩))
  go_quiet ((go_at_call 101; exact quiet_left (HL.out _)))
  go_wp2
  go_quiet (fail)
  go_wp2
  go_quiet (fail)
  go_wp2
  go_ret3
  exact ⟨rfl, by repeat (first | exact (bt hb1 hb2).alloc (bt hb1 hb2).size _ | refine below_drewN ?_ _)⟩
set_option maxRecDepth 100000 in
set_option maxHeartbeats 2000000 in
theorem to_hp0 (a t : Nat) (N1 : Hid (PB 62 a false)) (I1 : Hid (PB 63 a false)) (HT : Hid (∀ w, Calls Try.prog 40 #[.int .u64 a] w fun e w' => e = .returned (.int .u64 t) ∧ Below w.heap.size w w')) (m e : Int) (HSA : Hid (PSplit t false m (e))) (bm : 4503599627370496 ≤ m ∧ m < 9007199254740992) (g1 : decide (0 < m) = true) (be : 64 ≤ e ∧ e ≤ 75) (n1 : Nat) (hn : e - 64 = (n1 : Int)) (h : Int) (HH : IntKind.u64.wrap (m * 2 ^ n1) = h) (b : Int) (bb : 0 ≤ b ∧ b ≤ 64) (HL : Hid (∀ w, Calls Try.prog 101 #[.int .u64 (m)] w fun e w' => e = .returned (.int .i64 b) ∧ w = w')) (g2 : decide (127 < b + e) = false) (r0 r1 : Int) (Q0 : IntKind.i64.wrap (0) = r0) (Q1 : IntKind.i64.wrap (h) = r1) (w : World) : Calls Try.prog 55 #[.int .u64 a] w fun e w' => e = .returned (.tuple #[.int .i64 (r0), .int .i64 (r1), .int .i64 (0)]) ∧ Below w.heap.size w w' := by
  go_enter Try.func55, Try.ntmps55
  go_wp2_with (first
    | (go_at_call 62; (with_reducible refine (N1.out _).mono ?_); rintro e1 w1 ⟨rfl, rfl⟩)
    | (go_at_call 63; (with_reducible refine (I1.out _).mono ?_); rintro e1 w1 ⟨rfl, rfl⟩)
    | (go_at_call 40; (with_reducible refine (HT.out _).mono ?_); rintro e1 w1 ⟨rfl, hb1⟩)
    | (go_at_call 67; (with_reducible refine (HSA.out _).mono ?_); rintro e2 w2 ⟨rfl, hb2⟩))
  go_quiet ((go_at_call 101; exact quiet_left (HL.out _)))
  go_wp2
  go_quiet (fail)
  go_wp2
  go_ret3
  exact ⟨rfl, by repeat (first | exact (bt hb1 hb2).alloc (bt hb1 hb2).size _ | refine below_drewN ?_ _)⟩
set_option maxRecDepth 100000 in
set_option maxHeartbeats 2000000 in
theorem to_fp0 (a t : Nat) (N1 : Hid (PB 62 a false)) (I1 : Hid (PB 63 a false)) (HT : Hid (∀ w, Calls Try.prog 40 #[.int .u64 a] w fun e w' => e = .returned (.int .u64 t) ∧ Below w.heap.size w w')) (m e : Int) (HSA : Hid (PSplit t false m (e))) (bm : 4503599627370496 ≤ m ∧ m < 9007199254740992) (g1 : decide (0 < m) = true) (be : 0 ≤ e ∧ e ≤ 972) (b : Int) (bb : 0 ≤ b ∧ b ≤ 64) (HL : Hid (∀ w, Calls Try.prog 101 #[.int .u64 (m)] w fun e w' => e = .returned (.int .i64 b) ∧ w = w')) (g2 : decide (127 < b + e) = true) (w : World) : Calls Try.prog 55 #[.int .u64 a] w fun e w' => e = .returned (.tuple #[.int .i64 (0), .int .i64 (0), .int .i64 (-43)]) ∧ Below w.heap.size w w' := by
  go_enter Try.func55, Try.ntmps55
  go_wp2_with (first
    | (go_at_call 62; (with_reducible refine (N1.out _).mono ?_); rintro e1 w1 ⟨rfl, rfl⟩)
    | (go_at_call 63; (with_reducible refine (I1.out _).mono ?_); rintro e1 w1 ⟨rfl, rfl⟩)
    | (go_at_call 40; (with_reducible refine (HT.out _).mono ?_); rintro e1 w1 ⟨rfl, hb1⟩)
    | (go_at_call 67; (with_reducible refine (HSA.out _).mono ?_); rintro e2 w2 ⟨rfl, hb2⟩))
  go_quiet ((go_at_call 101; exact quiet_left (HL.out _)))
  go_wp2
  go_ret3
  exact ⟨rfl, by repeat (first | exact (bt hb1 hb2).alloc (bt hb1 hb2).size _ | refine below_drewN ?_ _)⟩
set_option maxRecDepth 100000 in
set_option maxHeartbeats 2000000 in
theorem to_zp1 (a t : Nat) (N1 : Hid (PB 62 a false)) (I1 : Hid (PB 63 a false)) (HT : Hid (∀ w, Calls Try.prog 40 #[.int .u64 a] w fun e w' => e = .returned (.int .u64 t) ∧ Below w.heap.size w w')) (m : Int) (HSA : Hid (PSplit t true m (0))) (bm : 4503599627370496 ≤ m ∧ m < 9007199254740992) (g1 : decide (0 < m) = true) (hm : (m == 4503599627370496) = false) (b : Int) (bb : 0 ≤ b ∧ b ≤ 64) (HL : Hid (∀ w, Calls Try.prog 101 #[.int .u64 (m)] w fun e w' => e = .returned (.int .i64 b) ∧ w = w')) (g2 : decide (127 < b) = false) (l2 b1 h2 b2 : Int) (C1 : ∀ w, (callFunc 86 #[.int .u64 0, .int .u64 (m), .int .u64 0]).run Try.prog w = .ok (.value (.tuple #[.int .u64 l2, .int .u64 b1])) w) (C2 : ∀ w, (callFunc 86 #[.int .u64 0, .int .u64 (0), .int .u64 b1]).run Try.prog w = .ok (.value (.tuple #[.int .u64 h2, .int .u64 b2])) w) (r0 r1 : Int) (Q0 : IntKind.i64.wrap (l2) = r0) (Q1 : IntKind.i64.wrap (h2) = r1) (w : World) : Calls Try.prog 55 #[.int .u64 a] w fun e w' => e = .returned (.tuple #[.int .i64 (r0), .int .i64 (r1), .int .i64 (0)]) ∧ Below w.heap.size w w' := by
  go_enter Try.func55, Try.ntmps55
  go_wp2_with (first
    | (go_at_call 62; (with_reducible refine (N1.out _).mono ?_); rintro e1 w1 ⟨rfl, rfl⟩)
    | (go_at_call 63; (with_reducible refine (I1.out _).mono ?_); rintro e1 w1 ⟨rfl, rfl⟩)
    | (go_at_call 40; (with_reducible refine (HT.out _).mono ?_); rintro e1 w1 ⟨rfl, hb1⟩)
    | (go_at_call 67; (with_reducible refine (HSA.out _).mono ?_); rintro e2 w2 ⟨rfl, hb2⟩))
  go_quiet ((go_at_call 101; exact quiet_left (HL.out _)))
  go_wp2
  go_quiet (fail)
  go_wp2
  go_ret3
  exact ⟨rfl, by repeat (first | exact (bt hb1 hb2).alloc (bt hb1 hb2).size _ | refine below_drewN ?_ _)⟩
set_option maxRecDepth 100000 in
set_option maxHeartbeats 2000000 in
theorem to_np1 (a t : Nat) (N1 : Hid (PB 62 a false)) (I1 : Hid (PB 63 a false)) (HT : Hid (∀ w, Calls Try.prog 40 #[.int .u64 a] w fun e w' => e = .returned (.int .u64 t) ∧ Below w.heap.size w w')) (m e : Int) (HSA : Hid (PSplit t true m (e))) (he : -1074 ≤ e ∧ e < 0) (k : Nat) (hk : min (-e) 63 = (k : Int)) (bm : 0 ≤ m ∧ m < 9007199254740992) (x : Int) (hv : m / 2 ^ k = x) (bx : 0 ≤ x ∧ x < 9007199254740992) (g1 : decide (0 < x) = false) (hm : (x == 4503599627370496) = false) (l2 b1 h2 b2 : Int) (C1 : ∀ w, (callFunc 86 #[.int .u64 0, .int .u64 (x), .int .u64 0]).run Try.prog w = .ok (.value (.tuple #[.int .u64 l2, .int .u64 b1])) w) (C2 : ∀ w, (callFunc 86 #[.int .u64 0, .int .u64 (0), .int .u64 b1]).run Try.prog w = .ok (.value (.tuple #[.int .u64 h2, .int .u64 b2])) w) (r0 r1 : Int) (Q0 : IntKind.i64.wrap (l2) = r0) (Q1 : IntKind.i64.wrap (h2) = r1) (w : World) : Calls Try.prog 55 #[.int .u64 a] w fun e w' => e = .returned (.tuple #[.int .i64 (r0), .int .i64 (r1), .int .i64 (0)]) ∧ Below w.heap.size w w' := by
  go_enter Try.func55, Try.ntmps55
  go_wp2_with (first
    | (go_at_call 62; (with_reducible refine (N1.out _).mono ?_); rintro e1 w1 ⟨rfl, rfl⟩)
    | (go_at_call 63; (with_reducible refine (I1.out _).mono ?_); rintro e1 w1 ⟨rfl, rfl⟩)
    | (go_at_call 40; (with_reducible refine (HT.out _).mono ?_); rintro e1 w1 ⟨rfl, hb1⟩)
    | (go_at_call 67; (with_reducible refine (HSA.out _).mono ?_); rintro e2 w2 ⟨rfl, hb2⟩))
  go_quiet (fail)
  go_wp2
  go_quiet (fail)
  go_wp2
  go_ret3
  exact ⟨rfl, by repeat (first | exact (bt hb1 hb2).alloc (bt hb1 hb2).size _ | refine below_drewN ?_ _)⟩
set_option maxRecDepth 100000 in
set_option maxHeartbeats 2000000 in
theorem to_lp1 (a t : Nat) (N1 : Hid (PB 62 a false)) (I1 : Hid (PB 63 a false)) (HT : Hid (∀ w, Calls Try.prog 40 #[.int .u64 a] w fun e w' => e = .returned (.int .u64 t) ∧ Below w.heap.size w w')) (m e : Int) (HSA : Hid (PSplit t true m (e))) (he : -1074 ≤ e ∧ e < 0) (k : Nat) (hk : min (-e) 63 = (k : Int)) (bm : 0 ≤ m ∧ m < 9007199254740992) (x : Int) (hv : m / 2 ^ k = x) (bx : 0 ≤ x ∧ x < 9007199254740992) (g1 : decide (0 < x) = true) (hm : (x == 4503599627370496) = false) (b : Int) (bb : 0 ≤ b ∧ b ≤ 64) (HL : Hid (∀ w, Calls Try.prog 101 #[.int .u64 (x)] w fun e w' => e = .returned (.int .i64 b) ∧ w = w')) (g2 : decide (127 < b) = false) (l2 b1 h2 b2 : Int) (C1 : ∀ w, (callFunc 86 #[.int .u64 0, .int .u64 (x), .int .u64 0]).run Try.prog w = .ok (.value (.tuple #[.int .u64 l2, .int .u64 b1])) w) (C2 : ∀ w, (callFunc 86 #[.int .u64 0, .int .u64 (0), .int .u64 b1]).run Try.prog w = .ok (.value (.tuple #[.int .u64 h2, .int .u64 b2])) w) (r0 r1 : Int) (Q0 : IntKind.i64.wrap (l2) = r0) (Q1 : IntKind.i64.wrap (h2) = r1) (w : World) : Calls Try.prog 55 #[.int .u64 a] w fun e w' => e = .returned (.tuple #[.int .i64 (r0), .int .i64 (r1), .int .i64 (0)]) ∧ Below w.heap.size w w' := by
  go_enter Try.func55, Try.ntmps55
  go_wp2_with (first
    | (go_at_call 62; (with_reducible refine (N1.out _).mono ?_); rintro e1 w1 ⟨rfl, rfl⟩)
    | (go_at_call 63; (with_reducible refine (I1.out _).mono ?_); rintro e1 w1 ⟨rfl, rfl⟩)
    | (go_at_call 40; (with_reducible refine (HT.out _).mono ?_); rintro e1 w1 ⟨rfl, hb1⟩)
    | (go_at_call 67; (with_reducible refine (HSA.out _).mono ?_); rintro e2 w2 ⟨rfl, hb2⟩))
  go_quiet ((go_at_call 101; exact quiet_left (HL.out _)))
  go_wp2
  go_quiet (fail)
  go_wp2
  go_ret3
  exact ⟨rfl, by repeat (first | exact (bt hb1 hb2).alloc (bt hb1 hb2).size _ | refine below_drewN ?_ _)⟩
set_option maxRecDepth 100000 in
set_option maxHeartbeats 2000000 in
theorem to_mp1 (a t : Nat) (N1 : Hid (PB 62 a false)) (I1 : Hid (PB 63 a false)) (HT : Hid (∀ w, Calls Try.prog 40 #[.int .u64 a] w fun e w' => e = .returned (.int .u64 t) ∧ Below w.heap.size w w')) (m : Int) (n1 n2 : Nat) (HSA : Hid (PSplit t true m ((n2 : Int)))) (bm : 4503599627370496 ≤ m ∧ m < 9007199254740992) (g1 : decide (0 < m) = true) (hm : (m == 4503599627370496) = false) (be : 0 < n2 ∧ n2 < 64) (hn : (64 : Int) - n2 = (n1 : Int)) (h l : Int) (HH : m / 2 ^ n1 = h) (LL : IntKind.u64.wrap (m * 2 ^ n2) = l) (b : Int) (bb : 0 ≤ b ∧ b ≤ 64) (HL : Hid (∀ w, Calls Try.prog 101 #[.int .u64 (m)] w fun e w' => e = .returned (.int .i64 b) ∧ w = w')) (g2 : decide (127 < b + (n2 : Int)) = false) (l2 b1 h2 b2 : Int) (C1 : ∀ w, (callFunc 86 #[.int .u64 0, .int .u64 (l), .int .u64 0]).run Try.prog w = .ok (.value (.tuple #[.int .u64 l2, .int .u64 b1])) w) (C2 : ∀ w, (callFunc 86 #[.int .u64 0, .int .u64 (h), .int .u64 b1]).run Try.prog w = .ok (.value (.tuple #[.int .u64 h2, .int .u64 b2])) w) (r0 r1 : Int) (Q0 : IntKind.i64.wrap (l2) = r0) (Q1 : IntKind.i64.wrap (h2) = r1) (w : World) : Calls Try.prog 55 #[.int .u64 a] w fun e w' => e = .returned (.tuple #[.int .i64 (r0), .int .i64 (r1), .int .i64 (0)]) ∧ Below w.heap.size w w' := by
  go_enter Try.func55, Try.ntmps55
  go_wp2_with (first
    | (go_at_call 62; (with_reducible refine (N1.out _).mono ?_); rintro e1 w1 ⟨rfl, rfl⟩)
    | (go_at_call 63; (with_reducible refine (I1.out _).mono ?_); rintro e1 w1 ⟨rfl, rfl⟩)
    | (go_at_call 40; (with_reducible refine (HT.out _).mono ?_); rintro e1 w1 ⟨rfl, hb1⟩)
    | (go_at_call 67; (with_reducible refine (HSA.out _).mono ?_); rintro e2 w2 ⟨rfl, hb2⟩))
  go_quiet ((go_at_call 101; exact quiet_left (HL.out _)))
  go_wp2
  go_quiet (fail)
  go_wp2
  go_quiet (fail)
  go_wp2
  go_ret3
  exact ⟨rfl, by repeat (first | exact (bt hb1 hb2).alloc (bt hb1 hb2).size _ | refine below_drewN ?_ _)⟩
set_option maxRecDepth 100000 in
set_option maxHeartbeats 2000000 in
theorem to_hp1 (a t : Nat) (N1 : Hid (PB 62 a false)) (I1 : Hid (PB 63 a false)) (HT : Hid (∀ w, Calls Try.prog 40 #[.int .u64 a] w fun e w' => e = .returned (.int .u64 t) ∧ Below w.heap.size w w')) (m e : Int) (HSA : Hid (PSplit t true m (e))) (bm : 4503599627370496 ≤ m ∧ m < 9007199254740992) (g1 : decide (0 < m) = true) (hm : (m == 4503599627370496) = false) (be : 64 ≤ e ∧ e ≤ 75) (n1 : Nat) (hn : e - 64 = (n1 : Int)) (h : Int) (HH : IntKind.u64.wrap (m * 2 ^ n1) = h) (b : Int) (bb : 0 ≤ b ∧ b ≤ 64) (HL : Hid (∀ w, Calls Try.prog 101 #[.int .u64 (m)] w fun e w' => e = .returned (.int .i64 b) ∧ w = w')) (g2 : decide (127 < b + e) = false) (l2 b1 h2 b2 : Int) (C1 : ∀ w, (callFunc 86 #[.int .u64 0, .int .u64 (0), .int .u64 0]).run Try.prog w = .ok (.value (.tuple #[.int .u64 l2, .int .u64 b1])) w) (C2 : ∀ w, (callFunc 86 #[.int .u64 0, .int .u64 (h), .int .u64 b1]).run Try.prog w = .ok (.value (.tuple #[.int .u64 h2, .int .u64 b2])) w) (r0 r1 : Int) (Q0 : IntKind.i64.wrap (l2) = r0) (Q1 : IntKind.i64.wrap (h2) = r1) (w : World) : Calls Try.prog 55 #[.int .u64 a] w fun e w' => e = .returned (.tuple #[.int .i64 (r0), .int .i64 (r1), .int .i64 (0)]) ∧ Below w.heap.size w w' := by
  go_enter Try.func55, Try.ntmps55
  go_wp2_with (first
    | (go_at_call 62; (with_reducible refine (N1.out _).mono ?_); rintro e1 w1 ⟨rfl, rfl⟩)
    | (go_at_call 63; (with_reducible refine (I1.out _).mono ?_); rintro e1 w1 ⟨rfl, rfl⟩)
    | (go_at_call 40; (with_reducible refine (HT.out _).mono ?_); rintro e1 w1 ⟨rfl, hb1⟩)
    | (go_at_call 67; (with_reducible refine (HSA.out _).mono ?_); rintro e2 w2 ⟨rfl, hb2⟩))
  go_quiet ((go_at_call 101; exact quiet_left (HL.out _)))
  go_wp2
  go_quiet (fail)
  go_wp2
  go_ret3
  exact ⟨rfl, by repeat (first | exact (bt hb1 hb2).alloc (bt hb1 hb2).size _ | refine below_drewN ?_ _)⟩
set_option maxRecDepth 100000 in
set_option maxHeartbeats 2000000 in
theorem to_fp1 (a t : Nat) (N1 : Hid (PB 62 a false)) (I1 : Hid (PB 63 a false)) (HT : Hid (∀ w, Calls Try.prog 40 #[.int .u64 a] w fun e w' => e = .returned (.int .u64 t) ∧ Below w.heap.size w w')) (m e : Int) (HSA : Hid (PSplit t true m (e))) (bm : 4503599627370496 ≤ m ∧ m < 9007199254740992) (g1 : decide (0 < m) = true) (hm : (m == 4503599627370496) = false) (be : 0 ≤ e ∧ e ≤ 972) (b : Int) (bb : 0 ≤ b ∧ b ≤ 64) (HL : Hid (∀ w, Calls Try.prog 101 #[.int .u64 (m)] w fun e w' => e = .returned (.int .i64 b) ∧ w = w')) (g2 : decide (127 < b + e) = true) (w : World) : Calls Try.prog 55 #[.int .u64 a] w fun e w' => e = .returned (.tuple #[.int .i64 (0), .int .i64 (0), .int .i64 (-43)]) ∧ Below w.heap.size w w' := by
  go_enter Try.func55, Try.ntmps55
  go_wp2_with (first
    | (go_at_call 62; (with_reducible refine (N1.out _).mono ?_); rintro e1 w1 ⟨rfl, rfl⟩)
    | (go_at_call 63; (with_reducible refine (I1.out _).mono ?_); rintro e1 w1 ⟨rfl, rfl⟩)
    | (go_at_call 40; (with_reducible refine (HT.out _).mono ?_); rintro e1 w1 ⟨rfl, hb1⟩)
    | (go_at_call 67; (with_reducible refine (HSA.out _).mono ?_); rintro e2 w2 ⟨rfl, hb2⟩))
  go_quiet ((go_at_call 101; exact quiet_left (HL.out _)))
  go_wp2
  go_ret3
  exact ⟨rfl, by repeat (first | exact (bt hb1 hb2).alloc (bt hb1 hb2).size _ | refine below_drewN ?_ _)⟩
set_option maxRecDepth 100000 in
set_option maxHeartbeats 2000000 in
theorem to_zp2 (a t : Nat) (N1 : Hid (PB 62 a false)) (I1 : Hid (PB 63 a false)) (HT : Hid (∀ w, Calls Try.prog 40 #[.int .u64 a] w fun e w' => e = .returned (.int .u64 t) ∧ Below w.heap.size w w')) (m : Int) (HSA : Hid (PSplit t true m (0))) (bm : 4503599627370496 ≤ m ∧ m < 9007199254740992) (g1 : decide (0 < m) = true) (hm : (m == 4503599627370496) = true) (b : Int) (bb : 0 ≤ b ∧ b ≤ 64) (HL : Hid (∀ w, Calls Try.prog 101 #[.int .u64 (m)] w fun e w' => e = .returned (.int .i64 b) ∧ w = w')) (g2 : decide (127 < b) = false) (l2 b1 h2 b2 : Int) (C1 : ∀ w, (callFunc 86 #[.int .u64 0, .int .u64 (m), .int .u64 0]).run Try.prog w = .ok (.value (.tuple #[.int .u64 l2, .int .u64 b1])) w) (C2 : ∀ w, (callFunc 86 #[.int .u64 0, .int .u64 (0), .int .u64 b1]).run Try.prog w = .ok (.value (.tuple #[.int .u64 h2, .int .u64 b2])) w) (r0 r1 : Int) (Q0 : IntKind.i64.wrap (l2) = r0) (Q1 : IntKind.i64.wrap (h2) = r1) (w : World) : Calls Try.prog 55 #[.int .u64 a] w fun e w' => e = .returned (.tuple #[.int .i64 (r0), .int .i64 (r1), .int .i64 (0)]) ∧ Below w.heap.size w w' := by
  go_enter Try.func55, Try.ntmps55
  go_wp2_with (first
    | (go_at_call 62; (with_reducible refine (N1.out _).mono ?_); rintro e1 w1 ⟨rfl, rfl⟩)
    | (go_at_call 63; (with_reducible refine (I1.out _).mono ?_); rintro e1 w1 ⟨rfl, rfl⟩)
    | (go_at_call 40; (with_reducible refine (HT.out _).mono ?_); rintro e1 w1 ⟨rfl, hb1⟩)
    | (go_at_call 67; (with_reducible refine (HSA.out _).mono ?_); rintro e2 w2 ⟨rfl, hb2⟩))
  go_quiet ((go_at_call 101; exact quiet_left (HL.out _)))
  go_wp2
  go_quiet (fail)
  go_wp2
  go_ret3
  exact ⟨rfl, by repeat (first | exact (bt hb1 hb2).alloc (bt hb1 hb2).size _ | refine below_drewN ?_ _)⟩
set_option maxRecDepth 100000 in
set_option maxHeartbeats 2000000 in
theorem to_lp2 (a t : Nat) (N1 : Hid (PB 62 a false)) (I1 : Hid (PB 63 a false)) (HT : Hid (∀ w, Calls Try.prog 40 #[.int .u64 a] w fun e w' => e = .returned (.int .u64 t) ∧ Below w.heap.size w w')) (m e : Int) (HSA : Hid (PSplit t true m (e))) (he : -1074 ≤ e ∧ e < 0) (k : Nat) (hk : min (-e) 63 = (k : Int)) (bm : 0 ≤ m ∧ m < 9007199254740992) (x : Int) (hv : m / 2 ^ k = x) (bx : 0 ≤ x ∧ x < 9007199254740992) (g1 : decide (0 < x) = true) (hm : (x == 4503599627370496) = true) (b : Int) (bb : 0 ≤ b ∧ b ≤ 64) (HL : Hid (∀ w, Calls Try.prog 101 #[.int .u64 (x)] w fun e w' => e = .returned (.int .i64 b) ∧ w = w')) (g2 : decide (127 < b) = false) (l2 b1 h2 b2 : Int) (C1 : ∀ w, (callFunc 86 #[.int .u64 0, .int .u64 (x), .int .u64 0]).run Try.prog w = .ok (.value (.tuple #[.int .u64 l2, .int .u64 b1])) w) (C2 : ∀ w, (callFunc 86 #[.int .u64 0, .int .u64 (0), .int .u64 b1]).run Try.prog w = .ok (.value (.tuple #[.int .u64 h2, .int .u64 b2])) w) (r0 r1 : Int) (Q0 : IntKind.i64.wrap (l2) = r0) (Q1 : IntKind.i64.wrap (h2) = r1) (w : World) : Calls Try.prog 55 #[.int .u64 a] w fun e w' => e = .returned (.tuple #[.int .i64 (r0), .int .i64 (r1), .int .i64 (0)]) ∧ Below w.heap.size w w' := by
  go_enter Try.func55, Try.ntmps55
  go_wp2_with (first
    | (go_at_call 62; (with_reducible refine (N1.out _).mono ?_); rintro e1 w1 ⟨rfl, rfl⟩)
    | (go_at_call 63; (with_reducible refine (I1.out _).mono ?_); rintro e1 w1 ⟨rfl, rfl⟩)
    | (go_at_call 40; (with_reducible refine (HT.out _).mono ?_); rintro e1 w1 ⟨rfl, hb1⟩)
    | (go_at_call 67; (with_reducible refine (HSA.out _).mono ?_); rintro e2 w2 ⟨rfl, hb2⟩))
  go_quiet ((go_at_call 101; exact quiet_left (HL.out _)))
  go_wp2
  go_quiet (fail)
  go_wp2
  go_ret3
  exact ⟨rfl, by repeat (first | exact (bt hb1 hb2).alloc (bt hb1 hb2).size _ | refine below_drewN ?_ _)⟩
set_option maxRecDepth 100000 in
set_option maxHeartbeats 2000000 in
theorem to_mp2 (a t : Nat) (N1 : Hid (PB 62 a false)) (I1 : Hid (PB 63 a false)) (HT : Hid (∀ w, Calls Try.prog 40 #[.int .u64 a] w fun e w' => e = .returned (.int .u64 t) ∧ Below w.heap.size w w')) (m : Int) (n1 n2 : Nat) (HSA : Hid (PSplit t true m ((n2 : Int)))) (bm : 4503599627370496 ≤ m ∧ m < 9007199254740992) (g1 : decide (0 < m) = true) (hm : (m == 4503599627370496) = true) (be : 0 < n2 ∧ n2 < 64) (hn : (64 : Int) - n2 = (n1 : Int)) (h l : Int) (HH : m / 2 ^ n1 = h) (LL : IntKind.u64.wrap (m * 2 ^ n2) = l) (he : ((n2 : Int) == 75) = false) (b : Int) (bb : 0 ≤ b ∧ b ≤ 64) (HL : Hid (∀ w, Calls Try.prog 101 #[.int .u64 (m)] w fun e w' => e = .returned (.int .i64 b) ∧ w = w')) (g2 : decide (127 < b + (n2 : Int)) = false) (l2 b1 h2 b2 : Int) (C1 : ∀ w, (callFunc 86 #[.int .u64 0, .int .u64 (l), .int .u64 0]).run Try.prog w = .ok (.value (.tuple #[.int .u64 l2, .int .u64 b1])) w) (C2 : ∀ w, (callFunc 86 #[.int .u64 0, .int .u64 (h), .int .u64 b1]).run Try.prog w = .ok (.value (.tuple #[.int .u64 h2, .int .u64 b2])) w) (r0 r1 : Int) (Q0 : IntKind.i64.wrap (l2) = r0) (Q1 : IntKind.i64.wrap (h2) = r1) (w : World) : Calls Try.prog 55 #[.int .u64 a] w fun e w' => e = .returned (.tuple #[.int .i64 (r0), .int .i64 (r1), .int .i64 (0)]) ∧ Below w.heap.size w w' := by
  go_enter Try.func55, Try.ntmps55
  go_wp2_with (first
    | (go_at_call 62; (with_reducible refine (N1.out _).mono ?_); rintro e1 w1 ⟨rfl, rfl⟩)
    | (go_at_call 63; (with_reducible refine (I1.out _).mono ?_); rintro e1 w1 ⟨rfl, rfl⟩)
    | (go_at_call 40; (with_reducible refine (HT.out _).mono ?_); rintro e1 w1 ⟨rfl, hb1⟩)
    | (go_at_call 67; (with_reducible refine (HSA.out _).mono ?_); rintro e2 w2 ⟨rfl, hb2⟩))
  go_quiet ((go_at_call 101; exact quiet_left (HL.out _)))
  go_wp2
  go_quiet (fail)
  go_wp2
  go_quiet (fail)
  go_wp2
  go_ret3
  exact ⟨rfl, by repeat (first | exact (bt hb1 hb2).alloc (bt hb1 hb2).size _ | refine below_drewN ?_ _)⟩
set_option maxRecDepth 100000 in
set_option maxHeartbeats 2000000 in
theorem to_hp2 (a t : Nat) (N1 : Hid (PB 62 a false)) (I1 : Hid (PB 63 a false)) (HT : Hid (∀ w, Calls Try.prog 40 #[.int .u64 a] w fun e w' => e = .returned (.int .u64 t) ∧ Below w.heap.size w w')) (m e : Int) (HSA : Hid (PSplit t true m (e))) (bm : 4503599627370496 ≤ m ∧ m < 9007199254740992) (g1 : decide (0 < m) = true) (hm : (m == 4503599627370496) = true) (be : 64 ≤ e ∧ e ≤ 75) (n1 : Nat) (hn : e - 64 = (n1 : Int)) (h : Int) (HH : IntKind.u64.wrap (m * 2 ^ n1) = h) (he : (e == 75) = false) (b : Int) (bb : 0 ≤ b ∧ b ≤ 64) (HL : Hid (∀ w, Calls Try.prog 101 #[.int .u64 (m)] w fun e w' => e = .returned (.int .i64 b) ∧ w = w')) (g2 : decide (127 < b + e) = false) (l2 b1 h2 b2 : Int) (C1 : ∀ w, (callFunc 86 #[.int .u64 0, .int .u64 (0), .int .u64 0]).run Try.prog w = .ok (.value (.tuple #[.int .u64 l2, .int .u64 b1])) w) (C2 : ∀ w, (callFunc 86 #[.int .u64 0, .int .u64 (h), .int .u64 b1]).run Try.prog w = .ok (.value (.tuple #[.int .u64 h2, .int .u64 b2])) w) (r0 r1 : Int) (Q0 : IntKind.i64.wrap (l2) = r0) (Q1 : IntKind.i64.wrap (h2) = r1) (w : World) : Calls Try.prog 55 #[.int .u64 a] w fun e w' => e = .returned (.tuple #[.int .i64 (r0), .int .i64 (r1), .int .i64 (0)]) ∧ Below w.heap.size w w' := by
  go_enter Try.func55, Try.ntmps55
  go_wp2_with (first
    | (go_at_call 62; (with_reducible refine (N1.out _).mono ?_); rintro e1 w1 ⟨rfl, rfl⟩)
    | (go_at_call 63; (with_reducible refine (I1.out _).mono ?_); rintro e1 w1 ⟨rfl, rfl⟩)
    | (go_at_call 40; (with_reducible refine (HT.out _).mono ?_); rintro e1 w1 ⟨rfl, hb1⟩)
    | (go_at_call 67; (with_reducible refine (HSA.out _).mono ?_); rintro e2 w2 ⟨rfl, hb2⟩))
  go_quiet ((go_at_call 101; exact quiet_left (HL.out _)))
  go_wp2
  go_quiet (fail)
  go_wp2
  go_ret3
  exact ⟨rfl, by repeat (first | exact (bt hb1 hb2).alloc (bt hb1 hb2).size _ | refine below_drewN ?_ _)⟩
set_option maxRecDepth 100000 in
set_option maxHeartbeats 2000000 in
theorem to_fp2 (a t : Nat) (N1 : Hid (PB 62 a false)) (I1 : Hid (PB 63 a false)) (HT : Hid (∀ w, Calls Try.prog 40 #[.int .u64 a] w fun e w' => e = .returned (.int .u64 t) ∧ Below w.heap.size w w')) (m e : Int) (HSA : Hid (PSplit t true m (e))) (bm : 4503599627370496 ≤ m ∧ m < 9007199254740992) (g1 : decide (0 < m) = true) (hm : (m == 4503599627370496) = true) (be : 0 ≤ e ∧ e ≤ 972) (he : (e == 75) = false) (b : Int) (bb : 0 ≤ b ∧ b ≤ 64) (HL : Hid (∀ w, Calls Try.prog 101 #[.int .u64 (m)] w fun e w' => e = .returned (.int .i64 b) ∧ w = w')) (g2 : decide (127 < b + e) = true) (w : World) : Calls Try.prog 55 #[.int .u64 a] w fun e w' => e = .returned (.tuple #[.int .i64 (0), .int .i64 (0), .int .i64 (-43)]) ∧ Below w.heap.size w w' := by
  go_enter Try.func55, Try.ntmps55
  go_wp2_with (first
    | (go_at_call 62; (with_reducible refine (N1.out _).mono ?_); rintro e1 w1 ⟨rfl, rfl⟩)
    | (go_at_call 63; (with_reducible refine (I1.out _).mono ?_); rintro e1 w1 ⟨rfl, rfl⟩)
    | (go_at_call 40; (with_reducible refine (HT.out _).mono ?_); rintro e1 w1 ⟨rfl, hb1⟩)
    | (go_at_call 67; (with_reducible refine (HSA.out _).mono ?_); rintro e2 w2 ⟨rfl, hb2⟩))
  go_quiet ((go_at_call 101; exact quiet_left (HL.out _)))
  go_wp2
  go_ret3
  exact ⟨rfl, by repeat (first | exact (bt hb1 hb2).alloc (bt hb1 hb2).size _ | refine below_drewN ?_ _)⟩
set_option maxRecDepth 100000 in
set_option maxHeartbeats 2000000 in
theorem to_edge (a t : Nat) (N1 : Hid (PB 62 a false)) (I1 : Hid (PB 63 a false)) (HT : Hid (∀ w, Calls Try.prog 40 #[.int .u64 a] w fun e w' => e = .returned (.int .u64 t) ∧ Below w.heap.size w w')) (m : Int) (HSA : Hid (PSplit t true m (75))) (bm : 4503599627370496 ≤ m ∧ m < 9007199254740992) (g1 : decide (0 < m) = true) (hm : (m == 4503599627370496) = true) (h : Int) (HH : IntKind.u64.wrap (m * 2048) = h) (b : Int) (bb : 0 ≤ b ∧ b ≤ 64) (HL : Hid (∀ w, Calls Try.prog 101 #[.int .u64 (m)] w fun e w' => e = .returned (.int .i64 b) ∧ w = w')) (g2 : decide (127 < b + 75) = true) (l2 b1 h2 b2 : Int) (C1 : ∀ w, (callFunc 86 #[.int .u64 0, .int .u64 (0), .int .u64 0]).run Try.prog w = .ok (.value (.tuple #[.int .u64 l2, .int .u64 b1])) w) (C2 : ∀ w, (callFunc 86 #[.int .u64 0, .int .u64 (h), .int .u64 b1]).run Try.prog w = .ok (.value (.tuple #[.int .u64 h2, .int .u64 b2])) w) (r0 r1 : Int) (Q0 : IntKind.i64.wrap (l2) = r0) (Q1 : IntKind.i64.wrap (h2) = r1) (w : World) : Calls Try.prog 55 #[.int .u64 a] w fun e w' => e = .returned (.tuple #[.int .i64 (r0), .int .i64 (r1), .int .i64 (0)]) ∧ Below w.heap.size w w' := by
  go_enter Try.func55, Try.ntmps55
  go_wp2_with (first
    | (go_at_call 62; (with_reducible refine (N1.out _).mono ?_); rintro e1 w1 ⟨rfl, rfl⟩)
    | (go_at_call 63; (with_reducible refine (I1.out _).mono ?_); rintro e1 w1 ⟨rfl, rfl⟩)
    | (go_at_call 40; (with_reducible refine (HT.out _).mono ?_); rintro e1 w1 ⟨rfl, hb1⟩)
    | (go_at_call 67; (with_reducible refine (HSA.out _).mono ?_); rintro e2 w2 ⟨rfl, hb2⟩))
  go_quiet ((go_at_call 101; exact quiet_left (HL.out _)))
  go_wp2
  go_quiet (fail)
  go_wp2
  go_ret3
  exact ⟨rfl, by repeat (first | exact (bt hb1 hb2).alloc (bt hb1 hb2).size _ | refine below_drewN ?_ _)⟩
end Go.Proofs.Ytecgkhijiogggaa
