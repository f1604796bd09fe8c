/- Texts Y8 Y9 Z0 Z2, for this seat. -/
import Derived.Test.YtkifdppppihjcaaGreatQ
namespace Go.Proofs.YtkifdppppihjcaaGreat
set_option linter.unusedVariables false
set_option linter.unusedSimpArgs false
open Go.RowKit Go.Shelf SF
set_option maxRecDepth 100000 in
set_option maxHeartbeats 2000000 in
theorem rwhole_n1 (a : Nat) (how : Int) (N1 : Hid (PB 64 a true)) (w : World) : Calls Tryz.prog 117 #[.int .u64 a, .int .i64 how] w fun e w' => e = .returned (.int .u64 (9221120237041090560)) ∧ Below w.heap.size w w' := by
  go_enter Tryz.func117, Tryz.ntmps117
  go_wp2_with (first
    | (go_at_call 64; (with_reducible refine (N1.out _).mono ?_); rintro e1 w1 ⟨rfl, rfl⟩))
  go_ret
  exact ⟨rfl, Below.refl _ _⟩
set_option maxRecDepth 100000 in
set_option maxHeartbeats 2000000 in
theorem rwhole_i1 (a : Nat) (how : Int) (N1 : Hid (PB 64 a false)) (I1 : Hid (PB 99 a true)) (w : World) : Calls Tryz.prog 117 #[.int .u64 a, .int .i64 how] w fun e w' => e = .returned (.int .u64 ((a : Int))) ∧ Below w.heap.size w w' := by
  go_enter Tryz.func117, Tryz.ntmps117
  go_wp2_with (first
    | (go_at_call 64; (with_reducible refine (N1.out _).mono ?_); rintro e1 w1 ⟨rfl, rfl⟩)
    | (go_at_call 99; (with_reducible refine (I1.out _).mono ?_); rintro e1 w1 ⟨rfl, rfl⟩))
  go_ret
  exact ⟨rfl, Below.refl _ _⟩
set_option maxRecDepth 100000 in
set_option maxHeartbeats 2000000 in
theorem rwhole_z1 (a : Nat) (how : Int) (N1 : Hid (PB 64 a false)) (I1 : Hid (PB 99 a false)) (Z1 : Hid (PB 61 a true)) (w : World) : Calls Tryz.prog 117 #[.int .u64 a, .int .i64 how] w fun e w' => e = .returned (.int .u64 ((a : Int))) ∧ Below w.heap.size w w' := by
  go_enter Tryz.func117, Tryz.ntmps117
  go_wp2_with (first
    | (go_at_call 64; (with_reducible refine (N1.out _).mono ?_); rintro e1 w1 ⟨rfl, rfl⟩)
    | (go_at_call 99; (with_reducible refine (I1.out _).mono ?_); rintro e1 w1 ⟨rfl, rfl⟩)
    | (go_at_call 61; (with_reducible refine (Z1.out _).mono ?_); rintro e1 w1 ⟨rfl, rfl⟩))
  go_ret
  exact ⟨rfl, Below.refl _ _⟩
set_option maxRecDepth 100000 in
set_option maxHeartbeats 2000000 in
theorem rwhole_e (a : Nat) (how : Int) (N1 : Hid (PB 64 a false)) (I1 : Hid (PB 99 a false)) (Z1 : Hid (PB 61 a false)) (p : Bool) (A : Nat) (e : Int) (SA : Hid (∀ w, Calls Tryz.prog 119 #[.int .u64 a] w (Sp w p A e))) (he : 0 ≤ e) (w : World) : Calls Tryz.prog 117 #[.int .u64 a, .int .i64 how] w fun e w' => e = .returned (.int .u64 (a : Int)) ∧ Below w.heap.size w w' := by
  go_enter Tryz.func117, Tryz.ntmps117
  go_wp2_with (first
    | (go_at_call 64; (with_reducible refine (N1.out _).mono ?_); rintro e1 w1 ⟨rfl, rfl⟩)
    | (go_at_call 99; (with_reducible refine (I1.out _).mono ?_); rintro e1 w1 ⟨rfl, rfl⟩)
    | (go_at_call 61; (with_reducible refine (Z1.out _).mono ?_); rintro e1 w1 ⟨rfl, rfl⟩)
    | (go_at_call 119; (with_reducible refine (SA.out _).mono ?_); rintro e1 w1 ⟨a1, n1, c1, rfl, hv1, hb1⟩))
  go_ret
  exact ⟨rfl, hb1⟩
set_option maxRecDepth 100000 in
set_option maxHeartbeats 2000000 in
theorem rwhole_0t (a : Nat) (N1 : Hid (PB 64 a false)) (I1 : Hid (PB 99 a false)) (Z1 : Hid (PB 61 a false)) (p : Bool) (A : Nat) (e : Int) (SA : Hid (∀ w, Calls Tryz.prog 119 #[.int .u64 a] w (Sp w p A e))) (he : -1074 ≤ e ∧ e < 0) (c R : Int) (hc : -e = c) (Kz : Int) (K Bk Rt : Nat) (HS1 : Hid (∀ (w1 : World) (a1 : Option Addr) (n1 c1 : Nat), Nw w1 (.slice a1 n1 c1) (A) → Calls Tryz.prog 120 #[.slice a1 n1 c1, .int .i64 (e)] w1 (OneOk w1 (K)))) (HS2 : Hid (∀ (w1 : World) (a1 : Option Addr) (n1 c1 : Nat), Nw w1 (.slice a1 n1 c1) (K) → Calls Tryz.prog 120 #[.slice a1 n1 c1, .int .i64 (c)] w1 (OneOk w1 (Bk)))) (HD : Hid (∀ (w1 : World) (a1 : Option Addr) (n1 c1 : Nat) (a2 : Option Addr) (n2 c2 : Nat), Nw w1 (.slice a1 n1 c1) (A) → Nw w1 (.slice a2 n2 c2) (Bk) → Calls Tryz.prog 151 #[.slice a1 n1 c1, .slice a2 n2 c2] w1 (OneOk w1 Rt))) (HM : Hid (∀ (w1 : World) (a1 : Option Addr) (n1 c1 : Nat), Nw w1 (.slice a1 n1 c1) (K) → Calls Tryz.prog 134 #[.bool (p), .slice a1 n1 c1, .int .i64 (0)] w1 fun e w' => e = .returned (.int .u64 R) ∧ Below w1.heap.size w1 w')) (w : World) : Calls Tryz.prog 117 #[.int .u64 a, .int .i64 0] w fun e w' => e = .returned (.int .u64 R) ∧ Below w.heap.size w w' := by
  go_enter Tryz.func117, Tryz.ntmps117
  go_wp2_with (first
    | (go_at_call 64; (with_reducible refine (N1.out _).mono ?_); rintro e1 w1 ⟨rfl, rfl⟩)
    | (go_at_call 99; (with_reducible refine (I1.out _).mono ?_); rintro e1 w1 ⟨rfl, rfl⟩)
    | (go_at_call 61; (with_reducible refine (Z1.out _).mono ?_); rintro e1 w1 ⟨rfl, rfl⟩)
    | (go_at_call 119; (with_reducible refine (SA.out _).mono ?_); rintro e1 w1 ⟨a1, n1, c1, rfl, hv1, hb1⟩)
    | (go_at_call 120; (with_reducible refine (HS1.out _ _ _ _ hv1).mono ?_); rintro e2 w2 ⟨a2, n2, c2, rfl, hv2, hb2⟩)
    | (go_at_call 120; (with_reducible refine (HS2.out _ _ _ _ hv2).mono ?_); rintro e3 w3 ⟨a3, n3, c3, rfl, hv3, hb3⟩)
    | (go_at_call 151; (with_reducible refine (HD.out _ _ _ _ _ _ _ (hv1.below (btn hb2 hb3)) hv3).mono ?_); rintro e4 w4 ⟨a4, n4, c4, rfl, hv4, hb4⟩)
    | (go_at_call 134; (with_reducible refine (HM.out _ _ _ _ (hv2.below (btn hb3 hb4))).mono ?_); rintro e11 w11 ⟨rfl, hb11⟩))
  go_ret
  exact ⟨rfl, btn hb1 (btn hb2 (btn hb3 (btn hb4 hb11)))⟩
set_option maxRecDepth 100000 in
set_option maxHeartbeats 2000000 in
theorem rwhole_2gt (a : Nat) (N1 : Hid (PB 64 a false)) (I1 : Hid (PB 99 a false)) (Z1 : Hid (PB 61 a false)) (p : Bool) (A : Nat) (e : Int) (SA : Hid (∀ w, Calls Tryz.prog 119 #[.int .u64 a] w (Sp w p A e))) (he : -1074 ≤ e ∧ e < 0) (c R : Int) (hc : -e = c) (Kz : Int) (K Bk Rt : Nat) (HS1 : Hid (∀ (w1 : World) (a1 : Option Addr) (n1 c1 : Nat), Nw w1 (.slice a1 n1 c1) (A) → Calls Tryz.prog 120 #[.slice a1 n1 c1, .int .i64 (e)] w1 (OneOk w1 (K)))) (HS2 : Hid (∀ (w1 : World) (a1 : Option Addr) (n1 c1 : Nat), Nw w1 (.slice a1 n1 c1) (K) → Calls Tryz.prog 120 #[.slice a1 n1 c1, .int .i64 (c)] w1 (OneOk w1 (Bk)))) (HD : Hid (∀ (w1 : World) (a1 : Option Addr) (n1 c1 : Nat) (a2 : Option Addr) (n2 c2 : Nat), Nw w1 (.slice a1 n1 c1) (A) → Nw w1 (.slice a2 n2 c2) (Bk) → Calls Tryz.prog 151 #[.slice a1 n1 c1, .slice a2 n2 c2] w1 (OneOk w1 Rt))) (Hf : Nat) (t : Int) (ht : 0 < t) (HOf : Hid (∀ w1, Calls Tryz.prog 122 #[.int .u64 1] w1 (One w1 1))) (HS3 : Hid (∀ (w1 : World) (a1 : Option Addr) (n1 c1 : Nat), Nw w1 (.slice a1 n1 c1) (1) → Calls Tryz.prog 120 #[.slice a1 n1 c1, .int .i64 (c - 1)] w1 (OneOk w1 (Hf)))) (HC : Hid (∀ (w1 : World) (a1 : Option Addr) (n1 c1 : Nat) (a2 : Option Addr) (n2 c2 : Nat), Nw w1 (.slice a1 n1 c1) (Rt) → Nw w1 (.slice a2 n2 c2) (Hf) → Calls Tryz.prog 123 #[.slice a1 n1 c1, .slice a2 n2 c2] w1 fun e w' => e = .returned (.int .i64 t) ∧ Below w1.heap.size w1 w')) (HL : Hid (∀ (w1 : World) (a1 : Option Addr) (n1 c1 : Nat), Nw w1 (.slice a1 n1 c1) K → Calls Tryz.prog 124 #[.slice a1 n1 c1] w1 fun e w' => e = .returned (.int .u64 Kz) ∧ w1 = w')) (HA : Hid (∀ (w1 : World) (a1 : Option Addr) (n1 c1 : Nat) (a2 : Option Addr) (n2 c2 : Nat), Nw w1 (.slice a1 n1 c1) (K) → Nw w1 (.slice a2 n2 c2) (1) → Calls Tryz.prog 146 #[.slice a1 n1 c1, .slice a2 n2 c2] w1 (One w1 (K + 1)))) (HM : Hid (∀ (w1 : World) (a1 : Option Addr) (n1 c1 : Nat), Nw w1 (.slice a1 n1 c1) (K + 1) → Calls Tryz.prog 134 #[.bool (p), .slice a1 n1 c1, .int .i64 (0)] w1 fun e w' => e = .returned (.int .u64 R) ∧ Below w1.heap.size w1 w')) (w : World) : Calls Tryz.prog 117 #[.int .u64 a, .int .i64 2] w fun e w' => e = .returned (.int .u64 R) ∧ Below w.heap.size w w' := by
  go_enter Tryz.func117, Tryz.ntmps117
  go_wp2_with (first
    | (go_at_call 64; (with_reducible refine (N1.out _).mono ?_); rintro e1 w1 ⟨rfl, rfl⟩)
    | (go_at_call 99; (with_reducible refine (I1.out _).mono ?_); rintro e1 w1 ⟨rfl, rfl⟩)
    | (go_at_call 61; (with_reducible refine (Z1.out _).mono ?_); rintro e1 w1 ⟨rfl, rfl⟩)
    | (go_at_call 119; (with_reducible refine (SA.out _).mono ?_); rintro e1 w1 ⟨a1, n1, c1, rfl, hv1, hb1⟩)
    | (go_at_call 120; (with_reducible refine (HS1.out _ _ _ _ hv1).mono ?_); rintro e2 w2 ⟨a2, n2, c2, rfl, hv2, hb2⟩)
    | (go_at_call 120; (with_reducible refine (HS2.out _ _ _ _ hv2).mono ?_); rintro e3 w3 ⟨a3, n3, c3, rfl, hv3, hb3⟩)
    | (go_at_call 151; (with_reducible refine (HD.out _ _ _ _ _ _ _ (hv1.below (btn hb2 hb3)) hv3).mono ?_); rintro e4 w4 ⟨a4, n4, c4, rfl, hv4, hb4⟩)
    | (go_at_call 122; (with_reducible refine (HOf.out _).mono ?_); rintro e5 w5 ⟨a5, n5, c5, rfl, hv5, hb5⟩)
    | (go_at_call 120; (with_reducible refine (HS3.out _ _ _ _ hv5).mono ?_); rintro e6 w6 ⟨a6, n6, c6, rfl, hv6, hb6⟩; have hb8 := hb5; clear hv5 hb5)
    | (go_at_call 123; (with_reducible refine (HC.out _ _ _ _ _ _ _ (hv4.below (btn hb8 hb6)) hv6).mono ?_); rintro e7 w7 ⟨rfl, hb7⟩)
    | (go_at_call 124; (with_reducible refine (HL.out _ _ _ _ (hv2.below (btn hb3 (btn hb4 (btn hb8 (btn hb6 hb7)))))).mono ?_); rintro e8 w8 ⟨rfl, rfl⟩)
    | (go_at_call 146; (with_reducible refine (HA.out _ _ _ _ _ _ _ (hv2.below (btn hb3 (btn hb4 (btn hb8 (btn hb6 (btn hb7 hb5)))))) hv5).mono ?_); rintro e10 w10 ⟨a10, n10, c10, rfl, hv10, hb10⟩)
    | (go_at_call 134; (with_reducible refine (HM.out _ _ _ _ hv10).mono ?_); rintro e11 w11 ⟨rfl, hb11⟩))
  go_ret
  exact ⟨rfl, btn hb1 (btn hb2 (btn hb3 (btn hb4 (btn hb8 (btn hb6 (btn hb7 (btn hb5 (btn hb10 hb11))))))))⟩
set_option maxRecDepth 100000 in
set_option maxHeartbeats 2000000 in
theorem rwhole_2odd (a : Nat) (N1 : Hid (PB 64 a false)) (I1 : Hid (PB 99 a false)) (Z1 : Hid (PB 61 a false)) (p : Bool) (A : Nat) (e : Int) (SA : Hid (∀ w, Calls Tryz.prog 119 #[.int .u64 a] w (Sp w p A e))) (he : -1074 ≤ e ∧ e < 0) (c R : Int) (hc : -e = c) (Kz : Int) (K Bk Rt : Nat) (HS1 : Hid (∀ (w1 : World) (a1 : Option Addr) (n1 c1 : Nat), Nw w1 (.slice a1 n1 c1) (A) → Calls Tryz.prog 120 #[.slice a1 n1 c1, .int .i64 (e)] w1 (OneOk w1 (K)))) (HS2 : Hid (∀ (w1 : World) (a1 : Option Addr) (n1 c1 : Nat), Nw w1 (.slice a1 n1 c1) (K) → Calls Tryz.prog 120 #[.slice a1 n1 c1, .int .i64 (c)] w1 (OneOk w1 (Bk)))) (HD : Hid (∀ (w1 : World) (a1 : Option Addr) (n1 c1 : Nat) (a2 : Option Addr) (n2 c2 : Nat), Nw w1 (.slice a1 n1 c1) (A) → Nw w1 (.slice a2 n2 c2) (Bk) → Calls Tryz.prog 151 #[.slice a1 n1 c1, .slice a2 n2 c2] w1 (OneOk w1 Rt))) (Hf : Nat) (t : Int) (ht : t = 0) (ho : (bits .and .u64 Kz 1 == 1) = true) (HOf : Hid (∀ w1, Calls Tryz.prog 122 #[.int .u64 1] w1 (One w1 1))) (HS3 : Hid (∀ (w1 : World) (a1 : Option Addr) (n1 c1 : Nat), Nw w1 (.slice a1 n1 c1) (1) → Calls Tryz.prog 120 #[.slice a1 n1 c1, .int .i64 (c - 1)] w1 (OneOk w1 (Hf)))) (HC : Hid (∀ (w1 : World) (a1 : Option Addr) (n1 c1 : Nat) (a2 : Option Addr) (n2 c2 : Nat), Nw w1 (.slice a1 n1 c1) (Rt) → Nw w1 (.slice a2 n2 c2) (Hf) → Calls Tryz.prog 123 #[.slice a1 n1 c1, .slice a2 n2 c2] w1 fun e w' => e = .returned (.int .i64 t) ∧ Below w1.heap.size w1 w')) (HL : Hid (∀ (w1 : World) (a1 : Option Addr) (n1 c1 : Nat), Nw w1 (.slice a1 n1 c1) K → Calls Tryz.prog 124 #[.slice a1 n1 c1] w1 fun e w' => e = .returned (.int .u64 Kz) ∧ w1 = w')) (HA : Hid (∀ (w1 : World) (a1 : Option Addr) (n1 c1 : Nat) (a2 : Option Addr) (n2 c2 : Nat), Nw w1 (.slice a1 n1 c1) (K) → Nw w1 (.slice a2 n2 c2) (1) → Calls Tryz.prog 146 #[.slice a1 n1 c1, .slice a2 n2 c2] w1 (One w1 (K + 1)))) (HM : Hid (∀ (w1 : World) (a1 : Option Addr) (n1 c1 : Nat), Nw w1 (.slice a1 n1 c1) (K + 1) → Calls Tryz.prog 134 #[.bool (p), .slice a1 n1 c1, .int .i64 (0)] w1 fun e w' => e = .returned (.int .u64 R) ∧ Below w1.heap.size w1 w')) (w : World) : Calls Tryz.prog 117 #[.int .u64 a, .int .i64 2] w fun e w' => e = .returned (.int .u64 R) ∧ Below w.heap.size w w' := by
  go_enter Tryz.func117, Tryz.ntmps117
  go_wp2_with (first
    | (go_at_call 64; (with_reducible refine (N1.out _).mono ?_); rintro e1 w1 ⟨rfl, rfl⟩)
    | (go_at_call 99; (with_reducible refine (I1.out _).mono ?_); rintro e1 w1 ⟨rfl, rfl⟩)
    | (go_at_call 61; (with_reducible refine (Z1.out _).mono ?_); rintro e1 w1 ⟨rfl, rfl⟩)
    | (go_at_call 119; (with_reducible refine (SA.out _).mono ?_); rintro e1 w1 ⟨a1, n1, c1, rfl, hv1, hb1⟩)
    | (go_at_call 120; (with_reducible refine (HS1.out _ _ _ _ hv1).mono ?_); rintro e2 w2 ⟨a2, n2, c2, rfl, hv2, hb2⟩)
    | (go_at_call 120; (with_reducible refine (HS2.out _ _ _ _ hv2).mono ?_); rintro e3 w3 ⟨a3, n3, c3, rfl, hv3, hb3⟩)
    | (go_at_call 151; (with_reducible refine (HD.out _ _ _ _ _ _ _ (hv1.below (btn hb2 hb3)) hv3).mono ?_); rintro e4 w4 ⟨a4, n4, c4, rfl, hv4, hb4⟩)
    | (go_at_call 122; (with_reducible refine (HOf.out _).mono ?_); rintro e5 w5 ⟨a5, n5, c5, rfl, hv5, hb5⟩)
    | (go_at_call 120; (with_reducible refine (HS3.out _ _ _ _ hv5).mono ?_); rintro e6 w6 ⟨a6, n6, c6, rfl, hv6, hb6⟩; have hb8 := hb5; clear hv5 hb5)
    | (go_at_call 123; (with_reducible refine (HC.out _ _ _ _ _ _ _ (hv4.below (btn hb8 hb6)) hv6).mono ?_); rintro e7 w7 ⟨rfl, hb7⟩)
    | (go_at_call 124; (with_reducible refine (HL.out _ _ _ _ (hv2.below (btn hb3 (btn hb4 (btn hb8 (btn hb6 hb7)))))).mono ?_); rintro e8 w8 ⟨rfl, rfl⟩)
    | (go_at_call 146; (with_reducible refine (HA.out _ _ _ _ _ _ _ (hv2.below (btn hb3 (btn hb4 (btn hb8 (btn hb6 (btn hb7 hb5)))))) hv5).mono ?_); rintro e10 w10 ⟨a10, n10, c10, rfl, hv10, hb10⟩)
    | (go_at_call 134; (with_reducible refine (HM.out _ _ _ _ hv10).mono ?_); rintro e11 w11 ⟨rfl, hb11⟩))
  go_ret
  exact ⟨rfl, btn hb1 (btn hb2 (btn hb3 (btn hb4 (btn hb8 (btn hb6 (btn hb7 (btn hb5 (btn hb10 hb11))))))))⟩
set_option maxRecDepth 100000 in
set_option maxHeartbeats 2000000 in
theorem rwhole_2even (a : Nat) (N1 : Hid (PB 64 a false)) (I1 : Hid (PB 99 a false)) (Z1 : Hid (PB 61 a false)) (p : Bool) (A : Nat) (e : Int) (SA : Hid (∀ w, Calls Tryz.prog 119 #[.int .u64 a] w (Sp w p A e))) (he : -1074 ≤ e ∧ e < 0) (c R : Int) (hc : -e = c) (Kz : Int) (K Bk Rt : Nat) (HS1 : Hid (∀ (w1 : World) (a1 : Option Addr) (n1 c1 : Nat), Nw w1 (.slice a1 n1 c1) (A) → Calls Tryz.prog 120 #[.slice a1 n1 c1, .int .i64 (e)] w1 (OneOk w1 (K)))) (HS2 : Hid (∀ (w1 : World) (a1 : Option Addr) (n1 c1 : Nat), Nw w1 (.slice a1 n1 c1) (K) → Calls Tryz.prog 120 #[.slice a1 n1 c1, .int .i64 (c)] w1 (OneOk w1 (Bk)))) (HD : Hid (∀ (w1 : World) (a1 : Option Addr) (n1 c1 : Nat) (a2 : Option Addr) (n2 c2 : Nat), Nw w1 (.slice a1 n1 c1) (A) → Nw w1 (.slice a2 n2 c2) (Bk) → Calls Tryz.prog 151 #[.slice a1 n1 c1, .slice a2 n2 c2] w1 (OneOk w1 Rt))) (Hf : Nat) (t : Int) (ht : t = 0) (ho : (bits .and .u64 Kz 1 == 1) = false) (HOf : Hid (∀ w1, Calls Tryz.prog 122 #[.int .u64 1] w1 (One w1 1))) (HS3 : Hid (∀ (w1 : World) (a1 : Option Addr) (n1 c1 : Nat), Nw w1 (.slice a1 n1 c1) (1) → Calls Tryz.prog 120 #[.slice a1 n1 c1, .int .i64 (c - 1)] w1 (OneOk w1 (Hf)))) (HC : Hid (∀ (w1 : World) (a1 : Option Addr) (n1 c1 : Nat) (a2 : Option Addr) (n2 c2 : Nat), Nw w1 (.slice a1 n1 c1) (Rt) → Nw w1 (.slice a2 n2 c2) (Hf) → Calls Tryz.prog 123 #[.slice a1 n1 c1, .slice a2 n2 c2] w1 fun e w' => e = .returned (.int .i64 t) ∧ Below w1.heap.size w1 w')) (HL : Hid (∀ (w1 : World) (a1 : Option Addr) (n1 c1 : Nat), Nw w1 (.slice a1 n1 c1) K → Calls Tryz.prog 124 #[.slice a1 n1 c1] w1 fun e w' => e = .returned (.int .u64 Kz) ∧ w1 = w')) (HM : Hid (∀ (w1 : World) (a1 : Option Addr) (n1 c1 : Nat), Nw w1 (.slice a1 n1 c1) (K) → Calls Tryz.prog 134 #[.bool (p), .slice a1 n1 c1, .int .i64 (0)] w1 fun e w' => e = .returned (.int .u64 R) ∧ Below w1.heap.size w1 w')) (w : World) : Calls Tryz.prog 117 #[.int .u64 a, .int .i64 2] w fun e w' => e = .returned (.int .u64 R) ∧ Below w.heap.size w w' := by
  go_enter Tryz.func117, Tryz.ntmps117
  go_wp2_with (first
    | (go_at_call 64; (with_reducible refine (N1.out _).mono ?_); rintro e1 w1 ⟨rfl, rfl⟩)
    | (go_at_call 99; (with_reducible refine (I1.out _).mono ?_); rintro e1 w1 ⟨rfl, rfl⟩)
    | (go_at_call 61; (with_reducible refine (Z1.out _).mono ?_); rintro e1 w1 ⟨rfl, rfl⟩)
    | (go_at_call 119; (with_reducible refine (SA.out _).mono ?_); rintro e1 w1 ⟨a1, n1, c1, rfl, hv1, hb1⟩)
    | (go_at_call 120; (with_reducible refine (HS1.out _ _ _ _ hv1).mono ?_); rintro e2 w2 ⟨a2, n2, c2, rfl, hv2, hb2⟩)
    | (go_at_call 120; (with_reducible refine (HS2.out _ _ _ _ hv2).mono ?_); rintro e3 w3 ⟨a3, n3, c3, rfl, hv3, hb3⟩)
    | (go_at_call 151; (with_reducible refine (HD.out _ _ _ _ _ _ _ (hv1.below (btn hb2 hb3)) hv3).mono ?_); rintro e4 w4 ⟨a4, n4, c4, rfl, hv4, hb4⟩)
    | (go_at_call 122; (with_reducible refine (HOf.out _).mono ?_); rintro e5 w5 ⟨a5, n5, c5, rfl, hv5, hb5⟩)
    | (go_at_call 120; (with_reducible refine (HS3.out _ _ _ _ hv5).mono ?_); rintro e6 w6 ⟨a6, n6, c6, rfl, hv6, hb6⟩)
    | (go_at_call 123; (with_reducible refine (HC.out _ _ _ _ _ _ _ (hv4.below (btn hb5 hb6)) hv6).mono ?_); rintro e7 w7 ⟨rfl, hb7⟩)
    | (go_at_call 124; (with_reducible refine (HL.out _ _ _ _ (hv2.below (btn hb3 (btn hb4 (btn hb5 (btn hb6 hb7)))))).mono ?_); rintro e8 w8 ⟨rfl, rfl⟩)
    | (go_at_call 134; (with_reducible refine (HM.out _ _ _ _ (hv2.below (btn hb3 (btn hb4 (btn hb5 (btn hb6 hb7)))))).mono ?_); rintro e11 w11 ⟨rfl, hb11⟩))
  go_ret
  exact ⟨rfl, btn hb1 (btn hb2 (btn hb3 (btn hb4 (btn hb5 (btn hb6 (btn hb7 hb11))))))⟩
set_option maxRecDepth 100000 in
set_option maxHeartbeats 2000000 in
theorem rwhole_2lt (a : Nat) (N1 : Hid (PB 64 a false)) (I1 : Hid (PB 99 a false)) (Z1 : Hid (PB 61 a false)) (p : Bool) (A : Nat) (e : Int) (SA : Hid (∀ w, Calls Tryz.prog 119 #[.int .u64 a] w (Sp w p A e))) (he : -1074 ≤ e ∧ e < 0) (c R : Int) (hc : -e = c) (Kz : Int) (K Bk Rt : Nat) (HS1 : Hid (∀ (w1 : World) (a1 : Option Addr) (n1 c1 : Nat), Nw w1 (.slice a1 n1 c1) (A) → Calls Tryz.prog 120 #[.slice a1 n1 c1, .int .i64 (e)] w1 (OneOk w1 (K)))) (HS2 : Hid (∀ (w1 : World) (a1 : Option Addr) (n1 c1 : Nat), Nw w1 (.slice a1 n1 c1) (K) → Calls Tryz.prog 120 #[.slice a1 n1 c1, .int .i64 (c)] w1 (OneOk w1 (Bk)))) (HD : Hid (∀ (w1 : World) (a1 : Option Addr) (n1 c1 : Nat) (a2 : Option Addr) (n2 c2 : Nat), Nw w1 (.slice a1 n1 c1) (A) → Nw w1 (.slice a2 n2 c2) (Bk) → Calls Tryz.prog 151 #[.slice a1 n1 c1, .slice a2 n2 c2] w1 (OneOk w1 Rt))) (Hf : Nat) (t : Int) (ht : t < 0) (HOf : Hid (∀ w1, Calls Tryz.prog 122 #[.int .u64 1] w1 (One w1 1))) (HS3 : Hid (∀ (w1 : World) (a1 : Option Addr) (n1 c1 : Nat), Nw w1 (.slice a1 n1 c1) (1) → Calls Tryz.prog 120 #[.slice a1 n1 c1, .int .i64 (c - 1)] w1 (OneOk w1 (Hf)))) (HC : Hid (∀ (w1 : World) (a1 : Option Addr) (n1 c1 : Nat) (a2 : Option Addr) (n2 c2 : Nat), Nw w1 (.slice a1 n1 c1) (Rt) → Nw w1 (.slice a2 n2 c2) (Hf) → Calls Tryz.prog 123 #[.slice a1 n1 c1, .slice a2 n2 c2] w1 fun e w' => e = .returned (.int .i64 t) ∧ Below w1.heap.size w1 w')) (HL : Hid (∀ (w1 : World) (a1 : Option Addr) (n1 c1 : Nat), Nw w1 (.slice a1 n1 c1) K → Calls Tryz.prog 124 #[.slice a1 n1 c1] w1 fun e w' => e = .returned (.int .u64 Kz) ∧ w1 = w')) (HM : Hid (∀ (w1 : World) (a1 : Option Addr) (n1 c1 : Nat), Nw w1 (.slice a1 n1 c1) (K) → Calls Tryz.prog 134 #[.bool (p), .slice a1 n1 c1, .int .i64 (0)] w1 fun e w' => e = .returned (.int .u64 R) ∧ Below w1.heap.size w1 w')) (w : World) : Calls Tryz.prog 117 #[.int .u64 a, .int .i64 2] w fun e w' => e = .returned (.int .u64 R) ∧ Below w.heap.size w w' := by
  go_enter Tryz.func117, Tryz.ntmps117
  go_wp2_with (first
    | (go_at_call 64; (with_reducible refine (N1.out _).mono ?_); rintro e1 w1 ⟨rfl, rfl⟩)
    | (go_at_call 99; (with_reducible refine (I1.out _).mono ?_); rintro e1 w1 ⟨rfl, rfl⟩)
    | (go_at_call 61; (with_reducible refine (Z1.out _).mono ?_); rintro e1 w1 ⟨rfl, rfl⟩)
    | (go_at_call 119; (with_reducible refine (SA.out _).mono ?_); rintro e1 w1 ⟨a1, n1, c1, rfl, hv1, hb1⟩)
    | (go_at_call 120; (with_reducible refine (HS1.out _ _ _ _ hv1).mono ?_); rintro e2 w2 ⟨a2, n2, c2, rfl, hv2, hb2⟩)
    | (go_at_call 120; (with_reducible refine (HS2.out _ _ _ _ hv2).mono ?_); rintro e3 w3 ⟨a3, n3, c3, rfl, hv3, hb3⟩)
    | (go_at_call 151; (with_reducible refine (HD.out _ _ _ _ _ _ _ (hv1.below (btn hb2 hb3)) hv3).mono ?_); rintro e4 w4 ⟨a4, n4, c4, rfl, hv4, hb4⟩)
    | (go_at_call 122; (with_reducible refine (HOf.out _).mono ?_); rintro e5 w5 ⟨a5, n5, c5, rfl, hv5, hb5⟩)
    | (go_at_call 120; (with_reducible refine (HS3.out _ _ _ _ hv5).mono ?_); rintro e6 w6 ⟨a6, n6, c6, rfl, hv6, hb6⟩)
    | (go_at_call 123; (with_reducible refine (HC.out _ _ _ _ _ _ _ (hv4.below (btn hb5 hb6)) hv6).mono ?_); rintro e7 w7 ⟨rfl, hb7⟩)
    | (go_at_call 124; (with_reducible refine (HL.out _ _ _ _ (hv2.below (btn hb3 (btn hb4 (btn hb5 (btn hb6 hb7)))))).mono ?_); rintro e8 w8 ⟨rfl, rfl⟩)
    | (go_at_call 134; (with_reducible refine (HM.out _ _ _ _ (hv2.below (btn hb3 (btn hb4 (btn hb5 (btn hb6 hb7)))))).mono ?_); rintro e11 w11 ⟨rfl, hb11⟩))
  go_ret
  exact ⟨rfl, btn hb1 (btn hb2 (btn hb3 (btn hb4 (btn hb5 (btn hb6 (btn hb7 hb11))))))⟩
end Go.Proofs.YtkifdppppihjcaaGreat

namespace Go.Proofs.YtkifdppppihjcaaGreat
set_option linter.unusedVariables false
set_option linter.unusedSimpArgs false
open Go.RowKit Go.Shelf SF
theorem rwhole0_c (a : Nat) (ha : W a) (w : World) : Calls Tryz.prog 117 #[.int .u64 a, .int .i64 0] w fun e w' => e = .returned (.int .u64 ((wholeV 0 a : Nat) : Int)) ∧ Below w.heap.size w w' := by
  have N1 := Lib.hid (risnan_c a ha)
  have I1 := Lib.hid (risinf_c a ha)
  have Z1 := Lib.hid (riszero_c a ha)
  by_cases n1 : nan a = true
  · rw [show wholeV 0 a = NaN by simp [wholeV, n1]]; rw [n1] at N1; exact rwhole_n1 a 0 N1 w
  have n1 := Bool.eq_false_iff.2 n1; rw [n1] at N1
  by_cases i1 : inf a = true
  · rw [show wholeV 0 a = a by simp [wholeV, n1, i1]]; rw [i1] at I1; exact rwhole_i1 a 0 N1 I1 w
  have i1 := Bool.eq_false_iff.2 i1; rw [i1] at I1
  by_cases z1 : zer a = true
  · rw [show wholeV 0 a = a by simp [wholeV, n1, i1, z1]]; rw [z1] at Z1; exact rwhole_z1 a 0 N1 I1 Z1 w
  have z1 := Bool.eq_false_iff.2 z1; rw [z1] at Z1
  have SA := Lib.hid (fun w => rsplit_c a ha n1 i1 w)
  by_cases he : 0 ≤ se a
  · rw [show wholeV 0 a = a by simp [wholeV, n1, i1, z1, he]]; exact rwhole_e a 0 N1 I1 Z1 _ _ _ SA he w
  have la := se_ge a
  obtain ⟨d, hd⟩ : ∃ d : Nat, -se a = ((d + 1 : Nat) : Int) := ⟨(-se a - 1).toNat, by omega⟩
  have hd4 : d + 1 ≤ 1074 := by omega
  have hv : wholeV 0 a = sg (ng a) (pat (wq 0 (ng a) (sm a) (d + 1)) 0 false) := by
    unfold wholeV
    rw [if_neg (by rw [n1]; decide), if_neg (by rw [i1, z1]; decide), if_neg he, hd, Int.toNat_natCast]
  rw [hv]
  have bA := bl_sm a
  have hback : sm a / 2 ^ (d + 1) * 2 ^ (d + 1) ≤ sm a := Nat.div_mul_le_self _ _
  have hrest : sm a - sm a / 2 ^ (d + 1) * 2 ^ (d + 1) = sm a % 2 ^ (d + 1) := by have := Nat.div_add_mod (sm a) (2 ^ (d + 1)); rw [Nat.mul_comm] at this; omega
  have bK : bl (sm a / 2 ^ (d + 1)) ≤ 53 := bl_mono' (Nat.div_le_self _ _) bA
  have bR : bl (sm a - sm a / 2 ^ (d + 1) * 2 ^ (d + 1)) ≤ 53 := bl_mono' (Nat.sub_le _ _) bA
  have b1 : bl 1 = 1 := by decide
  have bK1 : bl (sm a / 2 ^ (d + 1) + 1) ≤ 54 := bl_addb bK (by omega)
  have eE : se a = -(((d + 1 : Nat)) : Int) := by omega
  have HS1 : Hid (∀ (w1 : World) (a1 : Option Addr) (n1 c1 : Nat), Nw w1 (.slice a1 n1 c1) (sm a) → Calls Tryz.prog 120 #[.slice a1 n1 c1, .int .i64 (se a)] w1 (OneOk w1 (sm a / 2 ^ (d + 1)))) := fun w1 a1 n1 c1 h => by
    rw [eE]; exact rshr_n (d + 1) h (by omega) (by omega)
  have HS2 := Lib.hid (fun (w1 : World) (a1 : Option Addr) (n1 c1 : Nat) (h : Nw w1 (.slice a1 n1 c1) (sm a / 2 ^ (d + 1))) => rshl_n (d + 1) h (by omega))
  have HD := Lib.hid (fun (w1 : World) (a1 : Option Addr) (n1 c1 : Nat) (a2 : Option Addr) (n2 c2 : Nat) (h1 : Nw w1 (.slice a1 n1 c1) (sm a)) (h2 : Nw w1 (.slice a2 n2 c2) (sm a / 2 ^ (d + 1) * 2 ^ (d + 1))) => rsub_o h1 (by omega) h2 hback)
  have HMk := fun (D : Nat) (hD : bl D ≤ 54) (w1 : World) (a1 : Option Addr) (n1 c1 : Nat) (h : Nw w1 (.slice a1 n1 c1) D) => rmake_n (ng a) h (by omega) 0 (by decide)
  have HOf : Hid (∀ w1, Calls Tryz.prog 122 #[.int .u64 1] w1 (One w1 1)) := fun w1 => rof_n 1 w1 (W_of (by decide))
  have HA := Lib.hid (fun (w1 : World) (a1 : Option Addr) (n1 c1 : Nat) (a2 : Option Addr) (n2 c2 : Nat) (h1 : Nw w1 (.slice a1 n1 c1) (sm a / 2 ^ (d + 1))) (h2 : Nw w1 (.slice a2 n2 c2) 1) => radd_n h1 (by omega) h2 (by omega))
  have be : -1074 ≤ se a ∧ se a < 0 := by omega
  have M0 := Lib.hid (HMk (sm a / 2 ^ (d + 1)) (by omega))
  have M1 := Lib.hid (HMk (sm a / 2 ^ (d + 1) + 1) bK1)
  rw [wq_trunc]
  exact rwhole_0t a N1 I1 Z1 _ _ _ SA be _ _ hd 0 _ _ _ HS1 HS2 HD M0 w
theorem rwhole2_c (a : Nat) (ha : W a) (w : World) : Calls Tryz.prog 117 #[.int .u64 a, .int .i64 2] w fun e w' => e = .returned (.int .u64 ((wholeV 2 a : Nat) : Int)) ∧ Below w.heap.size w w' := by
  have N1 := Lib.hid (risnan_c a ha)
  have I1 := Lib.hid (risinf_c a ha)
  have Z1 := Lib.hid (riszero_c a ha)
  by_cases n1 : nan a = true
  · rw [show wholeV 2 a = NaN by simp [wholeV, n1]]; rw [n1] at N1; exact rwhole_n1 a 2 N1 w
  have n1 := Bool.eq_false_iff.2 n1; rw [n1] at N1
  by_cases i1 : inf a = true
  · rw [show wholeV 2 a = a by simp [wholeV, n1, i1]]; rw [i1] at I1; exact rwhole_i1 a 2 N1 I1 w
  have i1 := Bool.eq_false_iff.2 i1; rw [i1] at I1
  by_cases z1 : zer a = true
  · rw [show wholeV 2 a = a by simp [wholeV, n1, i1, z1]]; rw [z1] at Z1; exact rwhole_z1 a 2 N1 I1 Z1 w
  have z1 := Bool.eq_false_iff.2 z1; rw [z1] at Z1
  have SA := Lib.hid (fun w => rsplit_c a ha n1 i1 w)
  by_cases he : 0 ≤ se a
  · rw [show wholeV 2 a = a by simp [wholeV, n1, i1, z1, he]]; exact rwhole_e a 2 N1 I1 Z1 _ _ _ SA he w
  have la := se_ge a
  obtain ⟨d, hd⟩ : ∃ d : Nat, -se a = ((d + 1 : Nat) : Int) := ⟨(-se a - 1).toNat, by omega⟩
  have hd4 : d + 1 ≤ 1074 := by omega
  have hv : wholeV 2 a = sg (ng a) (pat (wq 2 (ng a) (sm a) (d + 1)) 0 false) := by
    unfold wholeV
    rw [if_neg (by rw [n1]; decide), if_neg (by rw [i1, z1]; decide), if_neg he, hd, Int.toNat_natCast]
  rw [hv]
  have bA := bl_sm a
  have hback : sm a / 2 ^ (d + 1) * 2 ^ (d + 1) ≤ sm a := Nat.div_mul_le_self _ _
  have hrest : sm a - sm a / 2 ^ (d + 1) * 2 ^ (d + 1) = sm a % 2 ^ (d + 1) := by have := Nat.div_add_mod (sm a) (2 ^ (d + 1)); rw [Nat.mul_comm] at this; omega
  have bK : bl (sm a / 2 ^ (d + 1)) ≤ 53 := bl_mono' (Nat.div_le_self _ _) bA
  have bR : bl (sm a - sm a / 2 ^ (d + 1) * 2 ^ (d + 1)) ≤ 53 := bl_mono' (Nat.sub_le _ _) bA
  have b1 : bl 1 = 1 := by decide
  have bK1 : bl (sm a / 2 ^ (d + 1) + 1) ≤ 54 := bl_addb bK (by omega)
  have eE : se a = -(((d + 1 : Nat)) : Int) := by omega
  have HS1 : Hid (∀ (w1 : World) (a1 : Option Addr) (n1 c1 : Nat), Nw w1 (.slice a1 n1 c1) (sm a) → Calls Tryz.prog 120 #[.slice a1 n1 c1, .int .i64 (se a)] w1 (OneOk w1 (sm a / 2 ^ (d + 1)))) := fun w1 a1 n1 c1 h => by
    rw [eE]; exact rshr_n (d + 1) h (by omega) (by omega)
  have HS2 := Lib.hid (fun (w1 : World) (a1 : Option Addr) (n1 c1 : Nat) (h : Nw w1 (.slice a1 n1 c1) (sm a / 2 ^ (d + 1))) => rshl_n (d + 1) h (by omega))
  have HD := Lib.hid (fun (w1 : World) (a1 : Option Addr) (n1 c1 : Nat) (a2 : Option Addr) (n2 c2 : Nat) (h1 : Nw w1 (.slice a1 n1 c1) (sm a)) (h2 : Nw w1 (.slice a2 n2 c2) (sm a / 2 ^ (d + 1) * 2 ^ (d + 1))) => rsub_o h1 (by omega) h2 hback)
  have HMk := fun (D : Nat) (hD : bl D ≤ 54) (w1 : World) (a1 : Option Addr) (n1 c1 : Nat) (h : Nw w1 (.slice a1 n1 c1) D) => rmake_n (ng a) h (by omega) 0 (by decide)
  have HOf : Hid (∀ w1, Calls Tryz.prog 122 #[.int .u64 1] w1 (One w1 1)) := fun w1 => rof_n 1 w1 (W_of (by decide))
  have HA := Lib.hid (fun (w1 : World) (a1 : Option Addr) (n1 c1 : Nat) (a2 : Option Addr) (n2 c2 : Nat) (h1 : Nw w1 (.slice a1 n1 c1) (sm a / 2 ^ (d + 1))) (h2 : Nw w1 (.slice a2 n2 c2) 1) => radd_n h1 (by omega) h2 (by omega))
  have be : -1074 ≤ se a ∧ se a < 0 := by omega
  have M0 := Lib.hid (HMk (sm a / 2 ^ (d + 1)) (by omega))
  have M1 := Lib.hid (HMk (sm a / 2 ^ (d + 1) + 1) bK1)
  have hw : wq 2 (ng a) (sm a) (d + 1) = rne (sm a) (d + 1) false := by unfold wq; rw [if_pos rfl]
  have hn := rne_cmp (sm a) (d + 1) (by omega)
  rw [Nat.add_sub_cancel] at hn
  rw [hw, hn]
  have HS3 : Hid (∀ (w1 : World) (a1 : Option Addr) (n1 c1 : Nat), Nw w1 (.slice a1 n1 c1) 1 → Calls Tryz.prog 120 #[.slice a1 n1 c1, .int .i64 (((d + 1 : Nat) : Int) - 1)] w1 (OneOk w1 (2 ^ d))) := fun w1 a1 n1 c1 h => by
    have := rshl_n d h (by omega)
    rw [Nat.one_mul] at this
    rw [show (((d + 1 : Nat) : Int) - 1) = (d : Int) by omega]
    exact this
  have b2 : bl (2 ^ d) ≤ 1074 := by have := bl_shl 1 d; rw [Nat.one_mul] at this; omega
  have HC := fun (w1 : World) (a1 : Option Addr) (n1 c1 : Nat) (a2 : Option Addr) (n2 c2 : Nat) (h1 : Nw w1 (.slice a1 n1 c1) (sm a - sm a / 2 ^ (d + 1) * 2 ^ (d + 1))) (h2 : Nw w1 (.slice a2 n2 c2) (2 ^ d)) => rcmp_n h1 (by omega) h2 (by omega)
  have HL := fun (w1 : World) (a1 : Option Addr) (n1 c1 : Nat) (h : Nw w1 (.slice a1 n1 c1) (sm a / 2 ^ (d + 1))) => rlow_n h (by omega)
  have ls := sm_lt a
  have lq := Nat.div_le_self (sm a) (2 ^ (d + 1))
  rw [show sm a / 2 ^ (d + 1) % 18446744073709551616 = sm a / 2 ^ (d + 1) from Nat.mod_eq_of_lt (by omega)] at HL
  have HL := Lib.hid HL
  have HB1 := band1 (a := ((sm a / 2 ^ (d + 1) : Nat) : Int)) (Int.natCast_nonneg _) (by omega)
  obtain ⟨Rt, hRt⟩ : ∃ Rt, sm a - sm a / 2 ^ (d + 1) * 2 ^ (d + 1) = Rt := ⟨_, rfl⟩
  rw [hRt] at HC HD ⊢
  have key : ∀ (t : Int), cmpI (Rt : Int) ((2 ^ d : Nat) : Int) = t → (0 < t ↔ 2 ^ d < Rt) ∧ (t = 0 ↔ Rt = 2 ^ d) := by
    intro t ht; subst ht; unfold cmpI; constructor <;> (split <;> (try split) <;> omega)
  obtain ⟨t, ht⟩ : ∃ t, cmpI (Rt : Int) ((2 ^ d : Nat) : Int) = t := ⟨_, rfl⟩
  have key := key t ht
  rw [ht] at HC
  have HC := Lib.hid HC
  by_cases ht1 : 0 < t
  · rw [if_pos (.inl (key.1.1 ht1))]
    exact rwhole_2gt a N1 I1 Z1 _ _ _ SA be _ _ hd _ _ _ _ HS1 HS2 HD _ t ht1 HOf HS3 HC HL HA M1 w
  · by_cases ht2 : t = 0
    · by_cases hodd : sm a / 2 ^ (d + 1) % 2 = 1
      · rw [if_pos (.inr ⟨key.2.1 ht2, hodd⟩)]
        exact rwhole_2odd a N1 I1 Z1 _ _ _ SA be _ _ hd _ _ _ _ HS1 HS2 HD _ t ht2 (by rw [HB1]; exact beq_of (by omega)) HOf HS3 HC HL HA M1 w
      · rw [if_neg (by rintro (h | ⟨h, h2⟩) <;> omega)]
        exact rwhole_2even a N1 I1 Z1 _ _ _ SA be _ _ hd _ _ _ _ HS1 HS2 HD _ t ht2 (by rw [HB1]; exact beq_no (by omega)) HOf HS3 HC HL M0 w
    · rw [if_neg (by rintro (h | ⟨h, h2⟩) <;> omega)]
      exact rwhole_2lt a N1 I1 Z1 _ _ _ SA be _ _ hd _ _ _ _ HS1 HS2 HD _ t (by omega) HOf HS3 HC HL M0 w
theorem rTrunc_c (a : Nat) (ha : W a) (w : World) : Calls Tryz.prog 65 #[.int .u64 a] w fun e w' => e = .returned (.int .u64 ((wholeV 0 a : Nat) : Int)) ∧ Below w.heap.size w w' := by
  have HW := Lib.hid (rwhole0_c a ha)
  go_enter Tryz.func65, Tryz.ntmps65
  go_wp2_with (first
    | (go_at_call 117; (with_reducible refine (HW.out _).mono ?_); rintro e1 w1 ⟨rfl, hb1⟩))
  go_ret
  exact ⟨rfl, hb1⟩
theorem rRound_c (a : Nat) (ha : W a) (w : World) : Calls Tryz.prog 78 #[.int .u64 a] w fun e w' => e = .returned (.int .u64 ((wholeV 2 a : Nat) : Int)) ∧ Below w.heap.size w w' := by
  have HW := Lib.hid (rwhole2_c a ha)
  go_enter Tryz.func78, Tryz.ntmps78
  go_wp2_with (first
    | (go_at_call 117; (with_reducible refine (HW.out _).mono ?_); rintro e1 w1 ⟨rfl, hb1⟩))
  go_ret
  exact ⟨rfl, hb1⟩
set_option maxRecDepth 100000 in
set_option maxHeartbeats 2000000 in
theorem rScale_n1 (a : Nat) (n : Int) (N1 : Hid (PB 64 a true)) (w : World) : Calls Tryz.prog 81 #[.int .u64 a, .int .i64 n] w fun e w' => e = .returned (.int .u64 (9221120237041090560)) ∧ Below w.heap.size w w' := by
  go_enter Tryz.func81, Tryz.ntmps81
  go_wp2_with (first
    | (go_at_call 64; (with_reducible refine (N1.out _).mono ?_); rintro e1 w1 ⟨rfl, rfl⟩))
  go_ret
  exact ⟨rfl, Below.refl _ _⟩
set_option maxRecDepth 100000 in
set_option maxHeartbeats 2000000 in
theorem rScale_i1 (a : Nat) (n : Int) (N1 : Hid (PB 64 a false)) (I1 : Hid (PB 99 a true)) (w : World) : Calls Tryz.prog 81 #[.int .u64 a, .int .i64 n] w fun e w' => e = .returned (.int .u64 ((a : Int))) ∧ Below w.heap.size w w' := by
  go_enter Tryz.func81, Tryz.ntmps81
  go_wp2_with (first
    | (go_at_call 64; (with_reducible refine (N1.out _).mono ?_); rintro e1 w1 ⟨rfl, rfl⟩)
    | (go_at_call 99; (with_reducible refine (I1.out _).mono ?_); rintro e1 w1 ⟨rfl, rfl⟩))
  go_ret
  exact ⟨rfl, Below.refl _ _⟩
set_option maxRecDepth 100000 in
set_option maxHeartbeats 2000000 in
theorem rScale_z1 (a : Nat) (n : Int) (N1 : Hid (PB 64 a false)) (I1 : Hid (PB 99 a false)) (Z1 : Hid (PB 61 a true)) (w : World) : Calls Tryz.prog 81 #[.int .u64 a, .int .i64 n] w fun e w' => e = .returned (.int .u64 ((a : Int))) ∧ Below w.heap.size w w' := by
  go_enter Tryz.func81, Tryz.ntmps81
  go_wp2_with (first
    | (go_at_call 64; (with_reducible refine (N1.out _).mono ?_); rintro e1 w1 ⟨rfl, rfl⟩)
    | (go_at_call 99; (with_reducible refine (I1.out _).mono ?_); rintro e1 w1 ⟨rfl, rfl⟩)
    | (go_at_call 61; (with_reducible refine (Z1.out _).mono ?_); rintro e1 w1 ⟨rfl, rfl⟩))
  go_ret
  exact ⟨rfl, Below.refl _ _⟩
set_option maxRecDepth 100000 in
set_option maxHeartbeats 2000000 in
theorem rScale_fhi (a : Nat) (n : Int) (N1 : Hid (PB 64 a false)) (I1 : Hid (PB 99 a false)) (Z1 : Hid (PB 61 a false)) (p : Bool) (A : Nat) (e : Int) (SA : Hid (∀ w, Calls Tryz.prog 119 #[.int .u64 a] w (Sp w p A e))) (he : -1074 ≤ e ∧ e ≤ 971) (R : Int) (h : 100000 < n) (HM : Hid (∀ (w1 : World) (a1 : Option Addr) (n1 c1 : Nat), Nw w1 (.slice a1 n1 c1) (A) → Calls Tryz.prog 134 #[.bool (p), .slice a1 n1 c1, .int .i64 (e + 100000)] w1 fun e w' => e = .returned (.int .u64 R) ∧ Below w1.heap.size w1 w')) (w : World) : Calls Tryz.prog 81 #[.int .u64 a, .int .i64 n] w fun e w' => e = .returned (.int .u64 R) ∧ Below w.heap.size w w' := by
  go_enter Tryz.func81, Tryz.ntmps81
  go_wp2_with (first
    | (go_at_call 64; (with_reducible refine (N1.out _).mono ?_); rintro e1 w1 ⟨rfl, rfl⟩)
    | (go_at_call 99; (with_reducible refine (I1.out _).mono ?_); rintro e1 w1 ⟨rfl, rfl⟩)
    | (go_at_call 61; (with_reducible refine (Z1.out _).mono ?_); rintro e1 w1 ⟨rfl, rfl⟩)
    | (go_at_call 119; (with_reducible refine (SA.out _).mono ?_); rintro e1 w1 ⟨a1, n1, c1, rfl, hv1, hb1⟩)
    | (go_at_call 134; (with_reducible refine (HM.out _ _ _ _ hv1).mono ?_); rintro e11 w11 ⟨rfl, hb11⟩))
  go_ret
  exact ⟨rfl, btn hb1 hb11⟩
set_option maxRecDepth 100000 in
set_option maxHeartbeats 2000000 in
theorem rScale_flo (a : Nat) (n : Int) (N1 : Hid (PB 64 a false)) (I1 : Hid (PB 99 a false)) (Z1 : Hid (PB 61 a false)) (p : Bool) (A : Nat) (e : Int) (SA : Hid (∀ w, Calls Tryz.prog 119 #[.int .u64 a] w (Sp w p A e))) (he : -1074 ≤ e ∧ e ≤ 971) (R : Int) (h : n < -100000) (HM : Hid (∀ (w1 : World) (a1 : Option Addr) (n1 c1 : Nat), Nw w1 (.slice a1 n1 c1) (A) → Calls Tryz.prog 134 #[.bool (p), .slice a1 n1 c1, .int .i64 (e + (-100000))] w1 fun e w' => e = .returned (.int .u64 R) ∧ Below w1.heap.size w1 w')) (w : World) : Calls Tryz.prog 81 #[.int .u64 a, .int .i64 n] w fun e w' => e = .returned (.int .u64 R) ∧ Below w.heap.size w w' := by
  go_enter Tryz.func81, Tryz.ntmps81
  go_wp2_with (first
    | (go_at_call 64; (with_reducible refine (N1.out _).mono ?_); rintro e1 w1 ⟨rfl, rfl⟩)
    | (go_at_call 99; (with_reducible refine (I1.out _).mono ?_); rintro e1 w1 ⟨rfl, rfl⟩)
    | (go_at_call 61; (with_reducible refine (Z1.out _).mono ?_); rintro e1 w1 ⟨rfl, rfl⟩)
    | (go_at_call 119; (with_reducible refine (SA.out _).mono ?_); rintro e1 w1 ⟨a1, n1, c1, rfl, hv1, hb1⟩)
    | (go_at_call 134; (with_reducible refine (HM.out _ _ _ _ hv1).mono ?_); rintro e11 w11 ⟨rfl, hb11⟩))
  go_ret
  exact ⟨rfl, btn hb1 hb11⟩
set_option maxRecDepth 100000 in
set_option maxHeartbeats 2000000 in
theorem rScale_fmid (a : Nat) (n : Int) (N1 : Hid (PB 64 a false)) (I1 : Hid (PB 99 a false)) (Z1 : Hid (PB 61 a false)) (p : Bool) (A : Nat) (e : Int) (SA : Hid (∀ w, Calls Tryz.prog 119 #[.int .u64 a] w (Sp w p A e))) (he : -1074 ≤ e ∧ e ≤ 971) (R : Int) (h : ¬ 100000 < n) (h2 : ¬ n < -100000) (HM : Hid (∀ (w1 : World) (a1 : Option Addr) (n1 c1 : Nat), Nw w1 (.slice a1 n1 c1) (A) → Calls Tryz.prog 134 #[.bool (p), .slice a1 n1 c1, .int .i64 (e + n)] w1 fun e w' => e = .returned (.int .u64 R) ∧ Below w1.heap.size w1 w')) (w : World) : Calls Tryz.prog 81 #[.int .u64 a, .int .i64 n] w fun e w' => e = .returned (.int .u64 R) ∧ Below w.heap.size w w' := by
  go_enter Tryz.func81, Tryz.ntmps81
  go_wp2_with (first
    | (go_at_call 64; (with_reducible refine (N1.out _).mono ?_); rintro e1 w1 ⟨rfl, rfl⟩)
    | (go_at_call 99; (with_reducible refine (I1.out _).mono ?_); rintro e1 w1 ⟨rfl, rfl⟩)
    | (go_at_call 61; (with_reducible refine (Z1.out _).mono ?_); rintro e1 w1 ⟨rfl, rfl⟩)
    | (go_at_call 119; (with_reducible refine (SA.out _).mono ?_); rintro e1 w1 ⟨a1, n1, c1, rfl, hv1, hb1⟩)
    | (go_at_call 134; (with_reducible refine (HM.out _ _ _ _ hv1).mono ?_); rintro e11 w11 ⟨rfl, hb11⟩))
  go_ret
  exact ⟨rfl, btn hb1 hb11⟩
theorem rScale_c (a : Nat) (ha : W a) (n : Int) (hn : -9223372036854775808 ≤ n ∧ n ≤ 9223372036854775807) (w : World) : Calls Tryz.prog 81 #[.int .u64 a, .int .i64 n] w fun e w' => e = .returned (.int .u64 ((scaleV a n : Nat) : Int)) ∧ Below w.heap.size w w' := by
  have N1 := Lib.hid (risnan_c a ha)
  have I1 := Lib.hid (risinf_c a ha)
  have Z1 := Lib.hid (riszero_c a ha)
  by_cases n1 : nan a = true
  · rw [show scaleV a n = NaN by simp [scaleV, n1]]; rw [n1] at N1; exact rScale_n1 a n N1 w
  have n1 := Bool.eq_false_iff.2 n1; rw [n1] at N1
  by_cases i1 : inf a = true
  · rw [show scaleV a n = a by simp [scaleV, n1, i1]]; rw [i1] at I1; exact rScale_i1 a n N1 I1 w
  have i1 := Bool.eq_false_iff.2 i1; rw [i1] at I1
  by_cases z1 : zer a = true
  · rw [show scaleV a n = a by simp [scaleV, n1, i1, z1]]; rw [z1] at Z1; exact rScale_z1 a n N1 I1 Z1 w
  have z1 := Bool.eq_false_iff.2 z1; rw [z1] at Z1
  have SA := Lib.hid (fun w => rsplit_c a ha n1 i1 w)
  have hv : scaleV a n = makeV (ng a) (sm a) (se a + min (max n (-100000)) 100000) := by
    unfold scaleV makeV
    rw [if_neg (by rw [n1]; decide), if_neg (by rw [i1, z1]; decide)]
  rw [hv]
  have he : -1074 ≤ se a ∧ se a ≤ 971 := ⟨se_ge a, se_le n1 i1⟩
  have bA := bl_sm a
  have HMk := fun (e : Int) (h : -4611686018427387904 ≤ e ∧ e ≤ 4611686018427387904) => Lib.hid (fun (w1 : World) (a1 : Option Addr) (n1 c1 : Nat) (h1 : Nw w1 (.slice a1 n1 c1) (sm a)) => rmake_n (ng a) h1 (by omega) e h)
  by_cases h1 : 100000 < n
  · rw [show min (max n (-100000)) 100000 = 100000 by omega]
    exact rScale_fhi a n N1 I1 Z1 _ _ _ SA he _ h1 (HMk (se a + 100000) (by omega)) w
  · by_cases h2 : n < -100000
    · rw [show min (max n (-100000)) 100000 = -100000 by omega]
      exact rScale_flo a n N1 I1 Z1 _ _ _ SA he _ h2 (HMk (se a + (-100000)) (by omega)) w
    · rw [show min (max n (-100000)) 100000 = n by omega]
      exact rScale_fmid a n N1 I1 Z1 _ _ _ SA he _ h1 h2 (HMk (se a + n) (by omega)) w
end Go.Proofs.YtkifdppppihjcaaGreat

namespace Go.Proofs.YtkifdppppihjcaaGreat
set_option linter.unusedVariables false
set_option linter.unusedSimpArgs false
open Go.RowKit Go.Shelf SF

def Cell64 (a : Int) : Prop := -9223372036854775808 ≤ a ∧ a ≤ 9223372036854775807
theorem xor_not64 (x : Int) (h : Cell64 x) : bits .xor .i64 (-1) x = -x - 1 := by
  obtain ⟨h0, h1⟩ := h
  have e : (BitVec.ofInt 64 (-1) ^^^ BitVec.ofInt 64 x) = ~~~ (BitVec.ofInt 64 x) := by
    rw [← BitVec.allOnes_xor]; rfl
  show IntKind.i64.wrap ((BitVec.ofInt 64 (-1) ^^^ BitVec.ofInt 64 x).toNat : Int) = _
  rw [e, BitVec.toNat_not, BitVec.toNat_ofInt, IntKind.wrap_i64]
  omega
theorem rneg2_c (lo hi : Int) (hl : Cell64 lo) (h : Cell64 hi) (w : World) : Calls Tryz.prog 156 #[.int .i64 lo, .int .i64 hi] w fun e w' =>
    e = .returned (.tuple #[.int .i64 (wr (-(dI lo hi))), .int .i64 (wr (-(dI lo hi) / 18446744073709551616))]) ∧ w = w' := by
  have hx := Lib.hid (xor_not64 hi h)
  have b0 := h.1
  have b1 := h.2
  have b2 := hl.1
  have b3 := hl.2
  unfold wr dI
  by_cases c : lo = 0
  · subst c
    go_enter Tryz.func156, Tryz.ntmps156
    go_wp2
    go_ret2
    exact ⟨ret2 (by (try unfold wrap64); omega) (by (try unfold wrap64); omega), rfl⟩
  · have c' : (lo == 0) = false := by simpa using c
    go_enter Tryz.func156, Tryz.ntmps156
    go_wp2
    go_ret2
    exact ⟨ret2 (by (try unfold wrap64); omega) (by rw [hx.out]; (try unfold wrap64); omega), rfl⟩
theorem rNeg2_c (lo hi : Int) (hl : Cell64 lo) (h : Cell64 hi) (w : World) : Calls Tryz.prog 125 #[.int .i64 lo, .int .i64 hi] w fun e w' =>
    e = .returned (.tuple #[.int .i64 (wr (-(dI lo hi))), .int .i64 (wr (-(dI lo hi) / 18446744073709551616))]) ∧ w = w' := by
  have HN := Lib.hid (fun w => rneg2_c lo hi hl h w)
  obtain ⟨l, hl⟩ : ∃ l, wr (-(dI lo hi)) = l := ⟨_, rfl⟩
  obtain ⟨k, hk⟩ : ∃ l, wr (-(dI lo hi) / 18446744073709551616) = l := ⟨_, rfl⟩
  rw [hl, hk] at HN ⊢
  clear hl hk
  go_enter Tryz.func125, Tryz.ntmps125
  go_wp2_with (go_at_call 156; (with_reducible refine (HN.out _).mono ?_); rintro e1 w1 ⟨rfl, rfl⟩)
  go_ret2
  exact ⟨rfl, rfl⟩
theorem rd_four (w : World) (x y z u : Int) (t : TypeId) : Rd (w.alloc (.cells #[.int .u32 x, .int .u32 y, .int .u32 z, .int .u32 u] t)) .u32 (.slice (some ⟨w.heap.size, 0, none⟩) 4 4) [x, y, z, u] :=
  Rd.mk _ 0 rfl (by decide) (fun i hi => by
    match i, hi with
    | 0, _ => simp [go_sem]
    | 1, _ => simp [go_sem]
    | 2, _ => simp [go_sem]
    | 3, _ => simp [go_sem])
theorem rmake4 (g : Bool) (x y z u : Int) (M : Nat) (hx : 0 ≤ x ∧ x < 4294967296) (hy : 0 ≤ y ∧ y < 4294967296) (hz : 0 ≤ z ∧ z < 4294967296) (hu : 0 ≤ u ∧ u < 4294967296) (hM : x + 4294967296 * (y + 4294967296 * (z + 4294967296 * u)) = M) (w : World) (t : TypeId) :
    Calls Tryz.prog 134 #[.bool g, .slice (some ⟨w.heap.size, 0, none⟩) 4 4, .int .i64 0] (w.alloc (.cells #[.int .u32 x, .int .u32 y, .int .u32 z, .int .u32 u] t)) fun x w' =>
      x = .returned (.int .u64 ((makeV g M 0 : Nat) : Int)) ∧ Below w.heap.size w w' := by
  have hw : Words [x, y, z, u] := words_cons.2 ⟨hx, words_cons.2 ⟨hy, words_cons.2 ⟨hz, words_cons.2 ⟨hu, words_nil⟩⟩⟩⟩
  have hb := len_bound hw
  have e : wv [x, y, z, u] = M := by simp only [wv]; omega
  have h := rmakeG_c g _ 4 4 _ 0 _ (rd_four w x y z u t) hw (by decide) (by decide)
  rw [e] at h hb
  have hb' : bl M ≤ 128 := hb
  rw [makeR_ok g 0 (by omega)] at h
  exact h.mono fun x w' ⟨h1, h2⟩ => ⟨h1, btn ((Below.refl _ _).alloc (Nat.le_refl _) _) h2⟩
abbrev PMk4 (g : Bool) (x y z u R : Int) : Prop := ∀ (w : World) (t : TypeId), Calls Tryz.prog 134 #[.bool g, .slice (some ⟨w.heap.size, 0, none⟩) 4 4, .int .i64 0] (w.alloc (.cells #[.int .u32 x, .int .u32 y, .int .u32 z, .int .u32 u] t)) fun e w' => e = .returned (.int .u64 R) ∧ Below w.heap.size w w'
set_option maxRecDepth 100000 in
set_option maxHeartbeats 2000000 in
theorem rFrom_pos (lo hi x y z u : Int) (hl : Cell64 lo) (hh : Cell64 hi) (hn : ¬ hi < 0) (R : Int) (e1 : lo % 4294967296 = x) (e2 : IntKind.u64.wrap lo / 4294967296 % 4294967296 = y) (e3 : hi % 4294967296 = z) (e4 : hi / 4294967296 = u) (HM : Hid (PMk4 false x y z u R)) (w : World) :
    Calls Tryz.prog 116 #[.int .i64 lo, .int .i64 hi] w fun e w' => e = .returned (.int .u64 R) ∧ Below w.heap.size w w' := by
  have b0 := hl.1
  have b1 := hl.2
  have b2 := hh.1
  have b3 := hh.2
  clear hl hh
  go_enter Tryz.func116, Tryz.ntmps116
  go_wp2_with (go_at_call 134; (with_reducible refine (HM.out _ _).mono ?_); rintro e1 w1 ⟨rfl, hb1⟩)
  go_ret
  exact ⟨rfl, hb1⟩
set_option maxRecDepth 100000 in
set_option maxHeartbeats 2000000 in
theorem rFrom_neg (lo hi l h x y z u : Int) (hl : Cell64 l) (hh : Cell64 h) (hn : hi < 0) (R : Int) (HN : Hid (∀ w, Calls Tryz.prog 125 #[.int .i64 lo, .int .i64 hi] w fun e w' => e = .returned (.tuple #[.int .i64 l, .int .i64 h]) ∧ w = w'))
    (h0 : l ≠ 0 ∨ h ≠ 0) (e1 : l % 4294967296 = x) (e2 : IntKind.u64.wrap l / 4294967296 % 4294967296 = y) (e3 : h % 4294967296 = z) (e4 : IntKind.u64.wrap h / 4294967296 % 4294967296 = u) (HM : Hid (PMk4 true x y z u R)) (w : World) :
    Calls Tryz.prog 116 #[.int .i64 lo, .int .i64 hi] w fun e w' => e = .returned (.int .u64 R) ∧ Below w.heap.size w w' := by
  have b0 := hl.1
  have b1 := hl.2
  have b2 := hh.1
  have b3 := hh.2
  clear hl hh
  by_cases l0 : l = 0
  · have h1 : ¬ h = 0 := by rcases h0 with g | g; exact absurd l0 g; exact g
    have z0 := bne_of l0
    have z1 := bne_no h1
    clear h0 l0 h1
    go_enter Tryz.func116, Tryz.ntmps116
    go_wp2_with (first
      | (go_at_call 125; (with_reducible refine (HN.out _).mono ?_); rintro e1 w1 ⟨rfl, rfl⟩)
      | (go_at_call 134; (with_reducible refine (HM.out _ _).mono ?_); rintro e1 w1 ⟨rfl, hb1⟩))
    go_ret
    exact ⟨rfl, hb1⟩
  · have z0 := bne_no l0
    clear h0 l0
    go_enter Tryz.func116, Tryz.ntmps116
    go_wp2_with (first
      | (go_at_call 125; (with_reducible refine (HN.out _).mono ?_); rintro e1 w1 ⟨rfl, rfl⟩)
      | (go_at_call 134; (with_reducible refine (HM.out _ _).mono ?_); rintro e1 w1 ⟨rfl, hb1⟩))
    go_ret
    exact ⟨rfl, hb1⟩
theorem packI_nat' (n : Nat) (e : Int) : packI (n : Int) e = sg false (pat n e false) := by
  by_cases h : n = 0
  · subst h; unfold packI; rw [if_pos (by rfl), pat_zero, sg_false]
  · exact packI_pos e h
theorem rFrom_c (lo hi : Int) (hl : Cell64 lo) (hh : Cell64 hi) (w : World) : Calls Tryz.prog 116 #[.int .i64 lo, .int .i64 hi] w fun e w' => e = .returned (.int .u64 ((fromV lo hi : Nat) : Int)) ∧ Below w.heap.size w w' := by
  have b0 := hl.1
  have b1 := hl.2
  have b2 := hh.1
  have b3 := hh.2
  unfold fromV
  by_cases hn : hi < 0
  · obtain ⟨M, hM⟩ : ∃ M : Nat, dI lo hi = -(M : Int) := ⟨(-(dI lo hi)).toNat, by unfold dI; omega⟩
    have M0 : M ≠ 0 := by unfold dI at hM; omega
    rw [hM, packI_neg 0 M0]
    have HN := fun w => rNeg2_c lo hi hl hh w
    rw [hM, Int.neg_neg] at HN
    have cl : Cell64 (wr (M : Int)) := by unfold Cell64 wr; omega
    have ch : Cell64 (wr ((M : Int) / 18446744073709551616)) := by unfold Cell64 wr; omega
    have hMb : M < 340282366920938463463374607431768211456 := by unfold dI at hM; omega
    have hS : wr (M : Int) % 18446744073709551616 + 18446744073709551616 * (wr ((M : Int) / 18446744073709551616) % 18446744073709551616) = (M : Int) := by unfold wr; omega
    obtain ⟨l, hll⟩ : ∃ l, wr (M : Int) = l := ⟨_, rfl⟩
    obtain ⟨h, hhh⟩ : ∃ l, wr ((M : Int) / 18446744073709551616) = l := ⟨_, rfl⟩
    rw [hll] at HN hS cl
    rw [hhh] at HN hS ch
    refine rFrom_neg lo hi l h _ _ _ _ cl ch hn _ (Lib.hid HN) (by omega) rfl rfl rfl rfl (Lib.hid (fun w t => rmake4 true _ _ _ _ M (by omega) (by omega) (by omega) (by omega) ?_ w t)) w
    simp only [IntKind.wrap_u64]; omega
  · obtain ⟨M, hM⟩ : ∃ M : Nat, dI lo hi = (M : Int) := ⟨(dI lo hi).toNat, by unfold dI; omega⟩
    rw [hM, packI_nat']
    refine rFrom_pos lo hi _ _ _ _ hl hh hn _ rfl rfl rfl rfl (Lib.hid (fun w t => rmake4 false _ _ _ _ M (by omega) (by omega) (by omega) (by omega) ?_ w t)) w
    simp only [IntKind.wrap_u64]; unfold dI at hM; omega
end Go.Proofs.YtkifdppppihjcaaGreat

namespace Go.Proofs.YtkifdppppihjcaaGreat
set_option linter.unusedVariables false
set_option linter.unusedSimpArgs false
open Go.RowKit Go.Shelf SF
set_option maxRecDepth 100000 in
set_option maxHeartbeats 2000000 in
theorem rTo_bad (a : Nat) (tt : Int) (HT : Hid (∀ w, Calls Tryz.prog 65 #[.int .u64 a] w fun e w' => e = .returned (.int .u64 tt) ∧ Below w.heap.size w w')) (SB : Hid (∀ w, Calls Tryz.prog 119 #[.int .u64 tt] w fun e w' => e = .returned (.tuple #[.bool false, .slice none 0 0, .int .i64 0, .bool false]) ∧ w = w')) (w : World) : Calls Tryz.prog 67 #[.int .u64 a] w fun e w' => e = .returned (.tuple #[.int .i64 (0), .int .i64 (0), .int .i64 (-43)]) ∧ Below w.heap.size w w' := by
  go_enter Tryz.func67, Tryz.ntmps67
  go_wp2_with (first
    | (go_at_call 65; (with_reducible refine (HT.out _).mono ?_); rintro e0 w0 ⟨rfl, hb0⟩)
    | (go_at_call 119; (with_reducible refine (SB.out _).mono ?_); rintro e1 w1 ⟨rfl, rfl⟩))
  go_ret3
  exact ⟨rfl, hb0⟩
set_option maxRecDepth 100000 in
set_option maxHeartbeats 2000000 in
theorem rTo_far (a : Nat) (tt : Int) (HT : Hid (∀ w, Calls Tryz.prog 65 #[.int .u64 a] w fun e w' => e = .returned (.int .u64 tt) ∧ Below w.heap.size w w')) (p : Bool) (A : Nat) (e : Int) (SA : Hid (∀ w, Calls Tryz.prog 119 #[.int .u64 tt] w (Sp w p A e))) (he : 200 < e) (w : World) : Calls Tryz.prog 67 #[.int .u64 a] w fun e w' => e = .returned (.tuple #[.int .i64 (0), .int .i64 (0), .int .i64 (-43)]) ∧ Below w.heap.size w w' := by
  go_enter Tryz.func67, Tryz.ntmps67
  go_wp2_with (first
    | (go_at_call 65; (with_reducible refine (HT.out _).mono ?_); rintro e0 w0 ⟨rfl, hb0⟩)
    | (go_at_call 119; (with_reducible refine (SA.out _).mono ?_); rintro e1 w1 ⟨a1, n1, c1, rfl, hv1, hb1⟩))
  go_ret3
  exact ⟨rfl, btn hb0 hb1⟩
set_option maxRecDepth 100000 in
set_option maxHeartbeats 2000000 in
theorem rTo_big (a : Nat) (tt : Int) (HT : Hid (∀ w, Calls Tryz.prog 65 #[.int .u64 a] w fun e w' => e = .returned (.int .u64 tt) ∧ Below w.heap.size w w')) (A : Nat) (e : Int) (SA : Hid (∀ w, Calls Tryz.prog 119 #[.int .u64 tt] w (Sp w false A e))) (he : -1074 ≤ e ∧ e ≤ 200) (M : Nat) (HS : Hid (∀ (w1 : World) (a1 : Option Addr) (n1 c1 : Nat), Nw w1 (.slice a1 n1 c1) (A) → Calls Tryz.prog 120 #[.slice a1 n1 c1, .int .i64 (e)] w1 (OneOk w1 (M)))) (n : Int) (HB : Hid (∀ (w1 : World) (a1 : Option Addr) (n1 c1 : Nat), Nw w1 (.slice a1 n1 c1) M → Calls Tryz.prog 121 #[.slice a1 n1 c1] w1 fun e w' => e = .returned (.int .i64 n) ∧ w1 = w')) (HOf : Hid (∀ w1, Calls Tryz.prog 122 #[.int .u64 1] w1 (One w1 1))) (L : Nat) (HS2 : Hid (∀ (w1 : World) (a1 : Option Addr) (n1 c1 : Nat), Nw w1 (.slice a1 n1 c1) (1) → Calls Tryz.prog 120 #[.slice a1 n1 c1, .int .i64 (127)] w1 (OneOk w1 (L)))) (hn : 127 < n) (w : World) : Calls Tryz.prog 67 #[.int .u64 a] w fun e w' => e = .returned (.tuple #[.int .i64 (0), .int .i64 (0), .int .i64 (-43)]) ∧ Below w.heap.size w w' := by
  go_enter Tryz.func67, Tryz.ntmps67
  go_wp2_with (first
    | (go_at_call 65; (with_reducible refine (HT.out _).mono ?_); rintro e0 w0 ⟨rfl, hb0⟩)
    | (go_at_call 119; (with_reducible refine (SA.out _).mono ?_); rintro e1 w1 ⟨a1, n1, c1, rfl, hv1, hb1⟩)
    | (go_at_call 120; (with_reducible refine (HS.out _ _ _ _ hv1).mono ?_); rintro e2 w2 ⟨a2, n2, c2, rfl, hv2, hb2⟩)
    | (go_at_call 121; (with_reducible refine (HB.out _ _ _ _ hv2).mono ?_); rintro e3 w3 ⟨rfl, rfl⟩)
    | (go_at_call 122; (with_reducible refine (HOf.out _).mono ?_); rintro e4 w4 ⟨a4, n4, c4, rfl, hv4, hb4⟩)
    | (go_at_call 120; (with_reducible refine (HS2.out _ _ _ _ hv4).mono ?_); rintro e5 w5 ⟨a5, n5, c5, rfl, hv5, hb5⟩))
  go_ret3
  exact ⟨rfl, btn hb0 (btn hb1 (btn hb2 (btn hb4 hb5)))⟩
set_option maxRecDepth 100000 in
set_option maxHeartbeats 2000000 in
theorem rTo_bign (a : Nat) (tt : Int) (HT : Hid (∀ w, Calls Tryz.prog 65 #[.int .u64 a] w fun e w' => e = .returned (.int .u64 tt) ∧ Below w.heap.size w w')) (A : Nat) (e : Int) (SA : Hid (∀ w, Calls Tryz.prog 119 #[.int .u64 tt] w (Sp w true A e))) (he : -1074 ≤ e ∧ e ≤ 200) (M : Nat) (HS : Hid (∀ (w1 : World) (a1 : Option Addr) (n1 c1 : Nat), Nw w1 (.slice a1 n1 c1) (A) → Calls Tryz.prog 120 #[.slice a1 n1 c1, .int .i64 (e)] w1 (OneOk w1 (M)))) (n : Int) (HB : Hid (∀ (w1 : World) (a1 : Option Addr) (n1 c1 : Nat), Nw w1 (.slice a1 n1 c1) M → Calls Tryz.prog 121 #[.slice a1 n1 c1] w1 fun e w' => e = .returned (.int .i64 n) ∧ w1 = w')) (HOf : Hid (∀ w1, Calls Tryz.prog 122 #[.int .u64 1] w1 (One w1 1))) (L : Nat) (HS2 : Hid (∀ (w1 : World) (a1 : Option Addr) (n1 c1 : Nat), Nw w1 (.slice a1 n1 c1) (1) → Calls Tryz.prog 120 #[.slice a1 n1 c1, .int .i64 (127)] w1 (OneOk w1 (L)))) (hn : 127 < n) (t : Int) (HC : Hid (∀ (w1 : World) (a1 : Option Addr) (n1 c1 : Nat) (a2 : Option Addr) (n2 c2 : Nat), Nw w1 (.slice a1 n1 c1) (M) → Nw w1 (.slice a2 n2 c2) (L) → Calls Tryz.prog 123 #[.slice a1 n1 c1, .slice a2 n2 c2] w1 fun e w' => e = .returned (.int .i64 t) ∧ Below w1.heap.size w1 w')) (hz : (t == 0) = false) (w : World) : Calls Tryz.prog 67 #[.int .u64 a] w fun e w' => e = .returned (.tuple #[.int .i64 (0), .int .i64 (0), .int .i64 (-43)]) ∧ Below w.heap.size w w' := by
  go_enter Tryz.func67, Tryz.ntmps67
  go_wp2_with (first
    | (go_at_call 65; (with_reducible refine (HT.out _).mono ?_); rintro e0 w0 ⟨rfl, hb0⟩)
    | (go_at_call 119; (with_reducible refine (SA.out _).mono ?_); rintro e1 w1 ⟨a1, n1, c1, rfl, hv1, hb1⟩)
    | (go_at_call 120; (with_reducible refine (HS.out _ _ _ _ hv1).mono ?_); rintro e2 w2 ⟨a2, n2, c2, rfl, hv2, hb2⟩)
    | (go_at_call 121; (with_reducible refine (HB.out _ _ _ _ hv2).mono ?_); rintro e3 w3 ⟨rfl, rfl⟩)
    | (go_at_call 122; (with_reducible refine (HOf.out _).mono ?_); rintro e4 w4 ⟨a4, n4, c4, rfl, hv4, hb4⟩)
    | (go_at_call 120; (with_reducible refine (HS2.out _ _ _ _ hv4).mono ?_); rintro e5 w5 ⟨a5, n5, c5, rfl, hv5, hb5⟩)
    | (go_at_call 123; (with_reducible refine (HC.out _ _ _ _ _ _ _ (hv2.below (btn hb4 hb5)) hv5).mono ?_); rintro e6 w6 ⟨rfl, hb6⟩))
  go_ret3
  exact ⟨rfl, btn hb0 (btn hb1 (btn hb2 (btn hb4 (btn hb5 hb6))))⟩
set_option maxRecDepth 100000 in
set_option maxHeartbeats 2000000 in
theorem rTo_pos (a : Nat) (tt : Int) (HT : Hid (∀ w, Calls Tryz.prog 65 #[.int .u64 a] w fun e w' => e = .returned (.int .u64 tt) ∧ Below w.heap.size w w')) (A : Nat) (e : Int) (SA : Hid (∀ w, Calls Tryz.prog 119 #[.int .u64 tt] w (Sp w false A e))) (he : -1074 ≤ e ∧ e ≤ 200) (M : Nat) (HS : Hid (∀ (w1 : World) (a1 : Option Addr) (n1 c1 : Nat), Nw w1 (.slice a1 n1 c1) (A) → Calls Tryz.prog 120 #[.slice a1 n1 c1, .int .i64 (e)] w1 (OneOk w1 (M)))) (n : Int) (HB : Hid (∀ (w1 : World) (a1 : Option Addr) (n1 c1 : Nat), Nw w1 (.slice a1 n1 c1) M → Calls Tryz.prog 121 #[.slice a1 n1 c1] w1 fun e w' => e = .returned (.int .i64 n) ∧ w1 = w')) (HOf : Hid (∀ w1, Calls Tryz.prog 122 #[.int .u64 1] w1 (One w1 1))) (L : Nat) (HS2 : Hid (∀ (w1 : World) (a1 : Option Addr) (n1 c1 : Nat), Nw w1 (.slice a1 n1 c1) (1) → Calls Tryz.prog 120 #[.slice a1 n1 c1, .int .i64 (127)] w1 (OneOk w1 (L)))) (hn : ¬ 127 < n) (lo hi l h : Int) (HL : Hid (∀ (w1 : World) (a1 : Option Addr) (n1 c1 : Nat), Nw w1 (.slice a1 n1 c1) M → Calls Tryz.prog 124 #[.slice a1 n1 c1] w1 fun e w' => e = .returned (.int .u64 l) ∧ w1 = w')) (N : Nat) (HS3 : Hid (∀ (w1 : World) (a1 : Option Addr) (n1 c1 : Nat), Nw w1 (.slice a1 n1 c1) (M) → Calls Tryz.prog 120 #[.slice a1 n1 c1, .int .i64 (-64)] w1 (OneOk w1 (N)))) (HL2 : Hid (∀ (w1 : World) (a1 : Option Addr) (n1 c1 : Nat), Nw w1 (.slice a1 n1 c1) N → Calls Tryz.prog 124 #[.slice a1 n1 c1] w1 fun e w' => e = .returned (.int .u64 h) ∧ w1 = w')) (e1 : IntKind.i64.wrap l = lo) (e2 : IntKind.i64.wrap h = hi) (w : World) : Calls Tryz.prog 67 #[.int .u64 a] w fun e w' => e = .returned (.tuple #[.int .i64 (lo), .int .i64 (hi), .int .i64 (0)]) ∧ Below w.heap.size w w' := by
  go_enter Tryz.func67, Tryz.ntmps67
  go_wp2_with (first
    | (go_at_call 65; (with_reducible refine (HT.out _).mono ?_); rintro e0 w0 ⟨rfl, hb0⟩)
    | (go_at_call 119; (with_reducible refine (SA.out _).mono ?_); rintro e1 w1 ⟨a1, n1, c1, rfl, hv1, hb1⟩)
    | (go_at_call 120; (with_reducible refine (HS.out _ _ _ _ hv1).mono ?_); rintro e2 w2 ⟨a2, n2, c2, rfl, hv2, hb2⟩)
    | (go_at_call 121; (with_reducible refine (HB.out _ _ _ _ hv2).mono ?_); rintro e3 w3 ⟨rfl, rfl⟩)
    | (go_at_call 122; (with_reducible refine (HOf.out _).mono ?_); rintro e4 w4 ⟨a4, n4, c4, rfl, hv4, hb4⟩)
    | (go_at_call 120; (with_reducible refine (HS2.out _ _ _ _ hv4).mono ?_); rintro e5 w5 ⟨a5, n5, c5, rfl, hv5, hb5⟩)
    | (go_at_call 124; (with_reducible refine (HL.out _ _ _ _ (hv2.below (btn hb4 hb5))).mono ?_); rintro e7 w7 ⟨rfl, rfl⟩)
    | (go_at_call 120; (with_reducible refine (HS3.out _ _ _ _ (hv2.below (btn hb4 hb5))).mono ?_); rintro e8 w8 ⟨a8, n8, c8, rfl, hv8, hb8⟩)
    | (go_at_call 124; (with_reducible refine (HL2.out _ _ _ _ hv8).mono ?_); rintro e9 w9 ⟨rfl, rfl⟩))
  go_ret3
  exact ⟨rfl, btn (btn hb0 (btn hb1 (btn hb2 (btn hb4 hb5)))) hb8⟩
set_option maxRecDepth 100000 in
set_option maxHeartbeats 2000000 in
theorem rTo_neg (a : Nat) (tt : Int) (HT : Hid (∀ w, Calls Tryz.prog 65 #[.int .u64 a] w fun e w' => e = .returned (.int .u64 tt) ∧ Below w.heap.size w w')) (A : Nat) (e : Int) (SA : Hid (∀ w, Calls Tryz.prog 119 #[.int .u64 tt] w (Sp w true A e))) (he : -1074 ≤ e ∧ e ≤ 200) (M : Nat) (HS : Hid (∀ (w1 : World) (a1 : Option Addr) (n1 c1 : Nat), Nw w1 (.slice a1 n1 c1) (A) → Calls Tryz.prog 120 #[.slice a1 n1 c1, .int .i64 (e)] w1 (OneOk w1 (M)))) (n : Int) (HB : Hid (∀ (w1 : World) (a1 : Option Addr) (n1 c1 : Nat), Nw w1 (.slice a1 n1 c1) M → Calls Tryz.prog 121 #[.slice a1 n1 c1] w1 fun e w' => e = .returned (.int .i64 n) ∧ w1 = w')) (HOf : Hid (∀ w1, Calls Tryz.prog 122 #[.int .u64 1] w1 (One w1 1))) (L : Nat) (HS2 : Hid (∀ (w1 : World) (a1 : Option Addr) (n1 c1 : Nat), Nw w1 (.slice a1 n1 c1) (1) → Calls Tryz.prog 120 #[.slice a1 n1 c1, .int .i64 (127)] w1 (OneOk w1 (L)))) (hn : ¬ 127 < n) (lo hi l h : Int) (HL : Hid (∀ (w1 : World) (a1 : Option Addr) (n1 c1 : Nat), Nw w1 (.slice a1 n1 c1) M → Calls Tryz.prog 124 #[.slice a1 n1 c1] w1 fun e w' => e = .returned (.int .u64 l) ∧ w1 = w')) (N : Nat) (HS3 : Hid (∀ (w1 : World) (a1 : Option Addr) (n1 c1 : Nat), Nw w1 (.slice a1 n1 c1) (M) → Calls Tryz.prog 120 #[.slice a1 n1 c1, .int .i64 (-64)] w1 (OneOk w1 (N)))) (HL2 : Hid (∀ (w1 : World) (a1 : Option Addr) (n1 c1 : Nat), Nw w1 (.slice a1 n1 c1) N → Calls Tryz.prog 124 #[.slice a1 n1 c1] w1 fun e w' => e = .returned (.int .u64 h) ∧ w1 = w')) (e1 : IntKind.i64.wrap l = lo) (e2 : IntKind.i64.wrap h = hi) (x y : Int) (HN : Hid (∀ w, Calls Tryz.prog 125 #[.int .i64 lo, .int .i64 hi] w fun e w' => e = .returned (.tuple #[.int .i64 x, .int .i64 y]) ∧ w = w')) (w : World) : Calls Tryz.prog 67 #[.int .u64 a] w fun e w' => e = .returned (.tuple #[.int .i64 (x), .int .i64 (y), .int .i64 (0)]) ∧ Below w.heap.size w w' := by
  go_enter Tryz.func67, Tryz.ntmps67
  go_wp2_with (first
    | (go_at_call 65; (with_reducible refine (HT.out _).mono ?_); rintro e0 w0 ⟨rfl, hb0⟩)
    | (go_at_call 119; (with_reducible refine (SA.out _).mono ?_); rintro e1 w1 ⟨a1, n1, c1, rfl, hv1, hb1⟩)
    | (go_at_call 120; (with_reducible refine (HS.out _ _ _ _ hv1).mono ?_); rintro e2 w2 ⟨a2, n2, c2, rfl, hv2, hb2⟩)
    | (go_at_call 121; (with_reducible refine (HB.out _ _ _ _ hv2).mono ?_); rintro e3 w3 ⟨rfl, rfl⟩)
    | (go_at_call 122; (with_reducible refine (HOf.out _).mono ?_); rintro e4 w4 ⟨a4, n4, c4, rfl, hv4, hb4⟩)
    | (go_at_call 120; (with_reducible refine (HS2.out _ _ _ _ hv4).mono ?_); rintro e5 w5 ⟨a5, n5, c5, rfl, hv5, hb5⟩)
    | (go_at_call 124; (with_reducible refine (HL.out _ _ _ _ (hv2.below (btn hb4 hb5))).mono ?_); rintro e7 w7 ⟨rfl, rfl⟩)
    | (go_at_call 120; (with_reducible refine (HS3.out _ _ _ _ (hv2.below (btn hb4 hb5))).mono ?_); rintro e8 w8 ⟨a8, n8, c8, rfl, hv8, hb8⟩)
    | (go_at_call 124; (with_reducible refine (HL2.out _ _ _ _ hv8).mono ?_); rintro e9 w9 ⟨rfl, rfl⟩)
    | (go_at_call 125; (with_reducible refine (HN.out _).mono ?_); rintro e10 w10 ⟨rfl, rfl⟩))
  go_ret3
  exact ⟨rfl, btn (btn hb0 (btn hb1 (btn hb2 (btn hb4 hb5)))) hb8⟩
set_option maxRecDepth 100000 in
set_option maxHeartbeats 2000000 in
theorem rTo_min (a : Nat) (tt : Int) (HT : Hid (∀ w, Calls Tryz.prog 65 #[.int .u64 a] w fun e w' => e = .returned (.int .u64 tt) ∧ Below w.heap.size w w')) (A : Nat) (e : Int) (SA : Hid (∀ w, Calls Tryz.prog 119 #[.int .u64 tt] w (Sp w true A e))) (he : -1074 ≤ e ∧ e ≤ 200) (M : Nat) (HS : Hid (∀ (w1 : World) (a1 : Option Addr) (n1 c1 : Nat), Nw w1 (.slice a1 n1 c1) (A) → Calls Tryz.prog 120 #[.slice a1 n1 c1, .int .i64 (e)] w1 (OneOk w1 (M)))) (n : Int) (HB : Hid (∀ (w1 : World) (a1 : Option Addr) (n1 c1 : Nat), Nw w1 (.slice a1 n1 c1) M → Calls Tryz.prog 121 #[.slice a1 n1 c1] w1 fun e w' => e = .returned (.int .i64 n) ∧ w1 = w')) (HOf : Hid (∀ w1, Calls Tryz.prog 122 #[.int .u64 1] w1 (One w1 1))) (L : Nat) (HS2 : Hid (∀ (w1 : World) (a1 : Option Addr) (n1 c1 : Nat), Nw w1 (.slice a1 n1 c1) (1) → Calls Tryz.prog 120 #[.slice a1 n1 c1, .int .i64 (127)] w1 (OneOk w1 (L)))) (hn : 127 < n) (t : Int) (HC : Hid (∀ (w1 : World) (a1 : Option Addr) (n1 c1 : Nat) (a2 : Option Addr) (n2 c2 : Nat), Nw w1 (.slice a1 n1 c1) (M) → Nw w1 (.slice a2 n2 c2) (L) → Calls Tryz.prog 123 #[.slice a1 n1 c1, .slice a2 n2 c2] w1 fun e w' => e = .returned (.int .i64 t) ∧ Below w1.heap.size w1 w')) (ht : t = 0) (lo hi l h : Int) (HL : Hid (∀ (w1 : World) (a1 : Option Addr) (n1 c1 : Nat), Nw w1 (.slice a1 n1 c1) M → Calls Tryz.prog 124 #[.slice a1 n1 c1] w1 fun e w' => e = .returned (.int .u64 l) ∧ w1 = w')) (N : Nat) (HS3 : Hid (∀ (w1 : World) (a1 : Option Addr) (n1 c1 : Nat), Nw w1 (.slice a1 n1 c1) (M) → Calls Tryz.prog 120 #[.slice a1 n1 c1, .int .i64 (-64)] w1 (OneOk w1 (N)))) (HL2 : Hid (∀ (w1 : World) (a1 : Option Addr) (n1 c1 : Nat), Nw w1 (.slice a1 n1 c1) N → Calls Tryz.prog 124 #[.slice a1 n1 c1] w1 fun e w' => e = .returned (.int .u64 h) ∧ w1 = w')) (e1 : IntKind.i64.wrap l = lo) (e2 : IntKind.i64.wrap h = hi) (x y : Int) (HN : Hid (∀ w, Calls Tryz.prog 125 #[.int .i64 lo, .int .i64 hi] w fun e w' => e = .returned (.tuple #[.int .i64 x, .int .i64 y]) ∧ w = w')) (w : World) : Calls Tryz.prog 67 #[.int .u64 a] w fun e w' => e = .returned (.tuple #[.int .i64 (x), .int .i64 (y), .int .i64 (0)]) ∧ Below w.heap.size w w' := by
  go_enter Tryz.func67, Tryz.ntmps67
  go_wp2_with (first
    | (go_at_call 65; (with_reducible refine (HT.out _).mono ?_); rintro e0 w0 ⟨rfl, hb0⟩)
    | (go_at_call 119; (with_reducible refine (SA.out _).mono ?_); rintro e1 w1 ⟨a1, n1, c1, rfl, hv1, hb1⟩)
    | (go_at_call 120; (with_reducible refine (HS.out _ _ _ _ hv1).mono ?_); rintro e2 w2 ⟨a2, n2, c2, rfl, hv2, hb2⟩)
    | (go_at_call 121; (with_reducible refine (HB.out _ _ _ _ hv2).mono ?_); rintro e3 w3 ⟨rfl, rfl⟩)
    | (go_at_call 122; (with_reducible refine (HOf.out _).mono ?_); rintro e4 w4 ⟨a4, n4, c4, rfl, hv4, hb4⟩)
    | (go_at_call 120; (with_reducible refine (HS2.out _ _ _ _ hv4).mono ?_); rintro e5 w5 ⟨a5, n5, c5, rfl, hv5, hb5⟩)
    | (go_at_call 123; (with_reducible refine (HC.out _ _ _ _ _ _ _ (hv2.below (btn hb4 hb5)) hv5).mono ?_); rintro e6 w6 ⟨rfl, hb6⟩)
    | (go_at_call 124; (with_reducible refine (HL.out _ _ _ _ (hv2.below (btn hb4 (btn hb5 hb6)))).mono ?_); rintro e7 w7 ⟨rfl, rfl⟩)
    | (go_at_call 120; (with_reducible refine (HS3.out _ _ _ _ (hv2.below (btn hb4 (btn hb5 hb6)))).mono ?_); rintro e8 w8 ⟨a8, n8, c8, rfl, hv8, hb8⟩)
    | (go_at_call 124; (with_reducible refine (HL2.out _ _ _ _ hv8).mono ?_); rintro e9 w9 ⟨rfl, rfl⟩)
    | (go_at_call 125; (with_reducible refine (HN.out _).mono ?_); rintro e10 w10 ⟨rfl, rfl⟩))
  go_ret3
  exact ⟨rfl, btn (btn hb0 (btn hb1 (btn hb2 (btn hb4 (btn hb5 hb6))))) hb8⟩
theorem W_wholeV0 {a : Nat} (ha : W a) : W (wholeV 0 a) := by
  unfold wholeV
  split; exact W_of (by decide)
  split; exact ha
  split; exact ha
  exact W_sg (by have := pat_le (wq 0 (ng a) (sm a) (-se a).toNat) 0 false; omega)
theorem whole_bad {a : Nat} (h : nan a = true ∨ inf a = true) : nan (wholeV 0 a) = true ∨ inf (wholeV 0 a) = true := by
  by_cases h1 : nan a = true
  · left; rw [show wholeV 0 a = NaN by simp [wholeV, h1]]; decide
  · have h2 : inf a = true := by rcases h with h | h; exact absurd h h1; exact h
    right; rw [show wholeV 0 a = a by simp [wholeV, h1, h2]]; exact h2
theorem pat53 {m : Nat} (h : bl m ≤ 53) : pat m 0 false < 9218868437227405312 := by
  by_cases h0 : m = 0
  · rw [h0, pat_zero]; decide
  · have hn := (nf false h0 h (e := 0) (by have := bl_pos h0; omega) (by omega))
    unfold pat
    rw [patG_fit (by decide) h0 (by unfold qz; omega) (by unfold qz; omega) (by decide)]
    have hq : qz 53 (-1074) (bl m) 0 = (bl m : Int) - 53 := by unfold qz; have := bl_pos h0; omega
    rw [hq]
    have hl := bl_lt m
    have hv : m * 2 ^ (0 - ((bl m : Int) - 53)).toNat < 2 ^ 53 := by
      calc m * 2 ^ (0 - ((bl m : Int) - 53)).toNat < 2 ^ bl m * 2 ^ (0 - ((bl m : Int) - 53)).toNat := Nat.mul_lt_mul_of_pos_right hl (Nat.two_pow_pos _)
        _ = 2 ^ 53 := by rw [← Nat.pow_add]; congr 1; omega
    rw [show (2 : Nat) ^ 53 = 9007199254740992 by decide] at hv
    rw [show (2 : Nat) ^ (53 - 1) = 4503599627370496 by decide]
    have : ((bl m : Int) - 53 - -1074).toNat ≤ 1074 := by omega
    omega
theorem whole_good {a : Nat} (h1 : nan a = false) (h2 : inf a = false) : nan (wholeV 0 a) = false ∧ inf (wholeV 0 a) = false := by
  unfold wholeV
  rw [if_neg (by rw [h1]; decide)]
  split
  · exact ⟨h1, h2⟩
  · split
    · exact ⟨h1, h2⟩
    · rw [wq_trunc]
      have hb : bl (sm a / 2 ^ (-se a).toNat) ≤ 53 := bl_mono' (Nat.div_le_self _ _) (bl_sm a)
      have hp := pat53 hb
      have hm : mag (sg (ng a) (pat (sm a / 2 ^ (-se a).toNat) 0 false)) = pat (sm a / 2 ^ (-se a).toNat) 0 false := mag_sg (by omega)
      unfold nan inf
      rw [hm]
      exact ⟨decide_eq_false (by omega), decide_eq_false (by omega)⟩
theorem to_neg {M : Nat} (h : M ≤ 170141183460469231731687303715884105728) : wr (-(M : Int)) = wr (-(dI (wr ((M % 18446744073709551616 : Nat) : Int)) (wr ((M / 18446744073709551616 % 18446744073709551616 : Nat) : Int)))) ∧ -(M : Int) / 18446744073709551616 = wr (-(dI (wr ((M % 18446744073709551616 : Nat) : Int)) (wr ((M / 18446744073709551616 % 18446744073709551616 : Nat) : Int))) / 18446744073709551616) := by
  have f1 : wr ((M % 18446744073709551616 : Nat) : Int) % 18446744073709551616 = (M : Int) % 18446744073709551616 := by unfold wr; omega
  obtain ⟨m, hm⟩ : ∃ m : Int, (M : Int) = m := ⟨_, rfl⟩
  have m0 : 0 ≤ m := by omega
  have m1 : m ≤ 170141183460469231731687303715884105728 := by omega
  have f2 : wr ((M / 18446744073709551616 % 18446744073709551616 : Nat) : Int) = if m = 170141183460469231731687303715884105728 then -9223372036854775808 else m / 18446744073709551616 := by
    have e : ((M / 18446744073709551616 % 18446744073709551616 : Nat) : Int) = m / 18446744073709551616 % 18446744073709551616 := by omega
    rw [e]
    clear e f1 hm h
    unfold wr
    by_cases c : m = 170141183460469231731687303715884105728
    · rw [if_pos c]; omega
    · rw [if_neg c]; omega
  unfold dI
  rw [f1, f2, hm]
  clear f1 f2 hm h
  unfold wr
  by_cases c : m = 170141183460469231731687303715884105728
  · rw [if_pos c]; omega
  · rw [if_neg c]; omega
set_option maxHeartbeats 2000000 in
theorem rTo_c (a : Nat) (ha : W a) (w : World) : Calls Tryz.prog 67 #[.int .u64 a] w fun e w' => e = .returned (.tuple #[.int .i64 (toLo a), .int .i64 (toHi a), .int .i64 (toT a)]) ∧ Below w.heap.size w w' := by
  have HT := Lib.hid (rTrunc_c a ha)
  have tW := W_wholeV0 ha
  by_cases bad : nan a = true ∨ inf a = true
  · have F : toFail a = true := by unfold toFail; rcases bad with h | h <;> rw [h] <;> simp
    rw [show toLo a = 0 by unfold toLo; rw [if_pos F], show toHi a = 0 by unfold toHi; rw [if_pos F], show toT a = -43 by unfold toT; rw [if_pos F]]
    exact rTo_bad a _ HT (Lib.hid (rsplit_bad _ tW (whole_bad bad))) w
  have n1 : nan a = false := Bool.eq_false_iff.2 (fun h => bad (.inl h))
  have i1 : inf a = false := Bool.eq_false_iff.2 (fun h => bad (.inr h))
  have F : toFail a = toBad (wholeV 0 a) := by unfold toFail; rw [n1, i1]; rfl
  have eLo : toLo a = if toBad (wholeV 0 a) = true then 0 else wr (toI (wholeV 0 a)) := by unfold toLo; rw [F]
  have eHi : toHi a = if toBad (wholeV 0 a) = true then 0 else toI (wholeV 0 a) / 18446744073709551616 := by unfold toHi; rw [F]
  have eT : toT a = if toBad (wholeV 0 a) = true then -43 else 0 := by unfold toT; rw [F]
  rw [eLo, eHi, eT]
  obtain ⟨g1, g2⟩ := whole_good n1 i1
  obtain ⟨t, ht⟩ : ∃ t, wholeV 0 a = t := ⟨_, rfl⟩
  rw [ht] at HT tW g1 g2 ⊢
  clear ht eLo eHi eT F bad n1 i1
  have SA := fun w => rsplit_c t tW g1 g2 w
  have la := se_ge t
  have ua := se_le g1 g2
  have bA := bl_sm t
  have tb : toBad t = (decide (170141183460469231731687303715884105728 ≤ toM t) && !(ng t && decide (toM t = 170141183460469231731687303715884105728))) := rfl
  by_cases far : 200 < se t
  · have hs := sm_norm (a := t) (by omega)
    have hM : toM t = sm t * 2 ^ (se t).toNat := by unfold toM; rw [if_pos (by omega)]
    have big : 170141183460469231731687303715884105728 < toM t := by
      rw [hM]
      calc 170141183460469231731687303715884105728 < 4503599627370496 * 2 ^ 200 := by decide
        _ ≤ sm t * 2 ^ (se t).toNat := Nat.mul_le_mul hs (pow_le (by omega))
    have B : toBad t = true := by rw [tb, decide_eq_true (by omega), decide_eq_false (by omega)]; cases ng t <;> rfl
    rw [if_pos B, if_pos B, if_pos B]
    exact rTo_far a _ HT _ _ _ (Lib.hid SA) far w
  have hMb : bl (toM t) ≤ 253 := by
    unfold toM
    split
    · have := bl_shl (sm t) (se t).toNat; omega
    · exact Nat.le_trans (bl_mono (Nat.div_le_self _ _)) (by omega)
  have HS : Hid (∀ (w1 : World) (a1 : Option Addr) (n1 c1 : Nat), Nw w1 (.slice a1 n1 c1) (sm t) → Calls Tryz.prog 120 #[.slice a1 n1 c1, .int .i64 (se t)] w1 (OneOk w1 (toM t))) := fun w1 a1 n1 c1 h => by
    by_cases c : 0 ≤ se t
    · have hM : toM t = sm t * 2 ^ (se t).toNat := by unfold toM; rw [if_pos c]
      have := rshl_n (se t).toNat h (by omega)
      rw [show (((se t).toNat : Nat) : Int) = se t by omega] at this
      rw [hM]; exact this
    · have hM : toM t = sm t / 2 ^ (-se t).toNat := by unfold toM; rw [if_neg c]
      have := rshr_n (-se t).toNat h (by omega) (by omega)
      rw [show -(((-se t).toNat : Nat) : Int) = se t by omega] at this
      rw [hM]; exact this
  have HB := Lib.hid (fun (w1 : World) (a1 : Option Addr) (n1 c1 : Nat) (h : Nw w1 (.slice a1 n1 c1) (toM t)) => rbits_n h (by omega))
  have HOf : Hid (∀ w1, Calls Tryz.prog 122 #[.int .u64 1] w1 (One w1 1)) := fun w1 => rof_n 1 w1 (W_of (by decide))
  have b1 : bl 1 = 1 := by decide
  have HS2 : Hid (∀ (w1 : World) (a1 : Option Addr) (n1 c1 : Nat), Nw w1 (.slice a1 n1 c1) 1 → Calls Tryz.prog 120 #[.slice a1 n1 c1, .int .i64 127] w1 (OneOk w1 170141183460469231731687303715884105728)) := fun w1 a1 n1 c1 h => by
    have := rshl_n 127 h (by omega)
    rw [show (1 : Nat) * 2 ^ 127 = 170141183460469231731687303715884105728 by decide] at this
    exact this
  have bL : bl 170141183460469231731687303715884105728 = 128 := by decide
  have HC := fun (w1 : World) (a1 : Option Addr) (n1 c1 : Nat) (a2 : Option Addr) (n2 c2 : Nat) (h1 : Nw w1 (.slice a1 n1 c1) (toM t)) (h2 : Nw w1 (.slice a2 n2 c2) 170141183460469231731687303715884105728) => rcmp_n h1 (by omega) h2 (by omega)
  have HL := Lib.hid (fun (w1 : World) (a1 : Option Addr) (n1 c1 : Nat) (h : Nw w1 (.slice a1 n1 c1) (toM t)) => rlow_n h (by omega))
  have HS3 : Hid (∀ (w1 : World) (a1 : Option Addr) (n1 c1 : Nat), Nw w1 (.slice a1 n1 c1) (toM t) → Calls Tryz.prog 120 #[.slice a1 n1 c1, .int .i64 (-64)] w1 (OneOk w1 (toM t / 18446744073709551616))) := fun w1 a1 n1 c1 h => by
    have := rshr_n 64 h (by omega) (by decide)
    rw [show (2 : Nat) ^ 64 = 18446744073709551616 by decide] at this
    exact this
  have HL2 := Lib.hid (fun (w1 : World) (a1 : Option Addr) (n1 c1 : Nat) (h : Nw w1 (.slice a1 n1 c1) (toM t / 18446744073709551616)) => rlow_n h (Nat.le_trans (bl_mono (Nat.div_le_self _ _)) (by omega)))
  have he : -1074 ≤ se t ∧ se t ≤ 200 := by omega
  have hbl : 127 < bl (toM t) ↔ 170141183460469231731687303715884105728 ≤ toM t := by
    rw [show (170141183460469231731687303715884105728 : Nat) = 2 ^ 127 by decide]
    constructor
    · intro h
      rcases Nat.lt_or_ge (toM t) (2 ^ 127) with g | g
      · have := bl_le_of_lt g; omega
      · exact g
    · exact lt_bl_of_le
  have ti : toI t = if ng t = true then -(toM t : Int) else (toM t : Int) := rfl
  obtain ⟨M, hM⟩ : ∃ M, toM t = M := ⟨_, rfl⟩
  rw [hM] at tb HS HB HC HL HS3 HL2 hbl ti
  have wl : IntKind.i64.wrap ((M % 18446744073709551616 : Nat) : Int) = wr ((M % 18446744073709551616 : Nat) : Int) := by rw [IntKind.wrap_i64]; rfl
  have wh : IntKind.i64.wrap ((M / 18446744073709551616 % 18446744073709551616 : Nat) : Int) = wr ((M / 18446744073709551616 % 18446744073709551616 : Nat) : Int) := by rw [IntKind.wrap_i64]; rfl
  have cc : ∀ x : Int, Cell64 (wr x) := fun x => by unfold Cell64 wr; omega
  have HN := Lib.hid (fun w => rNeg2_c (wr ((M % 18446744073709551616 : Nat) : Int)) (wr ((M / 18446744073709551616 % 18446744073709551616 : Nat) : Int)) (cc _) (cc _) w)
  cases hp : ng t
  · rw [hp] at SA tb ti
    have SA := Lib.hid SA
    by_cases hn : (127 : Int) < (bl M : Int)
    · have B : toBad t = true := by rw [tb, decide_eq_true (hbl.1 (by omega))]; rfl
      rw [if_pos B, if_pos B, if_pos B]
      exact rTo_big a _ HT _ _ SA he _ HS _ HB HOf _ HS2 hn w
    · have hlt : ¬ 170141183460469231731687303715884105728 ≤ M := fun h => by have := hbl.2 h; omega
      have B : ¬ toBad t = true := by rw [tb, decide_eq_false hlt]; exact Bool.false_ne_true
      rw [if_neg B, if_neg B, if_neg B, ti, if_neg Bool.false_ne_true]
      have e1 : wr (M : Int) = wr ((M % 18446744073709551616 : Nat) : Int) := by unfold wr; omega
      have e2 : (M : Int) / 18446744073709551616 = wr ((M / 18446744073709551616 % 18446744073709551616 : Nat) : Int) := by unfold wr; omega
      rw [e1, e2]
      exact rTo_pos a _ HT _ _ SA he _ HS _ HB HOf _ HS2 hn _ _ _ _ HL _ HS3 HL2 wl wh w
  · rw [hp] at SA tb ti
    have SA := Lib.hid SA
    have hneg := to_neg (M := M)
    by_cases hn : (127 : Int) < (bl M : Int)
    · have hge := hbl.1 (by omega)
      obtain ⟨c, hc⟩ : ∃ c, cmpI (M : Int) ((170141183460469231731687303715884105728 : Nat) : Int) = c := ⟨_, rfl⟩
      rw [hc] at HC
      have HC := Lib.hid HC
      have hc0 : c = 0 ↔ M = 170141183460469231731687303715884105728 := by rw [← hc]; unfold cmpI; split <;> (try split) <;> omega
      by_cases eq : M = 170141183460469231731687303715884105728
      · have B : ¬ toBad t = true := by rw [tb, decide_eq_true eq]; simp
        rw [if_neg B, if_neg B, if_neg B, ti, if_pos rfl, (hneg (by omega)).1, (hneg (by omega)).2]
        exact rTo_min a _ HT _ _ SA he _ HS _ HB HOf _ HS2 hn _ HC (hc0.2 eq) _ _ _ _ HL _ HS3 HL2 wl wh _ _ HN w
      · have B : toBad t = true := by rw [tb, decide_eq_true hge, decide_eq_false eq]; rfl
        rw [if_pos B, if_pos B, if_pos B]
        exact rTo_bign a _ HT _ _ SA he _ HS _ HB HOf _ HS2 hn _ HC (beq_no (fun h => eq (hc0.1 h))) w
    · have hlt : ¬ 170141183460469231731687303715884105728 ≤ M := fun h => by have := hbl.2 h; omega
      have B : ¬ toBad t = true := by rw [tb, decide_eq_false hlt]; exact Bool.false_ne_true
      rw [if_neg B, if_neg B, if_neg B, ti, if_pos rfl, (hneg (by omega)).1, (hneg (by omega)).2]
      exact rTo_neg a _ HT _ _ SA he _ HS _ HB HOf _ HS2 hn _ _ _ _ HL _ HS3 HL2 wl wh _ _ HN w
end Go.Proofs.YtkifdppppihjcaaGreat
