/- The reference's Floor, Round, Trunc, Scale, Widen, Narrow. -/
import Derived.Test.YtecgkhijiogggaaY7
namespace Go.Proofs.Ytecgkhijiogggaa
set_option linter.unusedVariables false
set_option linter.unusedSimpArgs false
open Go.RowKit Go.Shelf SF
set_option maxRecDepth 100000 in
set_option maxHeartbeats 2000000 in
theorem rwhole_n1 (a : Nat) (how : Int) (N1 : Hid (PB 71 a true)) (w : World) : Calls Try.prog 92 #[.int .u64 a, .int .i64 how] w fun e w' => e = .returned (.int .u64 (9221120237041090560)) ∧ Below w.heap.size w w' := by
  go_enter Try.func92, Try.ntmps92
  go_wp2_with (first
    | (go_at_call 71; (with_reducible refine (N1.out _).mono ?_); rintro e1 w1 ⟨rfl, rfl⟩))
  go_ret
  exact ⟨rfl, Below.refl _ _⟩
set_option maxRecDepth 100000 in
set_option maxHeartbeats 2000000 in
theorem rwhole_i1 (a : Nat) (how : Int) (N1 : Hid (PB 71 a false)) (I1 : Hid (PB 72 a true)) (w : World) : Calls Try.prog 92 #[.int .u64 a, .int .i64 how] w fun e w' => e = .returned (.int .u64 ((a : Int))) ∧ Below w.heap.size w w' := by
  go_enter Try.func92, Try.ntmps92
  go_wp2_with (first
    | (go_at_call 71; (with_reducible refine (N1.out _).mono ?_); rintro e1 w1 ⟨rfl, rfl⟩)
    | (go_at_call 72; (with_reducible refine (I1.out _).mono ?_); rintro e1 w1 ⟨rfl, rfl⟩))
  go_ret
  exact ⟨rfl, Below.refl _ _⟩
set_option maxRecDepth 100000 in
set_option maxHeartbeats 2000000 in
theorem rwhole_z1 (a : Nat) (how : Int) (N1 : Hid (PB 71 a false)) (I1 : Hid (PB 72 a false)) (Z1 : Hid (PB 73 a true)) (w : World) : Calls Try.prog 92 #[.int .u64 a, .int .i64 how] w fun e w' => e = .returned (.int .u64 ((a : Int))) ∧ Below w.heap.size w w' := by
  go_enter Try.func92, Try.ntmps92
  go_wp2_with (first
    | (go_at_call 71; (with_reducible refine (N1.out _).mono ?_); rintro e1 w1 ⟨rfl, rfl⟩)
    | (go_at_call 72; (with_reducible refine (I1.out _).mono ?_); rintro e1 w1 ⟨rfl, rfl⟩)
    | (go_at_call 73; (with_reducible refine (Z1.out _).mono ?_); rintro e1 w1 ⟨rfl, rfl⟩))
  go_ret
  exact ⟨rfl, Below.refl _ _⟩
set_option maxRecDepth 100000 in
set_option maxHeartbeats 2000000 in
theorem rwhole_e (a : Nat) (how : Int) (N1 : Hid (PB 71 a false)) (I1 : Hid (PB 72 a false)) (Z1 : Hid (PB 73 a false)) (p : Bool) (A : Nat) (e : Int) (SA : Hid (∀ w, Calls Try.prog 60 #[.int .u64 a] w (Sp w p A e))) (he : 0 ≤ e) (w : World) : Calls Try.prog 92 #[.int .u64 a, .int .i64 how] w fun e w' => e = .returned (.int .u64 (a : Int)) ∧ Below w.heap.size w w' := by
  go_enter Try.func92, Try.ntmps92
  go_wp2_with (first
    | (go_at_call 71; (with_reducible refine (N1.out _).mono ?_); rintro e1 w1 ⟨rfl, rfl⟩)
    | (go_at_call 72; (with_reducible refine (I1.out _).mono ?_); rintro e1 w1 ⟨rfl, rfl⟩)
    | (go_at_call 73; (with_reducible refine (Z1.out _).mono ?_); rintro e1 w1 ⟨rfl, rfl⟩)
    | (go_at_call 60; (with_reducible refine (SA.out _).mono ?_); rintro e1 w1 ⟨a1, n1, c1, rfl, hv1, hb1⟩))
  go_ret
  exact ⟨rfl, hb1⟩
set_option maxRecDepth 100000 in
set_option maxHeartbeats 2000000 in
theorem rwhole_0t (a : Nat) (N1 : Hid (PB 71 a false)) (I1 : Hid (PB 72 a false)) (Z1 : Hid (PB 73 a false)) (p : Bool) (A : Nat) (e : Int) (SA : Hid (∀ w, Calls Try.prog 60 #[.int .u64 a] w (Sp w p A e))) (he : -1074 ≤ e ∧ e < 0) (c R : Int) (hc : -e = c) (Kz : Int) (K Bk Rt : Nat) (HS1 : Hid (∀ (w1 : World) (a1 : Option Addr) (n1 c1 : Nat), Nw w1 (.slice a1 n1 c1) (A) → Calls Try.prog 78 #[.slice a1 n1 c1, .int .i64 (e)] w1 (OneOk w1 (K)))) (HS2 : Hid (∀ (w1 : World) (a1 : Option Addr) (n1 c1 : Nat), Nw w1 (.slice a1 n1 c1) (K) → Calls Try.prog 78 #[.slice a1 n1 c1, .int .i64 (c)] w1 (OneOk w1 (Bk)))) (HD : Hid (∀ (w1 : World) (a1 : Option Addr) (n1 c1 : Nat) (a2 : Option Addr) (n2 c2 : Nat), Nw w1 (.slice a1 n1 c1) (A) → Nw w1 (.slice a2 n2 c2) (Bk) → Calls Try.prog 87 #[.slice a1 n1 c1, .slice a2 n2 c2] w1 (OneOk w1 Rt))) (HM : Hid (∀ (w1 : World) (a1 : Option Addr) (n1 c1 : Nat), Nw w1 (.slice a1 n1 c1) (K) → Calls Try.prog 58 #[.bool (p), .slice a1 n1 c1, .int .i64 (0)] w1 fun e w' => e = .returned (.int .u64 R) ∧ Below w1.heap.size w1 w')) (w : World) : Calls Try.prog 92 #[.int .u64 a, .int .i64 0] w fun e w' => e = .returned (.int .u64 R) ∧ Below w.heap.size w w' := by
  go_enter Try.func92, Try.ntmps92
  go_wp2_with (first
    | (go_at_call 71; (with_reducible refine (N1.out _).mono ?_); rintro e1 w1 ⟨rfl, rfl⟩)
    | (go_at_call 72; (with_reducible refine (I1.out _).mono ?_); rintro e1 w1 ⟨rfl, rfl⟩)
    | (go_at_call 73; (with_reducible refine (Z1.out _).mono ?_); rintro e1 w1 ⟨rfl, rfl⟩)
    | (go_at_call 60; (with_reducible refine (SA.out _).mono ?_); rintro e1 w1 ⟨a1, n1, c1, rfl, hv1, hb1⟩)
    | (go_at_call 78; (with_reducible refine (HS1.out _ _ _ _ hv1).mono ?_); rintro e2 w2 ⟨a2, n2, c2, rfl, hv2, hb2⟩)
    | (go_at_call 78; (with_reducible refine (HS2.out _ _ _ _ hv2).mono ?_); rintro e3 w3 ⟨a3, n3, c3, rfl, hv3, hb3⟩)
    | (go_at_call 87; (with_reducible refine (HD.out _ _ _ _ _ _ _ (hv1.below (btn hb2 hb3)) hv3).mono ?_); rintro e4 w4 ⟨a4, n4, c4, rfl, hv4, hb4⟩)
    | (go_at_call 58; (with_reducible refine (HM.out _ _ _ _ (hv2.below (btn hb3 hb4))).mono ?_); rintro e11 w11 ⟨rfl, hb11⟩))
  go_ret
  exact ⟨rfl, btn hb1 (btn hb2 (btn hb3 (btn hb4 hb11)))⟩
set_option maxRecDepth 100000 in
set_option maxHeartbeats 2000000 in
theorem rwhole_1f (a : Nat) (N1 : Hid (PB 71 a false)) (I1 : Hid (PB 72 a false)) (Z1 : Hid (PB 73 a false)) (A : Nat) (e : Int) (SA : Hid (∀ w, Calls Try.prog 60 #[.int .u64 a] w (Sp w false A e))) (he : -1074 ≤ e ∧ e < 0) (c R : Int) (hc : -e = c) (Kz : Int) (K Bk Rt : Nat) (HS1 : Hid (∀ (w1 : World) (a1 : Option Addr) (n1 c1 : Nat), Nw w1 (.slice a1 n1 c1) (A) → Calls Try.prog 78 #[.slice a1 n1 c1, .int .i64 (e)] w1 (OneOk w1 (K)))) (HS2 : Hid (∀ (w1 : World) (a1 : Option Addr) (n1 c1 : Nat), Nw w1 (.slice a1 n1 c1) (K) → Calls Try.prog 78 #[.slice a1 n1 c1, .int .i64 (c)] w1 (OneOk w1 (Bk)))) (HD : Hid (∀ (w1 : World) (a1 : Option Addr) (n1 c1 : Nat) (a2 : Option Addr) (n2 c2 : Nat), Nw w1 (.slice a1 n1 c1) (A) → Nw w1 (.slice a2 n2 c2) (Bk) → Calls Try.prog 87 #[.slice a1 n1 c1, .slice a2 n2 c2] w1 (OneOk w1 Rt))) (HM : Hid (∀ (w1 : World) (a1 : Option Addr) (n1 c1 : Nat), Nw w1 (.slice a1 n1 c1) (K) → Calls Try.prog 58 #[.bool (false), .slice a1 n1 c1, .int .i64 (0)] w1 fun e w' => e = .returned (.int .u64 R) ∧ Below w1.heap.size w1 w')) (w : World) : Calls Try.prog 92 #[.int .u64 a, .int .i64 1] w fun e w' => e = .returned (.int .u64 R) ∧ Below w.heap.size w w' := by
  go_enter Try.func92, Try.ntmps92
  go_wp2_with (first
    | (go_at_call 71; (with_reducible refine (N1.out _).mono ?_); rintro e1 w1 ⟨rfl, rfl⟩)
    | (go_at_call 72; (with_reducible refine (I1.out _).mono ?_); rintro e1 w1 ⟨rfl, rfl⟩)
    | (go_at_call 73; (with_reducible refine (Z1.out _).mono ?_); rintro e1 w1 ⟨rfl, rfl⟩)
    | (go_at_call 60; (with_reducible refine (SA.out _).mono ?_); rintro e1 w1 ⟨a1, n1, c1, rfl, hv1, hb1⟩)
    | (go_at_call 78; (with_reducible refine (HS1.out _ _ _ _ hv1).mono ?_); rintro e2 w2 ⟨a2, n2, c2, rfl, hv2, hb2⟩)
    | (go_at_call 78; (with_reducible refine (HS2.out _ _ _ _ hv2).mono ?_); rintro e3 w3 ⟨a3, n3, c3, rfl, hv3, hb3⟩)
    | (go_at_call 87; (with_reducible refine (HD.out _ _ _ _ _ _ _ (hv1.below (btn hb2 hb3)) hv3).mono ?_); rintro e4 w4 ⟨a4, n4, c4, rfl, hv4, hb4⟩)
    | (go_at_call 58; (with_reducible refine (HM.out _ _ _ _ (hv2.below (btn hb3 hb4))).mono ?_); rintro e11 w11 ⟨rfl, hb11⟩))
  go_ret
  exact ⟨rfl, btn hb1 (btn hb2 (btn hb3 (btn hb4 hb11)))⟩
set_option maxRecDepth 100000 in
set_option maxHeartbeats 2000000 in
theorem rwhole_1z (a : Nat) (N1 : Hid (PB 71 a false)) (I1 : Hid (PB 72 a false)) (Z1 : Hid (PB 73 a false)) (A : Nat) (e : Int) (SA : Hid (∀ w, Calls Try.prog 60 #[.int .u64 a] w (Sp w true A e))) (he : -1074 ≤ e ∧ e < 0) (c R : Int) (hc : -e = c) (Kz : Int) (K Bk Rt : Nat) (HS1 : Hid (∀ (w1 : World) (a1 : Option Addr) (n1 c1 : Nat), Nw w1 (.slice a1 n1 c1) (A) → Calls Try.prog 78 #[.slice a1 n1 c1, .int .i64 (e)] w1 (OneOk w1 (K)))) (HS2 : Hid (∀ (w1 : World) (a1 : Option Addr) (n1 c1 : Nat), Nw w1 (.slice a1 n1 c1) (K) → Calls Try.prog 78 #[.slice a1 n1 c1, .int .i64 (c)] w1 (OneOk w1 (Bk)))) (HD : Hid (∀ (w1 : World) (a1 : Option Addr) (n1 c1 : Nat) (a2 : Option Addr) (n2 c2 : Nat), Nw w1 (.slice a1 n1 c1) (A) → Nw w1 (.slice a2 n2 c2) (Bk) → Calls Try.prog 87 #[.slice a1 n1 c1, .slice a2 n2 c2] w1 (OneOk w1 Rt))) (hR : Rt = 0) (HM : Hid (∀ (w1 : World) (a1 : Option Addr) (n1 c1 : Nat), Nw w1 (.slice a1 n1 c1) (K) → Calls Try.prog 58 #[.bool (true), .slice a1 n1 c1, .int .i64 (0)] w1 fun e w' => e = .returned (.int .u64 R) ∧ Below w1.heap.size w1 w')) (w : World) : Calls Try.prog 92 #[.int .u64 a, .int .i64 1] w fun e w' => e = .returned (.int .u64 R) ∧ Below w.heap.size w w' := by
  have HR := Lib.hid hR
  clear hR
  go_enter Try.func92, Try.ntmps92
  go_wp2_with (first
    | (go_at_call 71; (with_reducible refine (N1.out _).mono ?_); rintro e1 w1 ⟨rfl, rfl⟩)
    | (go_at_call 72; (with_reducible refine (I1.out _).mono ?_); rintro e1 w1 ⟨rfl, rfl⟩)
    | (go_at_call 73; (with_reducible refine (Z1.out _).mono ?_); rintro e1 w1 ⟨rfl, rfl⟩)
    | (go_at_call 60; (with_reducible refine (SA.out _).mono ?_); rintro e1 w1 ⟨a1, n1, c1, rfl, hv1, hb1⟩)
    | (go_at_call 78; (with_reducible refine (HS1.out _ _ _ _ hv1).mono ?_); rintro e2 w2 ⟨a2, n2, c2, rfl, hv2, hb2⟩)
    | (go_at_call 78; (with_reducible refine (HS2.out _ _ _ _ hv2).mono ?_); rintro e3 w3 ⟨a3, n3, c3, rfl, hv3, hb3⟩)
    | (go_at_call 87; (with_reducible refine (HD.out _ _ _ _ _ _ _ (hv1.below (btn hb2 hb3)) hv3).mono ?_); rintro e4 w4 ⟨a4, n4, c4, rfl, hv4, hb4⟩; have hl4 : n4 = 0 := by have h := hv4; rw [HR.out] at h; exact h.len0)
    | (go_at_call 58; (with_reducible refine (HM.out _ _ _ _ (hv2.below (btn hb3 hb4))).mono ?_); rintro e11 w11 ⟨rfl, hb11⟩))
  go_ret
  exact ⟨rfl, btn hb1 (btn hb2 (btn hb3 (btn hb4 hb11)))⟩
set_option maxRecDepth 100000 in
set_option maxHeartbeats 2000000 in
theorem rwhole_1u (a : Nat) (N1 : Hid (PB 71 a false)) (I1 : Hid (PB 72 a false)) (Z1 : Hid (PB 73 a false)) (A : Nat) (e : Int) (SA : Hid (∀ w, Calls Try.prog 60 #[.int .u64 a] w (Sp w true A e))) (he : -1074 ≤ e ∧ e < 0) (c R : Int) (hc : -e = c) (Kz : Int) (K Bk Rt : Nat) (HS1 : Hid (∀ (w1 : World) (a1 : Option Addr) (n1 c1 : Nat), Nw w1 (.slice a1 n1 c1) (A) → Calls Try.prog 78 #[.slice a1 n1 c1, .int .i64 (e)] w1 (OneOk w1 (K)))) (HS2 : Hid (∀ (w1 : World) (a1 : Option Addr) (n1 c1 : Nat), Nw w1 (.slice a1 n1 c1) (K) → Calls Try.prog 78 #[.slice a1 n1 c1, .int .i64 (c)] w1 (OneOk w1 (Bk)))) (HD : Hid (∀ (w1 : World) (a1 : Option Addr) (n1 c1 : Nat) (a2 : Option Addr) (n2 c2 : Nat), Nw w1 (.slice a1 n1 c1) (A) → Nw w1 (.slice a2 n2 c2) (Bk) → Calls Try.prog 87 #[.slice a1 n1 c1, .slice a2 n2 c2] w1 (OneOk w1 Rt))) (hR : Rt ≠ 0) (HOf : Hid (∀ w1, Calls Try.prog 83 #[.int .u64 1] w1 (One w1 1))) (HA : Hid (∀ (w1 : World) (a1 : Option Addr) (n1 c1 : Nat) (a2 : Option Addr) (n2 c2 : Nat), Nw w1 (.slice a1 n1 c1) (K) → Nw w1 (.slice a2 n2 c2) (1) → Calls Try.prog 82 #[.slice a1 n1 c1, .slice a2 n2 c2] w1 (One w1 (K + 1)))) (HM : Hid (∀ (w1 : World) (a1 : Option Addr) (n1 c1 : Nat), Nw w1 (.slice a1 n1 c1) (K + 1) → Calls Try.prog 58 #[.bool (true), .slice a1 n1 c1, .int .i64 (0)] w1 fun e w' => e = .returned (.int .u64 R) ∧ Below w1.heap.size w1 w')) (w : World) : Calls Try.prog 92 #[.int .u64 a, .int .i64 1] w fun e w' => e = .returned (.int .u64 R) ∧ Below w.heap.size w w' := by
  have HR := Lib.hid hR
  clear hR
  go_enter Try.func92, Try.ntmps92
  go_wp2_with (first
    | (go_at_call 71; (with_reducible refine (N1.out _).mono ?_); rintro e1 w1 ⟨rfl, rfl⟩)
    | (go_at_call 72; (with_reducible refine (I1.out _).mono ?_); rintro e1 w1 ⟨rfl, rfl⟩)
    | (go_at_call 73; (with_reducible refine (Z1.out _).mono ?_); rintro e1 w1 ⟨rfl, rfl⟩)
    | (go_at_call 60; (with_reducible refine (SA.out _).mono ?_); rintro e1 w1 ⟨a1, n1, c1, rfl, hv1, hb1⟩)
    | (go_at_call 78; (with_reducible refine (HS1.out _ _ _ _ hv1).mono ?_); rintro e2 w2 ⟨a2, n2, c2, rfl, hv2, hb2⟩)
    | (go_at_call 78; (with_reducible refine (HS2.out _ _ _ _ hv2).mono ?_); rintro e3 w3 ⟨a3, n3, c3, rfl, hv3, hb3⟩)
    | (go_at_call 87; (with_reducible refine (HD.out _ _ _ _ _ _ _ (hv1.below (btn hb2 hb3)) hv3).mono ?_); rintro e4 w4 ⟨a4, n4, c4, rfl, hv4, hb4⟩; have hl4 := hv4.lenp HR.out)
    | (go_at_call 83; (with_reducible refine (HOf.out _).mono ?_); rintro e9 w9 ⟨a9, n9, c9, rfl, hv9, hb9⟩)
    | (go_at_call 82; (with_reducible refine (HA.out _ _ _ _ _ _ _ (hv2.below (btn (btn hb3 hb4) hb9)) hv9).mono ?_); rintro e10 w10 ⟨a10, n10, c10, rfl, hv10, hb10⟩)
    | (go_at_call 58; (with_reducible refine (HM.out _ _ _ _ hv10).mono ?_); rintro e11 w11 ⟨rfl, hb11⟩))
  go_ret
  exact ⟨rfl, btn hb1 (btn hb2 (btn hb3 (btn hb4 (btn hb9 (btn hb10 hb11)))))⟩
set_option maxRecDepth 100000 in
set_option maxHeartbeats 2000000 in
theorem rwhole_2gt (a : Nat) (N1 : Hid (PB 71 a false)) (I1 : Hid (PB 72 a false)) (Z1 : Hid (PB 73 a false)) (p : Bool) (A : Nat) (e : Int) (SA : Hid (∀ w, Calls Try.prog 60 #[.int .u64 a] w (Sp w p A e))) (he : -1074 ≤ e ∧ e < 0) (c R : Int) (hc : -e = c) (Kz : Int) (K Bk Rt : Nat) (HS1 : Hid (∀ (w1 : World) (a1 : Option Addr) (n1 c1 : Nat), Nw w1 (.slice a1 n1 c1) (A) → Calls Try.prog 78 #[.slice a1 n1 c1, .int .i64 (e)] w1 (OneOk w1 (K)))) (HS2 : Hid (∀ (w1 : World) (a1 : Option Addr) (n1 c1 : Nat), Nw w1 (.slice a1 n1 c1) (K) → Calls Try.prog 78 #[.slice a1 n1 c1, .int .i64 (c)] w1 (OneOk w1 (Bk)))) (HD : Hid (∀ (w1 : World) (a1 : Option Addr) (n1 c1 : Nat) (a2 : Option Addr) (n2 c2 : Nat), Nw w1 (.slice a1 n1 c1) (A) → Nw w1 (.slice a2 n2 c2) (Bk) → Calls Try.prog 87 #[.slice a1 n1 c1, .slice a2 n2 c2] w1 (OneOk w1 Rt))) (Hf : Nat) (t : Int) (ht : 0 < t) (HOf : Hid (∀ w1, Calls Try.prog 83 #[.int .u64 1] w1 (One w1 1))) (HS3 : Hid (∀ (w1 : World) (a1 : Option Addr) (n1 c1 : Nat), Nw w1 (.slice a1 n1 c1) (1) → Calls Try.prog 78 #[.slice a1 n1 c1, .int .i64 (c - 1)] w1 (OneOk w1 (Hf)))) (HC : Hid (∀ (w1 : World) (a1 : Option Addr) (n1 c1 : Nat) (a2 : Option Addr) (n2 c2 : Nat), Nw w1 (.slice a1 n1 c1) (Rt) → Nw w1 (.slice a2 n2 c2) (Hf) → Calls Try.prog 81 #[.slice a1 n1 c1, .slice a2 n2 c2] w1 fun e w' => e = .returned (.int .i64 t) ∧ Below w1.heap.size w1 w')) (HL : Hid (∀ (w1 : World) (a1 : Option Addr) (n1 c1 : Nat), Nw w1 (.slice a1 n1 c1) K → Calls Try.prog 102 #[.slice a1 n1 c1] w1 fun e w' => e = .returned (.int .u64 Kz) ∧ w1 = w')) (HA : Hid (∀ (w1 : World) (a1 : Option Addr) (n1 c1 : Nat) (a2 : Option Addr) (n2 c2 : Nat), Nw w1 (.slice a1 n1 c1) (K) → Nw w1 (.slice a2 n2 c2) (1) → Calls Try.prog 82 #[.slice a1 n1 c1, .slice a2 n2 c2] w1 (One w1 (K + 1)))) (HM : Hid (∀ (w1 : World) (a1 : Option Addr) (n1 c1 : Nat), Nw w1 (.slice a1 n1 c1) (K + 1) → Calls Try.prog 58 #[.bool (p), .slice a1 n1 c1, .int .i64 (0)] w1 fun e w' => e = .returned (.int .u64 R) ∧ Below w1.heap.size w1 w')) (w : World) : Calls Try.prog 92 #[.int .u64 a, .int .i64 2] w fun e w' => e = .returned (.int .u64 R) ∧ Below w.heap.size w w' := by
  go_enter Try.func92, Try.ntmps92
  go_wp2_with (first
    | (go_at_call 71; (with_reducible refine (N1.out _).mono ?_); rintro e1 w1 ⟨rfl, rfl⟩)
    | (go_at_call 72; (with_reducible refine (I1.out _).mono ?_); rintro e1 w1 ⟨rfl, rfl⟩)
    | (go_at_call 73; (with_reducible refine (Z1.out _).mono ?_); rintro e1 w1 ⟨rfl, rfl⟩)
    | (go_at_call 60; (with_reducible refine (SA.out _).mono ?_); rintro e1 w1 ⟨a1, n1, c1, rfl, hv1, hb1⟩)
    | (go_at_call 78; (with_reducible refine (HS1.out _ _ _ _ hv1).mono ?_); rintro e2 w2 ⟨a2, n2, c2, rfl, hv2, hb2⟩)
    | (go_at_call 78; (with_reducible refine (HS2.out _ _ _ _ hv2).mono ?_); rintro e3 w3 ⟨a3, n3, c3, rfl, hv3, hb3⟩)
    | (go_at_call 87; (with_reducible refine (HD.out _ _ _ _ _ _ _ (hv1.below (btn hb2 hb3)) hv3).mono ?_); rintro e4 w4 ⟨a4, n4, c4, rfl, hv4, hb4⟩)
    | (go_at_call 83; (with_reducible refine (HOf.out _).mono ?_); rintro e5 w5 ⟨a5, n5, c5, rfl, hv5, hb5⟩)
    | (go_at_call 78; (with_reducible refine (HS3.out _ _ _ _ hv5).mono ?_); rintro e6 w6 ⟨a6, n6, c6, rfl, hv6, hb6⟩; have hb8 := hb5; clear hv5 hb5)
    | (go_at_call 81; (with_reducible refine (HC.out _ _ _ _ _ _ _ (hv4.below (btn hb8 hb6)) hv6).mono ?_); rintro e7 w7 ⟨rfl, hb7⟩)
    | (go_at_call 102; (with_reducible refine (HL.out _ _ _ _ (hv2.below (btn hb3 (btn hb4 (btn hb8 (btn hb6 hb7)))))).mono ?_); rintro e8 w8 ⟨rfl, rfl⟩)
    | (go_at_call 82; (with_reducible refine (HA.out _ _ _ _ _ _ _ (hv2.below (btn hb3 (btn hb4 (btn hb8 (btn hb6 (btn hb7 hb5)))))) hv5).mono ?_); rintro e10 w10 ⟨a10, n10, c10, rfl, hv10, hb10⟩)
    | (go_at_call 58; (with_reducible refine (HM.out _ _ _ _ hv10).mono ?_); rintro e11 w11 ⟨rfl, hb11⟩))
  go_ret
  exact ⟨rfl, btn hb1 (btn hb2 (btn hb3 (btn hb4 (btn hb8 (btn hb6 (btn hb7 (btn hb5 (btn hb10 hb11))))))))⟩
set_option maxRecDepth 100000 in
set_option maxHeartbeats 2000000 in
theorem rwhole_2odd (a : Nat) (N1 : Hid (PB 71 a false)) (I1 : Hid (PB 72 a false)) (Z1 : Hid (PB 73 a false)) (p : Bool) (A : Nat) (e : Int) (SA : Hid (∀ w, Calls Try.prog 60 #[.int .u64 a] w (Sp w p A e))) (he : -1074 ≤ e ∧ e < 0) (c R : Int) (hc : -e = c) (Kz : Int) (K Bk Rt : Nat) (HS1 : Hid (∀ (w1 : World) (a1 : Option Addr) (n1 c1 : Nat), Nw w1 (.slice a1 n1 c1) (A) → Calls Try.prog 78 #[.slice a1 n1 c1, .int .i64 (e)] w1 (OneOk w1 (K)))) (HS2 : Hid (∀ (w1 : World) (a1 : Option Addr) (n1 c1 : Nat), Nw w1 (.slice a1 n1 c1) (K) → Calls Try.prog 78 #[.slice a1 n1 c1, .int .i64 (c)] w1 (OneOk w1 (Bk)))) (HD : Hid (∀ (w1 : World) (a1 : Option Addr) (n1 c1 : Nat) (a2 : Option Addr) (n2 c2 : Nat), Nw w1 (.slice a1 n1 c1) (A) → Nw w1 (.slice a2 n2 c2) (Bk) → Calls Try.prog 87 #[.slice a1 n1 c1, .slice a2 n2 c2] w1 (OneOk w1 Rt))) (Hf : Nat) (t : Int) (ht : t = 0) (ho : (bits .and .u64 Kz 1 == 1) = true) (HOf : Hid (∀ w1, Calls Try.prog 83 #[.int .u64 1] w1 (One w1 1))) (HS3 : Hid (∀ (w1 : World) (a1 : Option Addr) (n1 c1 : Nat), Nw w1 (.slice a1 n1 c1) (1) → Calls Try.prog 78 #[.slice a1 n1 c1, .int .i64 (c - 1)] w1 (OneOk w1 (Hf)))) (HC : Hid (∀ (w1 : World) (a1 : Option Addr) (n1 c1 : Nat) (a2 : Option Addr) (n2 c2 : Nat), Nw w1 (.slice a1 n1 c1) (Rt) → Nw w1 (.slice a2 n2 c2) (Hf) → Calls Try.prog 81 #[.slice a1 n1 c1, .slice a2 n2 c2] w1 fun e w' => e = .returned (.int .i64 t) ∧ Below w1.heap.size w1 w')) (HL : Hid (∀ (w1 : World) (a1 : Option Addr) (n1 c1 : Nat), Nw w1 (.slice a1 n1 c1) K → Calls Try.prog 102 #[.slice a1 n1 c1] w1 fun e w' => e = .returned (.int .u64 Kz) ∧ w1 = w')) (HA : Hid (∀ (w1 : World) (a1 : Option Addr) (n1 c1 : Nat) (a2 : Option Addr) (n2 c2 : Nat), Nw w1 (.slice a1 n1 c1) (K) → Nw w1 (.slice a2 n2 c2) (1) → Calls Try.prog 82 #[.slice a1 n1 c1, .slice a2 n2 c2] w1 (One w1 (K + 1)))) (HM : Hid (∀ (w1 : World) (a1 : Option Addr) (n1 c1 : Nat), Nw w1 (.slice a1 n1 c1) (K + 1) → Calls Try.prog 58 #[.bool (p), .slice a1 n1 c1, .int .i64 (0)] w1 fun e w' => e = .returned (.int .u64 R) ∧ Below w1.heap.size w1 w')) (w : World) : Calls Try.prog 92 #[.int .u64 a, .int .i64 2] w fun e w' => e = .returned (.int .u64 R) ∧ Below w.heap.size w w' := by
  go_enter Try.func92, Try.ntmps92
  go_wp2_with (first
    | (go_at_call 71; (with_reducible refine (N1.out _).mono ?_); rintro e1 w1 ⟨rfl, rfl⟩)
    | (go_at_call 72; (with_reducible refine (I1.out _).mono ?_); rintro e1 w1 ⟨rfl, rfl⟩)
    | (go_at_call 73; (with_reducible refine (Z1.out _).mono ?_); rintro e1 w1 ⟨rfl, rfl⟩)
    | (go_at_call 60; (with_reducible refine (SA.out _).mono ?_); rintro e1 w1 ⟨a1, n1, c1, rfl, hv1, hb1⟩)
    | (go_at_call 78; (with_reducible refine (HS1.out _ _ _ _ hv1).mono ?_); rintro e2 w2 ⟨a2, n2, c2, rfl, hv2, hb2⟩)
    | (go_at_call 78; (with_reducible refine (HS2.out _ _ _ _ hv2).mono ?_); rintro e3 w3 ⟨a3, n3, c3, rfl, hv3, hb3⟩)
    | (go_at_call 87; (with_reducible refine (HD.out _ _ _ _ _ _ _ (hv1.below (btn hb2 hb3)) hv3).mono ?_); rintro e4 w4 ⟨a4, n4, c4, rfl, hv4, hb4⟩)
    | (go_at_call 83; (with_reducible refine (HOf.out _).mono ?_); rintro e5 w5 ⟨a5, n5, c5, rfl, hv5, hb5⟩)
    | (go_at_call 78; (with_reducible refine (HS3.out _ _ _ _ hv5).mono ?_); rintro e6 w6 ⟨a6, n6, c6, rfl, hv6, hb6⟩; have hb8 := hb5; clear hv5 hb5)
    | (go_at_call 81; (with_reducible refine (HC.out _ _ _ _ _ _ _ (hv4.below (btn hb8 hb6)) hv6).mono ?_); rintro e7 w7 ⟨rfl, hb7⟩)
    | (go_at_call 102; (with_reducible refine (HL.out _ _ _ _ (hv2.below (btn hb3 (btn hb4 (btn hb8 (btn hb6 hb7)))))).mono ?_); rintro e8 w8 ⟨rfl, rfl⟩)
    | (go_at_call 82; (with_reducible refine (HA.out _ _ _ _ _ _ _ (hv2.below (btn hb3 (btn hb4 (btn hb8 (btn hb6 (btn hb7 hb5)))))) hv5).mono ?_); rintro e10 w10 ⟨a10, n10, c10, rfl, hv10, hb10⟩)
    | (go_at_call 58; (with_reducible refine (HM.out _ _ _ _ hv10).mono ?_); rintro e11 w11 ⟨rfl, hb11⟩))
  go_ret
  exact ⟨rfl, btn hb1 (btn hb2 (btn hb3 (btn hb4 (btn hb8 (btn hb6 (btn hb7 (btn hb5 (btn hb10 hb11))))))))⟩
set_option maxRecDepth 100000 in
set_option maxHeartbeats 2000000 in
theorem rwhole_2even (a : Nat) (N1 : Hid (PB 71 a false)) (I1 : Hid (PB 72 a false)) (Z1 : Hid (PB 73 a false)) (p : Bool) (A : Nat) (e : Int) (SA : Hid (∀ w, Calls Try.prog 60 #[.int .u64 a] w (Sp w p A e))) (he : -1074 ≤ e ∧ e < 0) (c R : Int) (hc : -e = c) (Kz : Int) (K Bk Rt : Nat) (HS1 : Hid (∀ (w1 : World) (a1 : Option Addr) (n1 c1 : Nat), Nw w1 (.slice a1 n1 c1) (A) → Calls Try.prog 78 #[.slice a1 n1 c1, .int .i64 (e)] w1 (OneOk w1 (K)))) (HS2 : Hid (∀ (w1 : World) (a1 : Option Addr) (n1 c1 : Nat), Nw w1 (.slice a1 n1 c1) (K) → Calls Try.prog 78 #[.slice a1 n1 c1, .int .i64 (c)] w1 (OneOk w1 (Bk)))) (HD : Hid (∀ (w1 : World) (a1 : Option Addr) (n1 c1 : Nat) (a2 : Option Addr) (n2 c2 : Nat), Nw w1 (.slice a1 n1 c1) (A) → Nw w1 (.slice a2 n2 c2) (Bk) → Calls Try.prog 87 #[.slice a1 n1 c1, .slice a2 n2 c2] w1 (OneOk w1 Rt))) (Hf : Nat) (t : Int) (ht : t = 0) (ho : (bits .and .u64 Kz 1 == 1) = false) (HOf : Hid (∀ w1, Calls Try.prog 83 #[.int .u64 1] w1 (One w1 1))) (HS3 : Hid (∀ (w1 : World) (a1 : Option Addr) (n1 c1 : Nat), Nw w1 (.slice a1 n1 c1) (1) → Calls Try.prog 78 #[.slice a1 n1 c1, .int .i64 (c - 1)] w1 (OneOk w1 (Hf)))) (HC : Hid (∀ (w1 : World) (a1 : Option Addr) (n1 c1 : Nat) (a2 : Option Addr) (n2 c2 : Nat), Nw w1 (.slice a1 n1 c1) (Rt) → Nw w1 (.slice a2 n2 c2) (Hf) → Calls Try.prog 81 #[.slice a1 n1 c1, .slice a2 n2 c2] w1 fun e w' => e = .returned (.int .i64 t) ∧ Below w1.heap.size w1 w')) (HL : Hid (∀ (w1 : World) (a1 : Option Addr) (n1 c1 : Nat), Nw w1 (.slice a1 n1 c1) K → Calls Try.prog 102 #[.slice a1 n1 c1] w1 fun e w' => e = .returned (.int .u64 Kz) ∧ w1 = w')) (HM : Hid (∀ (w1 : World) (a1 : Option Addr) (n1 c1 : Nat), Nw w1 (.slice a1 n1 c1) (K) → Calls Try.prog 58 #[.bool (p), .slice a1 n1 c1, .int .i64 (0)] w1 fun e w' => e = .returned (.int .u64 R) ∧ Below w1.heap.size w1 w')) (w : World) : Calls Try.prog 92 #[.int .u64 a, .int .i64 2] w fun e w' => e = .returned (.int .u64 R) ∧ Below w.heap.size w w' := by
  go_enter Try.func92, Try.ntmps92
  go_wp2_with (first
    | (go_at_call 71; (with_reducible refine (N1.out _).mono ?_); rintro e1 w1 ⟨rfl, rfl⟩)
    | (go_at_call 72; (with_reducible refine (I1.out _).mono ?_); rintro e1 w1 ⟨rfl, rfl⟩)
    | (go_at_call 73; (with_reducible refine (Z1.out _).mono ?_); rintro e1 w1 ⟨rfl, rfl⟩)
    | (go_at_call 60; (with_reducible refine (SA.out _).mono ?_); rintro e1 w1 ⟨a1, n1, c1, rfl, hv1, hb1⟩)
    | (go_at_call 78; (with_reducible refine (HS1.out _ _ _ _ hv1).mono ?_); rintro e2 w2 ⟨a2, n2, c2, rfl, hv2, hb2⟩)
    | (go_at_call 78; (with_reducible refine (HS2.out _ _ _ _ hv2).mono ?_); rintro e3 w3 ⟨a3, n3, c3, rfl, hv3, hb3⟩)
    | (go_at_call 87; (with_reducible refine (HD.out _ _ _ _ _ _ _ (hv1.below (btn hb2 hb3)) hv3).mono ?_); rintro e4 w4 ⟨a4, n4, c4, rfl, hv4, hb4⟩)
    | (go_at_call 83; (with_reducible refine (HOf.out _).mono ?_); rintro e5 w5 ⟨a5, n5, c5, rfl, hv5, hb5⟩)
    | (go_at_call 78; (with_reducible refine (HS3.out _ _ _ _ hv5).mono ?_); rintro e6 w6 ⟨a6, n6, c6, rfl, hv6, hb6⟩)
    | (go_at_call 81; (with_reducible refine (HC.out _ _ _ _ _ _ _ (hv4.below (btn hb5 hb6)) hv6).mono ?_); rintro e7 w7 ⟨rfl, hb7⟩)
    | (go_at_call 102; (with_reducible refine (HL.out _ _ _ _ (hv2.below (btn hb3 (btn hb4 (btn hb5 (btn hb6 hb7)))))).mono ?_); rintro e8 w8 ⟨rfl, rfl⟩)
    | (go_at_call 58; (with_reducible refine (HM.out _ _ _ _ (hv2.below (btn hb3 (btn hb4 (btn hb5 (btn hb6 hb7)))))).mono ?_); rintro e11 w11 ⟨rfl, hb11⟩))
  go_ret
  exact ⟨rfl, btn hb1 (btn hb2 (btn hb3 (btn hb4 (btn hb5 (btn hb6 (btn hb7 hb11))))))⟩
set_option maxRecDepth 100000 in
set_option maxHeartbeats 2000000 in
theorem rwhole_2lt (a : Nat) (N1 : Hid (PB 71 a false)) (I1 : Hid (PB 72 a false)) (Z1 : Hid (PB 73 a false)) (p : Bool) (A : Nat) (e : Int) (SA : Hid (∀ w, Calls Try.prog 60 #[.int .u64 a] w (Sp w p A e))) (he : -1074 ≤ e ∧ e < 0) (c R : Int) (hc : -e = c) (Kz : Int) (K Bk Rt : Nat) (HS1 : Hid (∀ (w1 : World) (a1 : Option Addr) (n1 c1 : Nat), Nw w1 (.slice a1 n1 c1) (A) → Calls Try.prog 78 #[.slice a1 n1 c1, .int .i64 (e)] w1 (OneOk w1 (K)))) (HS2 : Hid (∀ (w1 : World) (a1 : Option Addr) (n1 c1 : Nat), Nw w1 (.slice a1 n1 c1) (K) → Calls Try.prog 78 #[.slice a1 n1 c1, .int .i64 (c)] w1 (OneOk w1 (Bk)))) (HD : Hid (∀ (w1 : World) (a1 : Option Addr) (n1 c1 : Nat) (a2 : Option Addr) (n2 c2 : Nat), Nw w1 (.slice a1 n1 c1) (A) → Nw w1 (.slice a2 n2 c2) (Bk) → Calls Try.prog 87 #[.slice a1 n1 c1, .slice a2 n2 c2] w1 (OneOk w1 Rt))) (Hf : Nat) (t : Int) (ht : t < 0) (HOf : Hid (∀ w1, Calls Try.prog 83 #[.int .u64 1] w1 (One w1 1))) (HS3 : Hid (∀ (w1 : World) (a1 : Option Addr) (n1 c1 : Nat), Nw w1 (.slice a1 n1 c1) (1) → Calls Try.prog 78 #[.slice a1 n1 c1, .int .i64 (c - 1)] w1 (OneOk w1 (Hf)))) (HC : Hid (∀ (w1 : World) (a1 : Option Addr) (n1 c1 : Nat) (a2 : Option Addr) (n2 c2 : Nat), Nw w1 (.slice a1 n1 c1) (Rt) → Nw w1 (.slice a2 n2 c2) (Hf) → Calls Try.prog 81 #[.slice a1 n1 c1, .slice a2 n2 c2] w1 fun e w' => e = .returned (.int .i64 t) ∧ Below w1.heap.size w1 w')) (HL : Hid (∀ (w1 : World) (a1 : Option Addr) (n1 c1 : Nat), Nw w1 (.slice a1 n1 c1) K → Calls Try.prog 102 #[.slice a1 n1 c1] w1 fun e w' => e = .returned (.int .u64 Kz) ∧ w1 = w')) (HM : Hid (∀ (w1 : World) (a1 : Option Addr) (n1 c1 : Nat), Nw w1 (.slice a1 n1 c1) (K) → Calls Try.prog 58 #[.bool (p), .slice a1 n1 c1, .int .i64 (0)] w1 fun e w' => e = .returned (.int .u64 R) ∧ Below w1.heap.size w1 w')) (w : World) : Calls Try.prog 92 #[.int .u64 a, .int .i64 2] w fun e w' => e = .returned (.int .u64 R) ∧ Below w.heap.size w w' := by
  go_enter Try.func92, Try.ntmps92
  go_wp2_with (first
    | (go_at_call 71; (with_reducible refine (N1.out _).mono ?_); rintro e1 w1 ⟨rfl, rfl⟩)
    | (go_at_call 72; (with_reducible refine (I1.out _).mono ?_); rintro e1 w1 ⟨rfl, rfl⟩)
    | (go_at_call 73; (with_reducible refine (Z1.out _).mono ?_); rintro e1 w1 ⟨rfl, rfl⟩)
    | (go_at_call 60; (with_reducible refine (SA.out _).mono ?_); rintro e1 w1 ⟨a1, n1, c1, rfl, hv1, hb1⟩)
    | (go_at_call 78; (with_reducible refine (HS1.out _ _ _ _ hv1).mono ?_); rintro e2 w2 ⟨a2, n2, c2, rfl, hv2, hb2⟩)
    | (go_at_call 78; (with_reducible refine (HS2.out _ _ _ _ hv2).mono ?_); rintro e3 w3 ⟨a3, n3, c3, rfl, hv3, hb3⟩)
    | (go_at_call 87; (with_reducible refine (HD.out _ _ _ _ _ _ _ (hv1.below (btn hb2 hb3)) hv3).mono ?_); rintro e4 w4 ⟨a4, n4, c4, rfl, hv4, hb4⟩)
    | (go_at_call 83; (with_reducible refine (HOf.out _).mono ?_); rintro e5 w5 ⟨a5, n5, c5, rfl, hv5, hb5⟩)
    | (go_at_call 78; (with_reducible refine (HS3.out _ _ _ _ hv5).mono ?_); rintro e6 w6 ⟨a6, n6, c6, rfl, hv6, hb6⟩)
    | (go_at_call 81; (with_reducible refine (HC.out _ _ _ _ _ _ _ (hv4.below (btn hb5 hb6)) hv6).mono ?_); rintro e7 w7 ⟨rfl, hb7⟩)
    | (go_at_call 102; (with_reducible refine (HL.out _ _ _ _ (hv2.below (btn hb3 (btn hb4 (btn hb5 (btn hb6 hb7)))))).mono ?_); rintro e8 w8 ⟨rfl, rfl⟩)
    | (go_at_call 58; (with_reducible refine (HM.out _ _ _ _ (hv2.below (btn hb3 (btn hb4 (btn hb5 (btn hb6 hb7)))))).mono ?_); rintro e11 w11 ⟨rfl, hb11⟩))
  go_ret
  exact ⟨rfl, btn hb1 (btn hb2 (btn hb3 (btn hb4 (btn hb5 (btn hb6 (btn hb7 hb11))))))⟩
end Go.Proofs.Ytecgkhijiogggaa
