/- The reference's Sqrt, whole, Scale, Widen, Narrow. -/
import Derived.Test.YtecgkhijiogggaaY6
namespace Go.Proofs.Ytecgkhijiogggaa
set_option linter.unusedVariables false
set_option linter.unusedSimpArgs false
open Go.RowKit Go.Shelf SF
set_option maxRecDepth 100000 in
set_option maxHeartbeats 2000000 in
theorem rSqrt_n1 (a : Nat) (N1 : Hid (PB 71 a true)) (w : World) : Calls Try.prog 22 #[.int .u64 a] w fun e w' => e = .returned (.int .u64 (9221120237041090560)) ∧ Below w.heap.size w w' := by
  go_enter Try.func22, Try.ntmps22
  go_wp2_with (first
    | (go_at_call 71; (with_reducible refine (N1.out _).mono ?_); rintro e1 w1 ⟨rfl, rfl⟩))
  go_ret
  exact ⟨rfl, Below.refl _ _⟩
set_option maxRecDepth 100000 in
set_option maxHeartbeats 2000000 in
theorem rSqrt_z1 (a : Nat) (N1 : Hid (PB 71 a false)) (Z1 : Hid (PB 73 a true)) (w : World) : Calls Try.prog 22 #[.int .u64 a] w fun e w' => e = .returned (.int .u64 ((a : Int))) ∧ Below w.heap.size w w' := by
  go_enter Try.func22, Try.ntmps22
  go_wp2_with (first
    | (go_at_call 71; (with_reducible refine (N1.out _).mono ?_); rintro e1 w1 ⟨rfl, rfl⟩)
    | (go_at_call 73; (with_reducible refine (Z1.out _).mono ?_); rintro e1 w1 ⟨rfl, rfl⟩))
  go_ret
  exact ⟨rfl, Below.refl _ _⟩
set_option maxRecDepth 100000 in
set_option maxHeartbeats 2000000 in
theorem rSqrt_g1 (a : Nat) (N1 : Hid (PB 71 a false)) (Z1 : Hid (PB 73 a false)) (G1 : Hid (PB 70 a true)) (w : World) : Calls Try.prog 22 #[.int .u64 a] w fun e w' => e = .returned (.int .u64 (9221120237041090560)) ∧ Below w.heap.size w w' := by
  go_enter Try.func22, Try.ntmps22
  go_wp2_with (first
    | (go_at_call 71; (with_reducible refine (N1.out _).mono ?_); rintro e1 w1 ⟨rfl, rfl⟩)
    | (go_at_call 73; (with_reducible refine (Z1.out _).mono ?_); rintro e1 w1 ⟨rfl, rfl⟩)
    | (go_at_call 70; (with_reducible refine (G1.out _).mono ?_); rintro e1 w1 ⟨rfl, rfl⟩))
  go_ret
  exact ⟨rfl, Below.refl _ _⟩
set_option maxRecDepth 100000 in
set_option maxHeartbeats 2000000 in
theorem rSqrt_i1 (a : Nat) (N1 : Hid (PB 71 a false)) (Z1 : Hid (PB 73 a false)) (G1 : Hid (PB 70 a false)) (I1 : Hid (PB 72 a true)) (w : World) : Calls Try.prog 22 #[.int .u64 a] w fun e w' => e = .returned (.int .u64 ((a : Int))) ∧ Below w.heap.size w w' := by
  go_enter Try.func22, Try.ntmps22
  go_wp2_with (first
    | (go_at_call 71; (with_reducible refine (N1.out _).mono ?_); rintro e1 w1 ⟨rfl, rfl⟩)
    | (go_at_call 73; (with_reducible refine (Z1.out _).mono ?_); rintro e1 w1 ⟨rfl, rfl⟩)
    | (go_at_call 70; (with_reducible refine (G1.out _).mono ?_); rintro e1 w1 ⟨rfl, rfl⟩)
    | (go_at_call 72; (with_reducible refine (I1.out _).mono ?_); rintro e1 w1 ⟨rfl, rfl⟩))
  go_ret
  exact ⟨rfl, Below.refl _ _⟩
set_option maxRecDepth 100000 in
set_option maxHeartbeats 2000000 in
theorem rSqrt_f00 (a : Nat) (N1 : Hid (PB 71 a false)) (Z1 : Hid (PB 73 a false)) (G1 : Hid (PB 70 a false)) (I1 : Hid (PB 72 a false)) (A M S X : Nat) (b e k q R : Int)  (p' : Bool) (hb0 : 0 ≤ b ∧ b ≤ 53) (he : -1074 ≤ e ∧ e ≤ 971) (hk : 130 - b = k) (hkb : 0 ≤ k ∧ k ≤ 130) (ht : (e - k).tmod 2 = 0) (hq : (e - k).tdiv 2 = q) (hq0 : -1300 ≤ q ∧ q ≤ 1300) (u : Int) (hu : u = 0) (SA : Hid (∀ w, Calls Try.prog 60 #[.int .u64 a] w (Sp w p' A e))) (HB : Hid (∀ (w1 : World) (a1 : Option Addr) (n1 c1 : Nat), Nw w1 (.slice a1 n1 c1) A → Calls Try.prog 77 #[.slice a1 n1 c1] w1 fun e w' => e = .returned (.int .i64 b) ∧ w1 = w')) (HS : Hid (∀ (w1 : World) (a1 : Option Addr) (n1 c1 : Nat), Nw w1 (.slice a1 n1 c1) (A) → Calls Try.prog 78 #[.slice a1 n1 c1, .int .i64 (k)] w1 (OneOk w1 (M)))) (HR : Hid (∀ (w1 : World) (a1 : Option Addr) (n1 c1 : Nat), Nw w1 (.slice a1 n1 c1) M → Calls Try.prog 79 #[.slice a1 n1 c1] w1 fun e w' => ∃ a n c, e = .returned (.slice a n c) ∧ Nw w' (.slice a n c) X ∧ Below w1.heap.size w1 w')) (HX : Hid (∀ (w1 : World) (a1 : Option Addr) (n1 c1 : Nat), Nw w1 (.slice a1 n1 c1) X → Calls Try.prog 80 #[.slice a1 n1 c1, .slice a1 n1 c1] w1 (OneOk w1 S))) (HS1 : Hid (∀ (w1 : World) (a1 : Option Addr) (n1 c1 : Nat), Nw w1 (.slice a1 n1 c1) (X) → Calls Try.prog 78 #[.slice a1 n1 c1, .int .i64 (1)] w1 (OneOk w1 (X * 2)))) (HC : Hid (∀ (w1 : World) (a1 : Option Addr) (n1 c1 : Nat) (a2 : Option Addr) (n2 c2 : Nat), Nw w1 (.slice a1 n1 c1) (S) → Nw w1 (.slice a2 n2 c2) (M) → Calls Try.prog 81 #[.slice a1 n1 c1, .slice a2 n2 c2] w1 fun e w' => e = .returned (.int .i64 u) ∧ Below w1.heap.size w1 w')) (HM : Hid (∀ (w1 : World) (a1 : Option Addr) (n1 c1 : Nat), Nw w1 (.slice a1 n1 c1) (X * 2) → Calls Try.prog 58 #[.bool (false), .slice a1 n1 c1, .int .i64 (q - 1)] w1 fun e w' => e = .returned (.int .u64 R) ∧ Below w1.heap.size w1 w')) (w : World) : Calls Try.prog 22 #[.int .u64 a] w fun e w' => e = .returned (.int .u64 R) ∧ Below w.heap.size w w' := by
  go_enter Try.func22, Try.ntmps22
  go_wp2_with (first
    | (go_at_call 71; (with_reducible refine (N1.out _).mono ?_); rintro e1 w1 ⟨rfl, rfl⟩)
    | (go_at_call 73; (with_reducible refine (Z1.out _).mono ?_); rintro e1 w1 ⟨rfl, rfl⟩)
    | (go_at_call 70; (with_reducible refine (G1.out _).mono ?_); rintro e1 w1 ⟨rfl, rfl⟩)
    | (go_at_call 72; (with_reducible refine (I1.out _).mono ?_); rintro e1 w1 ⟨rfl, rfl⟩)
    | (go_at_call 60; (with_reducible refine (SA.out _).mono ?_); rintro e1 w1 ⟨a1, n1, c1, rfl, hv1, hb1⟩)
    | (go_at_call 77; (with_reducible refine (HB.out _ _ _ _ hv1).mono ?_); rintro e2 w2 ⟨rfl, rfl⟩)
    | (go_at_call 78; (with_reducible refine (HS.out _ _ _ _ hv1).mono ?_); rintro e3 w3 ⟨a3, n3, c3, rfl, hv3, hb3⟩)
    | (go_at_call 79; (with_reducible refine (HR.out _ _ _ _ hv3).mono ?_); rintro e4 w4 ⟨a4, n4, c4, rfl, hv4, hb4⟩)
    | (go_at_call 80; (with_reducible refine (HX.out _ _ _ _ hv4).mono ?_); rintro e5 w5 ⟨a5, n5, c5, rfl, hv5, hb5⟩)
    | (go_at_call 78; (with_reducible refine (HS1.out _ _ _ _ (hv4.below hb5)).mono ?_); rintro e6 w6 ⟨a6, n6, c6, rfl, hv6, hb6⟩)
    | (go_at_call 81; (with_reducible refine (HC.out _ _ _ _ _ _ _ (hv5.below hb6) (hv3.below (btn hb4 (btn hb5 hb6)))).mono ?_); rintro e7 w7 ⟨rfl, hb7⟩)
    | (go_at_call 58; (with_reducible refine (HM.out _ _ _ _ (hv6.below hb7)).mono ?_); rintro e10 w10 ⟨rfl, hb10⟩))
  go_ret
  exact ⟨rfl, btn hb1 (btn hb3 (btn hb4 (btn hb5 (btn hb6 (btn hb7 hb10)))))⟩
set_option maxRecDepth 100000 in
set_option maxHeartbeats 2000000 in
theorem rSqrt_f01 (a : Nat) (N1 : Hid (PB 71 a false)) (Z1 : Hid (PB 73 a false)) (G1 : Hid (PB 70 a false)) (I1 : Hid (PB 72 a false)) (A M S X : Nat) (b e k q R : Int)  (p' : Bool) (hb0 : 0 ≤ b ∧ b ≤ 53) (he : -1074 ≤ e ∧ e ≤ 971) (hk : 130 - b = k) (hkb : 0 ≤ k ∧ k ≤ 130) (ht : (e - k).tmod 2 = 0) (hq : (e - k).tdiv 2 = q) (hq0 : -1300 ≤ q ∧ q ≤ 1300) (u : Int) (hu : ¬ u = 0) (SA : Hid (∀ w, Calls Try.prog 60 #[.int .u64 a] w (Sp w p' A e))) (HB : Hid (∀ (w1 : World) (a1 : Option Addr) (n1 c1 : Nat), Nw w1 (.slice a1 n1 c1) A → Calls Try.prog 77 #[.slice a1 n1 c1] w1 fun e w' => e = .returned (.int .i64 b) ∧ w1 = w')) (HS : Hid (∀ (w1 : World) (a1 : Option Addr) (n1 c1 : Nat), Nw w1 (.slice a1 n1 c1) (A) → Calls Try.prog 78 #[.slice a1 n1 c1, .int .i64 (k)] w1 (OneOk w1 (M)))) (HR : Hid (∀ (w1 : World) (a1 : Option Addr) (n1 c1 : Nat), Nw w1 (.slice a1 n1 c1) M → Calls Try.prog 79 #[.slice a1 n1 c1] w1 fun e w' => ∃ a n c, e = .returned (.slice a n c) ∧ Nw w' (.slice a n c) X ∧ Below w1.heap.size w1 w')) (HX : Hid (∀ (w1 : World) (a1 : Option Addr) (n1 c1 : Nat), Nw w1 (.slice a1 n1 c1) X → Calls Try.prog 80 #[.slice a1 n1 c1, .slice a1 n1 c1] w1 (OneOk w1 S))) (HS1 : Hid (∀ (w1 : World) (a1 : Option Addr) (n1 c1 : Nat), Nw w1 (.slice a1 n1 c1) (X) → Calls Try.prog 78 #[.slice a1 n1 c1, .int .i64 (1)] w1 (OneOk w1 (X * 2)))) (HC : Hid (∀ (w1 : World) (a1 : Option Addr) (n1 c1 : Nat) (a2 : Option Addr) (n2 c2 : Nat), Nw w1 (.slice a1 n1 c1) (S) → Nw w1 (.slice a2 n2 c2) (M) → Calls Try.prog 81 #[.slice a1 n1 c1, .slice a2 n2 c2] w1 fun e w' => e = .returned (.int .i64 u) ∧ Below w1.heap.size w1 w')) (HOf : Hid (∀ w1, Calls Try.prog 83 #[.int .u64 1] w1 (One w1 1))) (HA : Hid (∀ (w1 : World) (a1 : Option Addr) (n1 c1 : Nat) (a2 : Option Addr) (n2 c2 : Nat), Nw w1 (.slice a1 n1 c1) (X * 2) → Nw w1 (.slice a2 n2 c2) (1) → Calls Try.prog 82 #[.slice a1 n1 c1, .slice a2 n2 c2] w1 (One w1 (X * 2 + 1)))) (HM : Hid (∀ (w1 : World) (a1 : Option Addr) (n1 c1 : Nat), Nw w1 (.slice a1 n1 c1) (X * 2 + 1) → Calls Try.prog 58 #[.bool (false), .slice a1 n1 c1, .int .i64 (q - 1)] w1 fun e w' => e = .returned (.int .u64 R) ∧ Below w1.heap.size w1 w')) (w : World) : Calls Try.prog 22 #[.int .u64 a] w fun e w' => e = .returned (.int .u64 R) ∧ Below w.heap.size w w' := by
  go_enter Try.func22, Try.ntmps22
  go_wp2_with (first
    | (go_at_call 71; (with_reducible refine (N1.out _).mono ?_); rintro e1 w1 ⟨rfl, rfl⟩)
    | (go_at_call 73; (with_reducible refine (Z1.out _).mono ?_); rintro e1 w1 ⟨rfl, rfl⟩)
    | (go_at_call 70; (with_reducible refine (G1.out _).mono ?_); rintro e1 w1 ⟨rfl, rfl⟩)
    | (go_at_call 72; (with_reducible refine (I1.out _).mono ?_); rintro e1 w1 ⟨rfl, rfl⟩)
    | (go_at_call 60; (with_reducible refine (SA.out _).mono ?_); rintro e1 w1 ⟨a1, n1, c1, rfl, hv1, hb1⟩)
    | (go_at_call 77; (with_reducible refine (HB.out _ _ _ _ hv1).mono ?_); rintro e2 w2 ⟨rfl, rfl⟩)
    | (go_at_call 78; (with_reducible refine (HS.out _ _ _ _ hv1).mono ?_); rintro e3 w3 ⟨a3, n3, c3, rfl, hv3, hb3⟩)
    | (go_at_call 79; (with_reducible refine (HR.out _ _ _ _ hv3).mono ?_); rintro e4 w4 ⟨a4, n4, c4, rfl, hv4, hb4⟩)
    | (go_at_call 80; (with_reducible refine (HX.out _ _ _ _ hv4).mono ?_); rintro e5 w5 ⟨a5, n5, c5, rfl, hv5, hb5⟩)
    | (go_at_call 78; (with_reducible refine (HS1.out _ _ _ _ (hv4.below hb5)).mono ?_); rintro e6 w6 ⟨a6, n6, c6, rfl, hv6, hb6⟩)
    | (go_at_call 81; (with_reducible refine (HC.out _ _ _ _ _ _ _ (hv5.below hb6) (hv3.below (btn hb4 (btn hb5 hb6)))).mono ?_); rintro e7 w7 ⟨rfl, hb7⟩)
    | (go_at_call 83; (with_reducible refine (HOf.out _).mono ?_); rintro e8 w8 ⟨a8, n8, c8, rfl, hv8, hb8⟩)
    | (go_at_call 82; (with_reducible refine (HA.out _ _ _ _ _ _ _ (hv6.below (btn hb7 hb8)) hv8).mono ?_); rintro e9 w9 ⟨a9, n9, c9, rfl, hv9, hb9⟩)
    | (go_at_call 58; (with_reducible refine (HM.out _ _ _ _ hv9).mono ?_); rintro e10 w10 ⟨rfl, hb10⟩))
  go_ret
  exact ⟨rfl, btn hb1 (btn hb3 (btn hb4 (btn hb5 (btn hb6 (btn hb7 (btn hb8 (btn hb9 hb10)))))))⟩
set_option maxRecDepth 100000 in
set_option maxHeartbeats 2000000 in
theorem rSqrt_f10 (a : Nat) (N1 : Hid (PB 71 a false)) (Z1 : Hid (PB 73 a false)) (G1 : Hid (PB 70 a false)) (I1 : Hid (PB 72 a false)) (A M S X : Nat) (b e k K t q R : Int)  (p' : Bool) (hb0 : 0 ≤ b ∧ b ≤ 53) (he : -1074 ≤ e ∧ e ≤ 971) (hk : 130 - b = k) (hkb : 0 ≤ k ∧ k ≤ 130) (ht : (e - k).tmod 2 = t) (ht0 : ¬ t = 0) (hK : k + 1 = K) (hq : (e - K).tdiv 2 = q) (hq0 : -1300 ≤ q ∧ q ≤ 1300) (u : Int) (hu : u = 0) (SA : Hid (∀ w, Calls Try.prog 60 #[.int .u64 a] w (Sp w p' A e))) (HB : Hid (∀ (w1 : World) (a1 : Option Addr) (n1 c1 : Nat), Nw w1 (.slice a1 n1 c1) A → Calls Try.prog 77 #[.slice a1 n1 c1] w1 fun e w' => e = .returned (.int .i64 b) ∧ w1 = w')) (HS : Hid (∀ (w1 : World) (a1 : Option Addr) (n1 c1 : Nat), Nw w1 (.slice a1 n1 c1) (A) → Calls Try.prog 78 #[.slice a1 n1 c1, .int .i64 (K)] w1 (OneOk w1 (M)))) (HR : Hid (∀ (w1 : World) (a1 : Option Addr) (n1 c1 : Nat), Nw w1 (.slice a1 n1 c1) M → Calls Try.prog 79 #[.slice a1 n1 c1] w1 fun e w' => ∃ a n c, e = .returned (.slice a n c) ∧ Nw w' (.slice a n c) X ∧ Below w1.heap.size w1 w')) (HX : Hid (∀ (w1 : World) (a1 : Option Addr) (n1 c1 : Nat), Nw w1 (.slice a1 n1 c1) X → Calls Try.prog 80 #[.slice a1 n1 c1, .slice a1 n1 c1] w1 (OneOk w1 S))) (HS1 : Hid (∀ (w1 : World) (a1 : Option Addr) (n1 c1 : Nat), Nw w1 (.slice a1 n1 c1) (X) → Calls Try.prog 78 #[.slice a1 n1 c1, .int .i64 (1)] w1 (OneOk w1 (X * 2)))) (HC : Hid (∀ (w1 : World) (a1 : Option Addr) (n1 c1 : Nat) (a2 : Option Addr) (n2 c2 : Nat), Nw w1 (.slice a1 n1 c1) (S) → Nw w1 (.slice a2 n2 c2) (M) → Calls Try.prog 81 #[.slice a1 n1 c1, .slice a2 n2 c2] w1 fun e w' => e = .returned (.int .i64 u) ∧ Below w1.heap.size w1 w')) (HM : Hid (∀ (w1 : World) (a1 : Option Addr) (n1 c1 : Nat), Nw w1 (.slice a1 n1 c1) (X * 2) → Calls Try.prog 58 #[.bool (false), .slice a1 n1 c1, .int .i64 (q - 1)] w1 fun e w' => e = .returned (.int .u64 R) ∧ Below w1.heap.size w1 w')) (w : World) : Calls Try.prog 22 #[.int .u64 a] w fun e w' => e = .returned (.int .u64 R) ∧ Below w.heap.size w w' := by
  go_enter Try.func22, Try.ntmps22
  go_wp2_with (first
    | (go_at_call 71; (with_reducible refine (N1.out _).mono ?_); rintro e1 w1 ⟨rfl, rfl⟩)
    | (go_at_call 73; (with_reducible refine (Z1.out _).mono ?_); rintro e1 w1 ⟨rfl, rfl⟩)
    | (go_at_call 70; (with_reducible refine (G1.out _).mono ?_); rintro e1 w1 ⟨rfl, rfl⟩)
    | (go_at_call 72; (with_reducible refine (I1.out _).mono ?_); rintro e1 w1 ⟨rfl, rfl⟩)
    | (go_at_call 60; (with_reducible refine (SA.out _).mono ?_); rintro e1 w1 ⟨a1, n1, c1, rfl, hv1, hb1⟩)
    | (go_at_call 77; (with_reducible refine (HB.out _ _ _ _ hv1).mono ?_); rintro e2 w2 ⟨rfl, rfl⟩)
    | (go_at_call 78; (with_reducible refine (HS.out _ _ _ _ hv1).mono ?_); rintro e3 w3 ⟨a3, n3, c3, rfl, hv3, hb3⟩)
    | (go_at_call 79; (with_reducible refine (HR.out _ _ _ _ hv3).mono ?_); rintro e4 w4 ⟨a4, n4, c4, rfl, hv4, hb4⟩)
    | (go_at_call 80; (with_reducible refine (HX.out _ _ _ _ hv4).mono ?_); rintro e5 w5 ⟨a5, n5, c5, rfl, hv5, hb5⟩)
    | (go_at_call 78; (with_reducible refine (HS1.out _ _ _ _ (hv4.below hb5)).mono ?_); rintro e6 w6 ⟨a6, n6, c6, rfl, hv6, hb6⟩)
    | (go_at_call 81; (with_reducible refine (HC.out _ _ _ _ _ _ _ (hv5.below hb6) (hv3.below (btn hb4 (btn hb5 hb6)))).mono ?_); rintro e7 w7 ⟨rfl, hb7⟩)
    | (go_at_call 58; (with_reducible refine (HM.out _ _ _ _ (hv6.below hb7)).mono ?_); rintro e10 w10 ⟨rfl, hb10⟩))
  go_ret
  exact ⟨rfl, btn hb1 (btn hb3 (btn hb4 (btn hb5 (btn hb6 (btn hb7 hb10)))))⟩
set_option maxRecDepth 100000 in
set_option maxHeartbeats 2000000 in
theorem rSqrt_f11 (a : Nat) (N1 : Hid (PB 71 a false)) (Z1 : Hid (PB 73 a false)) (G1 : Hid (PB 70 a false)) (I1 : Hid (PB 72 a false)) (A M S X : Nat) (b e k K t q R : Int)  (p' : Bool) (hb0 : 0 ≤ b ∧ b ≤ 53) (he : -1074 ≤ e ∧ e ≤ 971) (hk : 130 - b = k) (hkb : 0 ≤ k ∧ k ≤ 130) (ht : (e - k).tmod 2 = t) (ht0 : ¬ t = 0) (hK : k + 1 = K) (hq : (e - K).tdiv 2 = q) (hq0 : -1300 ≤ q ∧ q ≤ 1300) (u : Int) (hu : ¬ u = 0) (SA : Hid (∀ w, Calls Try.prog 60 #[.int .u64 a] w (Sp w p' A e))) (HB : Hid (∀ (w1 : World) (a1 : Option Addr) (n1 c1 : Nat), Nw w1 (.slice a1 n1 c1) A → Calls Try.prog 77 #[.slice a1 n1 c1] w1 fun e w' => e = .returned (.int .i64 b) ∧ w1 = w')) (HS : Hid (∀ (w1 : World) (a1 : Option Addr) (n1 c1 : Nat), Nw w1 (.slice a1 n1 c1) (A) → Calls Try.prog 78 #[.slice a1 n1 c1, .int .i64 (K)] w1 (OneOk w1 (M)))) (HR : Hid (∀ (w1 : World) (a1 : Option Addr) (n1 c1 : Nat), Nw w1 (.slice a1 n1 c1) M → Calls Try.prog 79 #[.slice a1 n1 c1] w1 fun e w' => ∃ a n c, e = .returned (.slice a n c) ∧ Nw w' (.slice a n c) X ∧ Below w1.heap.size w1 w')) (HX : Hid (∀ (w1 : World) (a1 : Option Addr) (n1 c1 : Nat), Nw w1 (.slice a1 n1 c1) X → Calls Try.prog 80 #[.slice a1 n1 c1, .slice a1 n1 c1] w1 (OneOk w1 S))) (HS1 : Hid (∀ (w1 : World) (a1 : Option Addr) (n1 c1 : Nat), Nw w1 (.slice a1 n1 c1) (X) → Calls Try.prog 78 #[.slice a1 n1 c1, .int .i64 (1)] w1 (OneOk w1 (X * 2)))) (HC : Hid (∀ (w1 : World) (a1 : Option Addr) (n1 c1 : Nat) (a2 : Option Addr) (n2 c2 : Nat), Nw w1 (.slice a1 n1 c1) (S) → Nw w1 (.slice a2 n2 c2) (M) → Calls Try.prog 81 #[.slice a1 n1 c1, .slice a2 n2 c2] w1 fun e w' => e = .returned (.int .i64 u) ∧ Below w1.heap.size w1 w')) (HOf : Hid (∀ w1, Calls Try.prog 83 #[.int .u64 1] w1 (One w1 1))) (HA : Hid (∀ (w1 : World) (a1 : Option Addr) (n1 c1 : Nat) (a2 : Option Addr) (n2 c2 : Nat), Nw w1 (.slice a1 n1 c1) (X * 2) → Nw w1 (.slice a2 n2 c2) (1) → Calls Try.prog 82 #[.slice a1 n1 c1, .slice a2 n2 c2] w1 (One w1 (X * 2 + 1)))) (HM : Hid (∀ (w1 : World) (a1 : Option Addr) (n1 c1 : Nat), Nw w1 (.slice a1 n1 c1) (X * 2 + 1) → Calls Try.prog 58 #[.bool (false), .slice a1 n1 c1, .int .i64 (q - 1)] w1 fun e w' => e = .returned (.int .u64 R) ∧ Below w1.heap.size w1 w')) (w : World) : Calls Try.prog 22 #[.int .u64 a] w fun e w' => e = .returned (.int .u64 R) ∧ Below w.heap.size w w' := by
  go_enter Try.func22, Try.ntmps22
  go_wp2_with (first
    | (go_at_call 71; (with_reducible refine (N1.out _).mono ?_); rintro e1 w1 ⟨rfl, rfl⟩)
    | (go_at_call 73; (with_reducible refine (Z1.out _).mono ?_); rintro e1 w1 ⟨rfl, rfl⟩)
    | (go_at_call 70; (with_reducible refine (G1.out _).mono ?_); rintro e1 w1 ⟨rfl, rfl⟩)
    | (go_at_call 72; (with_reducible refine (I1.out _).mono ?_); rintro e1 w1 ⟨rfl, rfl⟩)
    | (go_at_call 60; (with_reducible refine (SA.out _).mono ?_); rintro e1 w1 ⟨a1, n1, c1, rfl, hv1, hb1⟩)
    | (go_at_call 77; (with_reducible refine (HB.out _ _ _ _ hv1).mono ?_); rintro e2 w2 ⟨rfl, rfl⟩)
    | (go_at_call 78; (with_reducible refine (HS.out _ _ _ _ hv1).mono ?_); rintro e3 w3 ⟨a3, n3, c3, rfl, hv3, hb3⟩)
    | (go_at_call 79; (with_reducible refine (HR.out _ _ _ _ hv3).mono ?_); rintro e4 w4 ⟨a4, n4, c4, rfl, hv4, hb4⟩)
    | (go_at_call 80; (with_reducible refine (HX.out _ _ _ _ hv4).mono ?_); rintro e5 w5 ⟨a5, n5, c5, rfl, hv5, hb5⟩)
    | (go_at_call 78; (with_reducible refine (HS1.out _ _ _ _ (hv4.below hb5)).mono ?_); rintro e6 w6 ⟨a6, n6, c6, rfl, hv6, hb6⟩)
    | (go_at_call 81; (with_reducible refine (HC.out _ _ _ _ _ _ _ (hv5.below hb6) (hv3.below (btn hb4 (btn hb5 hb6)))).mono ?_); rintro e7 w7 ⟨rfl, hb7⟩)
    | (go_at_call 83; (with_reducible refine (HOf.out _).mono ?_); rintro e8 w8 ⟨a8, n8, c8, rfl, hv8, hb8⟩)
    | (go_at_call 82; (with_reducible refine (HA.out _ _ _ _ _ _ _ (hv6.below (btn hb7 hb8)) hv8).mono ?_); rintro e9 w9 ⟨a9, n9, c9, rfl, hv9, hb9⟩)
    | (go_at_call 58; (with_reducible refine (HM.out _ _ _ _ hv9).mono ?_); rintro e10 w10 ⟨rfl, hb10⟩))
  go_ret
  exact ⟨rfl, btn hb1 (btn hb3 (btn hb4 (btn hb5 (btn hb6 (btn hb7 (btn hb8 (btn hb9 hb10)))))))⟩
theorem tdiv2 {x : Int} (h : x % 2 = 0) : x.tdiv 2 = x / 2 ∧ x.tmod 2 = 0 := by
  obtain ⟨z, rfl⟩ : ∃ z, x = 2 * z := ⟨x / 2, by omega⟩
  refine ⟨?_, Int.mul_tmod_right 2 z⟩
  rw [Int.mul_tdiv_cancel_left z (by decide)]; omega
theorem tmod2 {x : Int} (h : ¬ x % 2 = 0) : ¬ x.tmod 2 = 0 := by
  intro c
  have := Int.tmod_add_mul_tdiv x 2
  omega
theorem rSqrt_c (a : Nat) (ha : W a) (w : World) : Calls Try.prog 22 #[.int .u64 a] w fun e w' => e = .returned (.int .u64 ((sqrtV a : Nat) : Int)) ∧ Below w.heap.size w w' := by
  have N1 := Lib.hid (risnan_c a ha)
  have I1 := Lib.hid (risinf_c a ha)
  have Z1 := Lib.hid (riszero_c a ha)
  have G1 := Lib.hid (rminus_c a ha)
  by_cases n1 : nan a = true
  · rw [show sqrtV a = NaN by simp [sqrtV, n1]]; rw [n1] at N1; exact rSqrt_n1 a N1 w
  have n1 := Bool.eq_false_iff.2 n1; rw [n1] at N1
  by_cases z1 : zer a = true
  · rw [show sqrtV a = a by simp [sqrtV, n1, z1]]; rw [z1] at Z1; exact rSqrt_z1 a N1 Z1 w
  have z1 := Bool.eq_false_iff.2 z1; rw [z1] at Z1
  by_cases g1 : ng a = true
  · rw [show sqrtV a = NaN by simp [sqrtV, n1, z1, g1]]; rw [g1] at G1; exact rSqrt_g1 a N1 Z1 G1 w
  have g1 := Bool.eq_false_iff.2 g1; rw [g1] at G1
  by_cases i1 : inf a = true
  · rw [show sqrtV a = a by simp [sqrtV, n1, z1, g1, i1]]; rw [i1] at I1; exact rSqrt_i1 a N1 Z1 G1 I1 w
  have i1 := Bool.eq_false_iff.2 i1; rw [i1] at I1
  have hv : sqrtV a = sqrtF a := by
    unfold sqrtV
    rw [if_neg (by rw [n1]; decide), if_neg (by rw [z1]; decide), if_neg (by rw [g1]; decide), if_neg (by rw [i1]; decide)]
  rw [hv]
  have SA := Lib.hid (fun w => rsplit_c a ha n1 i1 w)
  have la := se_ge a
  have ua := se_le n1 i1
  have bb := bl_sm a
  have a0 : sm a ≠ 0 := fun h => by have := sm_zero.1 h; rw [z1] at this; cases this
  obtain ⟨K, hK⟩ : ∃ K, sqk (bl (sm a)) (se a) = K := ⟨_, rfl⟩
  have hsq : sqm a = sm a * 2 ^ K := by unfold sqm; rw [hK]
  have hKb : K = 130 - bl (sm a) ∨ K = 131 - bl (sm a) := by rw [← hK]; unfold sqk; split <;> simp
  have hKe : (se a - (K : Int)) % 2 = 0 := by rw [← hK]; unfold sqk; split <;> omega
  have hpar : (se a - ((130 - bl (sm a) : Nat) : Int)) % 2 = 0 ↔ K = 130 - bl (sm a) := by
    rw [← hK]; unfold sqk; split <;> omega
  have bM : bl (sqm a) ≤ 131 := by rw [hsq, bl_mul K a0]; omega
  have hisq := isq_is (m := sqm a) (Nat.lt_of_lt_of_le (bl_lt _) (pow_le (by omega)))
  obtain ⟨X, hX⟩ : ∃ X, isq (sqm a) = X := ⟨_, rfl⟩
  have hform : sqrtF a = pat (2 * X + (if X * X ≠ sqm a then 1 else 0)) ((se a - (K : Int)) / 2 - 1) false := by unfold sqrtF; rw [hX, hK]
  rw [hform]
  rw [hX] at hisq
  have bX : bl X ≤ 67 := by
    apply bl_le_of_lt
    rcases Nat.lt_or_ge X (2 ^ 67) with h | h
    · exact h
    · exfalso
      have h1 := hisq.1
      have h2 : 2 ^ 67 * 2 ^ 67 ≤ X * X := Nat.mul_le_mul h h
      have h3 := bl_lt (sqm a)
      have h4 := pow_le bM
      rw [← Nat.pow_add] at h2
      have : (2 : Nat) ^ 131 < 2 ^ (67 + 67) := Nat.pow_lt_pow_right (by decide) (by decide)
      omega
  have bS := bl_mulb bX bX
  have b2 : bl (X * 2) ≤ 68 := by have := bl_shl X 1; rw [Nat.pow_one] at this; omega
  have b1 : bl 1 = 1 := by decide
  have b3 : bl (X * 2 + 1) ≤ 69 := bl_addb b2 (by omega)
  have HB := Lib.hid (fun (w1 : World) (a1 : Option Addr) (n1 c1 : Nat) (h : Nw w1 (.slice a1 n1 c1) (sm a)) => rbits_n h (by omega))
  have HS := fun (w1 : World) (a1 : Option Addr) (n1 c1 : Nat) (h : Nw w1 (.slice a1 n1 c1) (sm a)) => rshl_n K h (by omega)
  rw [← hsq] at HS
  have HR := fun (w1 : World) (a1 : Option Addr) (n1 c1 : Nat) (h : Nw w1 (.slice a1 n1 c1) (sqm a)) => rroot_c h (by omega)
  rw [hX] at HR
  have HR := Lib.hid HR
  have HX := Lib.hid (fun (w1 : World) (a1 : Option Addr) (n1 c1 : Nat) (h : Nw w1 (.slice a1 n1 c1) X) => rmul_n h h (by omega))
  have HS1 : Hid (∀ (w1 : World) (a1 : Option Addr) (n1 c1 : Nat), Nw w1 (.slice a1 n1 c1) X → Calls Try.prog 78 #[.slice a1 n1 c1, .int .i64 1] w1 (OneOk w1 (X * 2))) := fun w1 a1 n1 c1 h => by
    have := rshl_n 1 h (by omega)
    rw [Nat.pow_one] at this; exact this
  have HOf : Hid (∀ w1, Calls Try.prog 83 #[.int .u64 1] w1 (One w1 1)) := fun w1 => rof_n 1 w1 (W_of (by decide))
  have HA := Lib.hid (fun (w1 : World) (a1 : Option Addr) (n1 c1 : Nat) (a2 : Option Addr) (n2 c2 : Nat) (h1 : Nw w1 (.slice a1 n1 c1) (X * 2)) (h2 : Nw w1 (.slice a2 n2 c2) 1) => radd_n h1 (by omega) h2 (by omega))
  have HC := fun (w1 : World) (a1 : Option Addr) (n1 c1 : Nat) (a2 : Option Addr) (n2 c2 : Nat) (h1 : Nw w1 (.slice a1 n1 c1) (X * X)) (h2 : Nw w1 (.slice a2 n2 c2) (sqm a)) => rcmp_n h1 (by omega) h2 (by omega)
  have hq : (se a - (K : Int)).tdiv 2 = (se a - (K : Int)) / 2 := (tdiv2 hKe).1
  have HMk := fun (D : Nat) (hD : bl D ≤ 32000) (w1 : World) (a1 : Option Addr) (n1 c1 : Nat) (h : Nw w1 (.slice a1 n1 c1) D) => rmake_n false h hD ((se a - (K : Int)) / 2 - 1) (by omega)
  have hfin : ∀ D : Nat, makeV false D ((se a - (K : Int)) / 2 - 1) = pat D ((se a - (K : Int)) / 2 - 1) false := fun D => by unfold makeV; rw [sg_false]
  obtain ⟨u, hu⟩ : ∃ u, cmpI ((X * X : Nat) : Int) ((sqm a : Nat) : Int) = u := ⟨_, rfl⟩
  have hu0 : u = 0 ↔ X * X = sqm a := by rw [← hu]; unfold cmpI; split <;> (try split) <;> omega
  rw [hu] at HC
  have HC := Lib.hid HC
  have hqb : -1300 ≤ (se a - (K : Int)) / 2 ∧ (se a - (K : Int)) / 2 ≤ 1300 := by omega
  have hk1 : 130 - (bl (sm a) : Int) = ((130 - bl (sm a) : Nat) : Int) := by omega
  by_cases he : X * X = sqm a
  · have HM := HMk (X * 2) (by omega)
    rw [hfin] at HM
    have HM := Lib.hid HM
    rw [if_neg (fun h => h he), Nat.add_zero, Nat.mul_comm 2]
    by_cases ev : K = 130 - bl (sm a)
    · rw [ev] at HS HM hq hqb ⊢
      have HS := Lib.hid HS
      exact rSqrt_f00 a N1 Z1 G1 I1 _ _ _ _ _ _ _ _ _ _ (by omega) ⟨la, ua⟩ hk1 (by omega) (tdiv2 (hpar.2 ev)).2 hq hqb u (hu0.2 he) SA HB HS HR HX HS1 HC HM w
    · have hk2 : ((130 - bl (sm a) : Nat) : Int) + 1 = (K : Int) := by omega
      have HS := Lib.hid HS
      exact rSqrt_f10 a N1 Z1 G1 I1 _ _ _ _ _ _ _ _ _ _ _ _ (by omega) ⟨la, ua⟩ hk1 (by omega) rfl (tmod2 ((not_congr hpar).2 ev)) hk2 hq hqb u (hu0.2 he) SA HB HS HR HX HS1 HC HM w
  · have HM := HMk (X * 2 + 1) (by omega)
    rw [hfin] at HM
    have HM := Lib.hid HM
    rw [if_pos he, Nat.mul_comm 2]
    by_cases ev : K = 130 - bl (sm a)
    · rw [ev] at HS HM hq hqb ⊢
      have HS := Lib.hid HS
      exact rSqrt_f01 a N1 Z1 G1 I1 _ _ _ _ _ _ _ _ _ _ (by omega) ⟨la, ua⟩ hk1 (by omega) (tdiv2 (hpar.2 ev)).2 hq hqb u (fun h => he (hu0.1 h)) SA HB HS HR HX HS1 HC HOf HA HM w
    · have hk2 : ((130 - bl (sm a) : Nat) : Int) + 1 = (K : Int) := by omega
      have HS := Lib.hid HS
      exact rSqrt_f11 a N1 Z1 G1 I1 _ _ _ _ _ _ _ _ _ _ _ _ (by omega) ⟨la, ua⟩ hk1 (by omega) rfl (tmod2 ((not_congr hpar).2 ev)) hk2 hq hqb u (fun h => he (hu0.1 h)) SA HB HS HR HX HS1 HC HOf HA HM w
end Go.Proofs.Ytecgkhijiogggaa
