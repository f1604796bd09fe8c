/- Laws: the program's result is the reference's. -/
import Derived.Test.YtecgkhijiogggaaY7
import Derived.Test.YtecgkhijiogggaaM
namespace Go.Proofs.Ytecgkhijiogggaa
set_option linter.unusedVariables false
set_option linter.unusedSimpArgs false
open Go.RowKit Go.Shelf SF
set_option maxRecDepth 100000 in
set_option maxHeartbeats 2000000 in
theorem ladds_g (a b : Nat) (r0 : Int) (P0 : Hid (∀ w, Calls Try.prog 23 #[.int .u64 (a : Int), .int .u64 (b : Int)] w fun e w' => e = .returned (.int .u64 r0) ∧ Below w.heap.size w w')) (Q0 : Hid (∀ w, Calls Try.prog 24 #[.int .u64 (a : Int), .int .u64 (b : Int)] w fun e w' => e = .returned (.int .u64 r0) ∧ Below w.heap.size w w')) (r1 : Int) (P1 : Hid (∀ w, Calls Try.prog 25 #[.int .u64 (a : Int), .int .u64 (b : Int)] w fun e w' => e = .returned (.int .u64 r1) ∧ Below w.heap.size w w')) (Q1 : Hid (∀ w, Calls Try.prog 26 #[.int .u64 (a : Int), .int .u64 (b : Int)] w fun e w' => e = .returned (.int .u64 r1) ∧ Below w.heap.size w w')) (w : World) : Calls Try.prog 5 #[.int .u64 (a : Int), .int .u64 (b : Int)] w fun e w' => e = .returned (.bool true) ∧ Below w.heap.size w w' := by
  have H := Below.refl w.heap.size w
  go_enter Try.func5, Try.ntmps5
  go_wp2_with (first
    | (go_at_call 23; (with_reducible refine (P0.out _).mono ?_); rintro e1 w1 ⟨rfl, hb⟩; replace H := btn H hb; clear hb)
    | (go_at_call 24; (with_reducible refine (Q0.out _).mono ?_); rintro e1 w1 ⟨rfl, hb⟩; replace H := btn H hb; clear hb)
    | (go_at_call 25; (with_reducible refine (P1.out _).mono ?_); rintro e1 w1 ⟨rfl, hb⟩; replace H := btn H hb; clear hb)
    | (go_at_call 26; (with_reducible refine (Q1.out _).mono ?_); rintro e1 w1 ⟨rfl, hb⟩; replace H := btn H hb; clear hb)
    | (go_at_call 20; refine (awake_c _).mono ?_; rintro e1 w1 ⟨rfl, hb⟩; replace H := btn H hb; clear hb))
  go_ret
  exact ⟨rfl, H⟩
theorem ladds_walk (a b : Nat) (ha : W a) (hb : W b) (w : World) : Calls Try.prog 5 #[.int .u64 (a : Int), .int .u64 (b : Int)] w fun e w' => e = .returned (.bool true) ∧ Below w.heap.size w w' :=
  ladds_g a b _ (Lib.hid (fun w => add_c a b ha hb w)) (Lib.hid (fun w => rAdd_c a b ha hb w)) _ (Lib.hid (fun w => sub_c a b ha hb w)) (Lib.hid (fun w => rSub_c a b ha hb w)) w
set_option maxRecDepth 100000 in
set_option maxHeartbeats 2000000 in
theorem lmuls_g (a b : Nat) (r0 : Int) (P0 : Hid (∀ w, Calls Try.prog 31 #[.int .u64 (a : Int), .int .u64 (b : Int)] w fun e w' => e = .returned (.int .u64 r0) ∧ Below w.heap.size w w')) (Q0 : Hid (∀ w, Calls Try.prog 32 #[.int .u64 (a : Int), .int .u64 (b : Int)] w fun e w' => e = .returned (.int .u64 r0) ∧ Below w.heap.size w w')) (w : World) : Calls Try.prog 8 #[.int .u64 (a : Int), .int .u64 (b : Int)] w fun e w' => e = .returned (.bool true) ∧ Below w.heap.size w w' := by
  have H := Below.refl w.heap.size w
  go_enter Try.func8, Try.ntmps8
  go_wp2_with (first
    | (go_at_call 31; (with_reducible refine (P0.out _).mono ?_); rintro e1 w1 ⟨rfl, hb⟩; replace H := btn H hb; clear hb)
    | (go_at_call 32; (with_reducible refine (Q0.out _).mono ?_); rintro e1 w1 ⟨rfl, hb⟩; replace H := btn H hb; clear hb)
    | (go_at_call 20; refine (awake_c _).mono ?_; rintro e1 w1 ⟨rfl, hb⟩; replace H := btn H hb; clear hb))
  go_ret
  exact ⟨rfl, H⟩
theorem lmuls_walk (a b : Nat) (ha : W a) (hb : W b) (w : World) : Calls Try.prog 8 #[.int .u64 (a : Int), .int .u64 (b : Int)] w fun e w' => e = .returned (.bool true) ∧ Below w.heap.size w w' :=
  lmuls_g a b _ (Lib.hid (fun w => mul_c a b ha hb w)) (Lib.hid (fun w => rMul_c a b ha hb w)) w
set_option maxRecDepth 100000 in
set_option maxHeartbeats 2000000 in
theorem ldivs_g (a b : Nat) (r0 : Int) (P0 : Hid (∀ w, Calls Try.prog 18 #[.int .u64 (a : Int), .int .u64 (b : Int)] w fun e w' => e = .returned (.int .u64 r0) ∧ Below w.heap.size w w')) (Q0 : Hid (∀ w, Calls Try.prog 19 #[.int .u64 (a : Int), .int .u64 (b : Int)] w fun e w' => e = .returned (.int .u64 r0) ∧ Below w.heap.size w w')) (w : World) : Calls Try.prog 3 #[.int .u64 (a : Int), .int .u64 (b : Int)] w fun e w' => e = .returned (.bool true) ∧ Below w.heap.size w w' := by
  have H := Below.refl w.heap.size w
  go_enter Try.func3, Try.ntmps3
  go_wp2_with (first
    | (go_at_call 18; (with_reducible refine (P0.out _).mono ?_); rintro e1 w1 ⟨rfl, hb⟩; replace H := btn H hb; clear hb)
    | (go_at_call 19; (with_reducible refine (Q0.out _).mono ?_); rintro e1 w1 ⟨rfl, hb⟩; replace H := btn H hb; clear hb)
    | (go_at_call 20; refine (awake_c _).mono ?_; rintro e1 w1 ⟨rfl, hb⟩; replace H := btn H hb; clear hb))
  go_ret
  exact ⟨rfl, H⟩
theorem ldivs_walk (a b : Nat) (ha : W a) (hb : W b) (w : World) : Calls Try.prog 3 #[.int .u64 (a : Int), .int .u64 (b : Int)] w fun e w' => e = .returned (.bool true) ∧ Below w.heap.size w w' :=
  ldivs_g a b _ (Lib.hid (fun w => div_c a b ha hb w)) (Lib.hid (fun w => rDiv_c a b ha hb w)) w
set_option maxRecDepth 100000 in
set_option maxHeartbeats 2000000 in
theorem lroots_g (a : Nat) (r0 : Int) (P0 : Hid (∀ w, Calls Try.prog 21 #[.int .u64 (a : Int)] w fun e w' => e = .returned (.int .u64 r0) ∧ Below w.heap.size w w')) (Q0 : Hid (∀ w, Calls Try.prog 22 #[.int .u64 (a : Int)] w fun e w' => e = .returned (.int .u64 r0) ∧ Below w.heap.size w w')) (w : World) : Calls Try.prog 4 #[.int .u64 (a : Int)] w fun e w' => e = .returned (.bool true) ∧ Below w.heap.size w w' := by
  have H := Below.refl w.heap.size w
  go_enter Try.func4, Try.ntmps4
  go_wp2_with (first
    | (go_at_call 21; (with_reducible refine (P0.out _).mono ?_); rintro e1 w1 ⟨rfl, hb⟩; replace H := btn H hb; clear hb)
    | (go_at_call 22; (with_reducible refine (Q0.out _).mono ?_); rintro e1 w1 ⟨rfl, hb⟩; replace H := btn H hb; clear hb)
    | (go_at_call 20; refine (awake_c _).mono ?_; rintro e1 w1 ⟨rfl, hb⟩; replace H := btn H hb; clear hb))
  go_ret
  exact ⟨rfl, H⟩
theorem lroots_walk (a : Nat) (ha : W a) (w : World) : Calls Try.prog 4 #[.int .u64 (a : Int)] w fun e w' => e = .returned (.bool true) ∧ Below w.heap.size w w' :=
  lroots_g a _ (Lib.hid (fun w => sqrt_c a ha w)) (Lib.hid (fun w => rSqrt_c a ha w)) w
end Go.Proofs.Ytecgkhijiogggaa
