/- Laws: the program's result is the reference's. -/
import Derived.Test.YtecgkhijiogggaaY9
import Derived.Test.YtecgkhijiogggaaN
namespace Go.Proofs.Ytecgkhijiogggaa
set_option linter.unusedVariables false
set_option linter.unusedSimpArgs false
open Go.RowKit Go.Shelf SF
set_option maxRecDepth 100000 in
set_option maxHeartbeats 2000000 in
theorem lwholes_g (a : Nat) (r0 : Int) (P0 : Hid (∀ w, Calls Try.prog 36 #[.int .u64 (a : Int)] w fun e w' => e = .returned (.int .u64 r0) ∧ Below w.heap.size w w')) (Q0 : Hid (∀ w, Calls Try.prog 37 #[.int .u64 (a : Int)] w fun e w' => e = .returned (.int .u64 r0) ∧ Below w.heap.size w w')) (r1 : Int) (P1 : Hid (∀ w, Calls Try.prog 38 #[.int .u64 (a : Int)] w fun e w' => e = .returned (.int .u64 r1) ∧ Below w.heap.size w w')) (Q1 : Hid (∀ w, Calls Try.prog 39 #[.int .u64 (a : Int)] w fun e w' => e = .returned (.int .u64 r1) ∧ Below w.heap.size w w')) (r2 : Int) (P2 : Hid (∀ w, Calls Try.prog 40 #[.int .u64 (a : Int)] w fun e w' => e = .returned (.int .u64 r2) ∧ Below w.heap.size w w')) (Q2 : Hid (∀ w, Calls Try.prog 41 #[.int .u64 (a : Int)] w fun e w' => e = .returned (.int .u64 r2) ∧ Below w.heap.size w w')) (w : World) : Calls Try.prog 10 #[.int .u64 (a : Int)] w fun e w' => e = .returned (.bool true) ∧ Below w.heap.size w w' := by
  have H := Below.refl w.heap.size w
  go_enter Try.func10, Try.ntmps10
  go_wp2_with (first
    | (go_at_call 36; (with_reducible refine (P0.out _).mono ?_); rintro e1 w1 ⟨rfl, hb⟩; replace H := btn H hb; clear hb)
    | (go_at_call 37; (with_reducible refine (Q0.out _).mono ?_); rintro e1 w1 ⟨rfl, hb⟩; replace H := btn H hb; clear hb)
    | (go_at_call 38; (with_reducible refine (P1.out _).mono ?_); rintro e1 w1 ⟨rfl, hb⟩; replace H := btn H hb; clear hb)
    | (go_at_call 39; (with_reducible refine (Q1.out _).mono ?_); rintro e1 w1 ⟨rfl, hb⟩; replace H := btn H hb; clear hb)
    | (go_at_call 40; (with_reducible refine (P2.out _).mono ?_); rintro e1 w1 ⟨rfl, hb⟩; replace H := btn H hb; clear hb)
    | (go_at_call 41; (with_reducible refine (Q2.out _).mono ?_); rintro e1 w1 ⟨rfl, hb⟩; replace H := btn H hb; clear hb)
    | (go_at_call 20; refine (awake_c _).mono ?_; rintro e1 w1 ⟨rfl, hb⟩; replace H := btn H hb; clear hb))
  go_ret
  exact ⟨rfl, H⟩
theorem lwholes_walk (a : Nat) (ha : W a) (w : World) : Calls Try.prog 10 #[.int .u64 (a : Int)] w fun e w' => e = .returned (.bool true) ∧ Below w.heap.size w w' :=
  lwholes_g a _ (Lib.hid (fun w => floor_c a ha w)) (Lib.hid (fun w => rFloor_c a ha w)) _ (Lib.hid (fun w => rnd_c a ha w)) (Lib.hid (fun w => rRound_c a ha w)) _ (Lib.hid (fun w => trunc_c a ha w)) (Lib.hid (fun w => rTrunc_c a ha w)) w
set_option maxRecDepth 100000 in
set_option maxHeartbeats 2000000 in
theorem lscales_g (a : Nat) (n : Int) (r0 : Int) (P0 : Hid (∀ w, Calls Try.prog 27 #[.int .u64 (a : Int), .int .i64 n] w fun e w' => e = .returned (.int .u64 r0) ∧ Below w.heap.size w w')) (Q0 : Hid (∀ w, Calls Try.prog 28 #[.int .u64 (a : Int), .int .i64 n] w fun e w' => e = .returned (.int .u64 r0) ∧ Below w.heap.size w w')) (w : World) : Calls Try.prog 6 #[.int .u64 (a : Int), .int .i64 n] w fun e w' => e = .returned (.bool true) ∧ Below w.heap.size w w' := by
  have H := Below.refl w.heap.size w
  go_enter Try.func6, Try.ntmps6
  go_wp2_with (first
    | (go_at_call 27; (with_reducible refine (P0.out _).mono ?_); rintro e1 w1 ⟨rfl, hb⟩; replace H := btn H hb; clear hb)
    | (go_at_call 28; (with_reducible refine (Q0.out _).mono ?_); rintro e1 w1 ⟨rfl, hb⟩; replace H := btn H hb; clear hb)
    | (go_at_call 20; refine (awake_c _).mono ?_; rintro e1 w1 ⟨rfl, hb⟩; replace H := btn H hb; clear hb))
  go_ret
  exact ⟨rfl, H⟩
theorem lscales_walk (a : Nat) (ha : W a) (n : Int) (hn : -9223372036854775808 ≤ n ∧ n ≤ 9223372036854775807) (w : World) : Calls Try.prog 6 #[.int .u64 (a : Int), .int .i64 n] w fun e w' => e = .returned (.bool true) ∧ Below w.heap.size w w' :=
  lscales_g a n _ (Lib.hid (fun w => scale_c a n ha w)) (Lib.hid (fun w => rScale_c a ha n hn w)) w
end Go.Proofs.Ytecgkhijiogggaa
