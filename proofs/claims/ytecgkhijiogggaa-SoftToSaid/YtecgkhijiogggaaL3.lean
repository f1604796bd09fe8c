/- SoftTo: the program's ToDouble is the reference's. -/
import Derived.Test.YtecgkhijiogggaaZ2
import Derived.Test.YtecgkhijiogggaaT
namespace Go.Proofs.Ytecgkhijiogggaa
set_option linter.unusedVariables false
set_option linter.unusedSimpArgs false
open Go.RowKit Go.Shelf SF
set_option maxRecDepth 100000 in
set_option maxHeartbeats 2000000 in
theorem lto_g (a : Nat) (x y z : Int) (P : Hid (∀ w, Calls Try.prog 55 #[.int .u64 (a : Int)] w fun e w' => e = .returned (.tuple #[.int .i64 x, .int .i64 y, .int .i64 z]) ∧ Below w.heap.size w w'))
    (R : Hid (∀ w, Calls Try.prog 56 #[.int .u64 (a : Int)] w fun e w' => e = .returned (.tuple #[.int .i64 x, .int .i64 y, .int .i64 z]) ∧ Below w.heap.size w w')) (w : World) :
    Calls Try.prog 14 #[.int .u64 (a : Int)] w fun e w' => e = .returned (.bool true) ∧ Below w.heap.size w w' := by
  have H := Below.refl w.heap.size w
  go_enter Try.func14, Try.ntmps14
  go_wp2_with (first
    | (go_at_call 55; (with_reducible refine (P.out _).mono ?_); rintro e1 w1 ⟨rfl, hb⟩; replace H := btn H hb; clear hb)
    | (go_at_call 56; (with_reducible refine (R.out _).mono ?_); rintro e1 w1 ⟨rfl, hb⟩; replace H := btn H hb; clear hb)
    | (go_at_call 20; refine (awake_c _).mono ?_; rintro e1 w1 ⟨rfl, hb⟩; replace H := btn H hb; clear hb))
  go_ret
  exact ⟨rfl, H⟩
theorem lto_walk (a : Nat) (ha : W a) (w : World) : Calls Try.prog 14 #[.int .u64 (a : Int)] w fun e w' => e = .returned (.bool true) ∧ Below w.heap.size w w' :=
  lto_g a _ _ _ (Lib.hid (fun w => to_c a ha w)) (Lib.hid (fun w => rTo_c a ha w)) w
end Go.Proofs.Ytecgkhijiogggaa
