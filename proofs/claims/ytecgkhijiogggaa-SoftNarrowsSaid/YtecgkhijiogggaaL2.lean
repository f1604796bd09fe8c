/- Laws: the program's result is the reference's. -/
import Derived.Test.YtecgkhijiogggaaZ1
namespace Go.Proofs.Ytecgkhijiogggaa
set_option linter.unusedVariables false
set_option linter.unusedSimpArgs false
open Go.RowKit Go.Shelf SF
theorem word32_of {x : Int} (h : (Lit.int .u32 x).wf = true) : ∃ a : Nat, x = (a : Int) ∧ W32 a := by
  simp [Lit.wf, IntKind.min, IntKind.max, IntKind.signed, IntKind.bits] at h
  exact ⟨x.toNat, by omega, by unfold W32; omega⟩
set_option maxRecDepth 100000 in
set_option maxHeartbeats 2000000 in
theorem lfrom_g (lo hi : Int) (r0 : Int) (P0 : Hid (∀ w, Calls Try.prog 29 #[.int .i64 lo, .int .i64 hi] w fun e w' => e = .returned (.int .u64 r0) ∧ Below w.heap.size w w')) (Q0 : Hid (∀ w, Calls Try.prog 30 #[.int .i64 lo, .int .i64 hi] w fun e w' => e = .returned (.int .u64 r0) ∧ Below w.heap.size w w')) (w : World) : Calls Try.prog 7 #[.int .i64 lo, .int .i64 hi] w fun e w' => e = .returned (.bool true) ∧ Below w.heap.size w w' := by
  have H := Below.refl w.heap.size w
  go_enter Try.func7, Try.ntmps7
  go_wp2_with (first
    | (go_at_call 29; (with_reducible refine (P0.out _).mono ?_); rintro e1 w1 ⟨rfl, hb⟩; replace H := btn H hb; clear hb)
    | (go_at_call 30; (with_reducible refine (Q0.out _).mono ?_); rintro e1 w1 ⟨rfl, hb⟩; replace H := btn H hb; clear hb)
    | (go_at_call 20; refine (awake_c _).mono ?_; rintro e1 w1 ⟨rfl, hb⟩; replace H := btn H hb; clear hb))
  go_ret
  exact ⟨rfl, H⟩
theorem lfrom_walk (lo hi : Int) (hl : -9223372036854775808 ≤ lo ∧ lo ≤ 9223372036854775807) (hh : -9223372036854775808 ≤ hi ∧ hi ≤ 9223372036854775807) (w : World) : Calls Try.prog 7 #[.int .i64 lo, .int .i64 hi] w fun e w' => e = .returned (.bool true) ∧ Below w.heap.size w w' :=
  lfrom_g lo hi _ (Lib.hid (fun w => from_c lo hi hh.1 hh.2 w)) (Lib.hid (fun w => rFrom_c lo hi hl hh w)) w
set_option maxRecDepth 100000 in
set_option maxHeartbeats 2000000 in
theorem lnarrows_g (a : Nat) (b : Nat) (r0 : Int) (P0 : Hid (∀ w, Calls Try.prog 44 #[.int .u64 (a : Int)] w fun e w' => e = .returned (.int .u32 r0) ∧ Below w.heap.size w w')) (Q0 : Hid (∀ w, Calls Try.prog 45 #[.int .u64 (a : Int)] w fun e w' => e = .returned (.int .u32 r0) ∧ Below w.heap.size w w')) (r1 : Int) (P1 : Hid (∀ w, Calls Try.prog 46 #[.int .u32 (b : Int)] w fun e w' => e = .returned (.int .u64 r1) ∧ Below w.heap.size w w')) (Q1 : Hid (∀ w, Calls Try.prog 47 #[.int .u32 (b : Int)] w fun e w' => e = .returned (.int .u64 r1) ∧ Below w.heap.size w w')) (w : World) : Calls Try.prog 12 #[.int .u64 (a : Int), .int .u32 (b : Int)] w fun e w' => e = .returned (.bool true) ∧ Below w.heap.size w w' := by
  have H := Below.refl w.heap.size w
  go_enter Try.func12, Try.ntmps12
  go_wp2_with (first
    | (go_at_call 44; (with_reducible refine (P0.out _).mono ?_); rintro e1 w1 ⟨rfl, hb⟩; replace H := btn H hb; clear hb)
    | (go_at_call 45; (with_reducible refine (Q0.out _).mono ?_); rintro e1 w1 ⟨rfl, hb⟩; replace H := btn H hb; clear hb)
    | (go_at_call 46; (with_reducible refine (P1.out _).mono ?_); rintro e1 w1 ⟨rfl, hb⟩; replace H := btn H hb; clear hb)
    | (go_at_call 47; (with_reducible refine (Q1.out _).mono ?_); rintro e1 w1 ⟨rfl, hb⟩; replace H := btn H hb; clear hb)
    | (go_at_call 20; refine (awake_c _).mono ?_; rintro e1 w1 ⟨rfl, hb⟩; replace H := btn H hb; clear hb))
  go_ret
  exact ⟨rfl, H⟩
theorem lnarrows_walk (a : Nat) (ha : W a) (b : Nat) (hb : W32 b) (w : World) : Calls Try.prog 12 #[.int .u64 (a : Int), .int .u32 (b : Int)] w fun e w' => e = .returned (.bool true) ∧ Below w.heap.size w w' :=
  lnarrows_g a b _ (Lib.hid (fun w => narrow_c a ha w)) (Lib.hid (fun w => rNarrow_c a ha w)) _ (Lib.hid (fun w => widen_c b hb w)) (Lib.hid (fun w => rWiden_c b hb w)) w
end Go.Proofs.Ytecgkhijiogggaa
