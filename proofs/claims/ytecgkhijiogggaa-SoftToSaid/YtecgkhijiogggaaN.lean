/- Floor, Round, Trunc. -/
import Derived.Test.YtecgkhijiogggaaM
namespace Go.Proofs.Ytecgkhijiogggaa
set_option linter.unusedVariables false
set_option linter.unusedSimpArgs false
open Go.RowKit Go.Shelf SF
theorem one_cells {w2 w3 : World} {x0 x1 x2 : Value} {T : TypeId} (h : Below (w2.alloc (.cells #[x0, x1, x2] T)).heap.size (w2.alloc (.cells #[x0, x1, x2] T)) w3) :
    w3.cell? ⟨w2.heap.size, 0, none⟩ = some x0 ∧ w3.cell? ⟨w2.heap.size, 1, none⟩ = some x1 ∧ w3.cell? ⟨w2.heap.size, 2, none⟩ = some x2 := by
  refine ⟨?_, ?_, ?_⟩ <;> (refine cell_below h ?_; simp [go_sem])
theorem whole_fine {w w1 w2 w3 w4 : World} {o1 : Obj} (h1 : Below w.heap.size w w1) (h2 : Below (w1.alloc o1).heap.size (w1.alloc o1) w2) (h3 : Below w2.heap.size w2 w3) (h4 : Below w3.heap.size w3 w4) : Below w.heap.size w w4 :=
  bt (bt (bt (h1.alloc h1.size o1) h2) h3) h4
set_option maxRecDepth 100000 in
set_option maxHeartbeats 1000000 in
theorem whole_n1 (f : FuncId) (a : Nat) (N1 : Hid (PB 62 a true)) (w : World) : Calls Try.prog 90 #[.int .u64 a, .func (.func f) #[] #[]] w fun e w' => e = .returned (.int .u64 (9221120237041090560)) ∧ Below w.heap.size w w' := by
  go_enter Try.func90, Try.ntmps90
  go_wp2_with (first
    | (go_at_call 62; (with_reducible refine (N1.out _).mono ?_); rintro e1 w1 ⟨rfl, rfl⟩))
  go_ret
  exact ⟨rfl, Below.refl _ _⟩
set_option maxRecDepth 100000 in
set_option maxHeartbeats 1000000 in
theorem whole_i1 (f : FuncId) (a : Nat) (N1 : Hid (PB 62 a false)) (I1 : Hid (PB 63 a true)) (w : World) : Calls Try.prog 90 #[.int .u64 a, .func (.func f) #[] #[]] w fun e w' => e = .returned (.int .u64 ((a : Int))) ∧ Below w.heap.size w w' := by
  go_enter Try.func90, Try.ntmps90
  go_wp2_with (first
    | (go_at_call 62; (with_reducible refine (N1.out _).mono ?_); rintro e1 w1 ⟨rfl, rfl⟩)
    | (go_at_call 63; (with_reducible refine (I1.out _).mono ?_); rintro e1 w1 ⟨rfl, rfl⟩))
  go_ret
  exact ⟨rfl, Below.refl _ _⟩
set_option maxRecDepth 100000 in
set_option maxHeartbeats 1000000 in
theorem whole_z1 (f : FuncId) (a : Nat) (N1 : Hid (PB 62 a false)) (I1 : Hid (PB 63 a false)) (Z1 : Hid (PB 64 a true)) (w : World) : Calls Try.prog 90 #[.int .u64 a, .func (.func f) #[] #[]] w fun e w' => e = .returned (.int .u64 ((a : Int))) ∧ Below w.heap.size w w' := by
  go_enter Try.func90, Try.ntmps90
  go_wp2_with (first
    | (go_at_call 62; (with_reducible refine (N1.out _).mono ?_); rintro e1 w1 ⟨rfl, rfl⟩)
    | (go_at_call 63; (with_reducible refine (I1.out _).mono ?_); rintro e1 w1 ⟨rfl, rfl⟩)
    | (go_at_call 64; (with_reducible refine (Z1.out _).mono ?_); rintro e1 w1 ⟨rfl, rfl⟩))
  go_ret
  exact ⟨rfl, Below.refl _ _⟩
set_option maxRecDepth 100000 in
set_option maxHeartbeats 1000000 in
theorem whole_e (f : FuncId) (a : Nat) (N1 : Hid (PB 62 a false)) (I1 : Hid (PB 63 a false)) (Z1 : Hid (PB 64 a false)) (p : Bool) (m e : Int) (HSA : Hid (PSplit a p m e)) (he : 0 ≤ e) (w : World) : Calls Try.prog 90 #[.int .u64 a, .func (.func f) #[] #[]] w fun e w' => e = .returned (.int .u64 ((a : Int))) ∧ Below w.heap.size w w' := by
  go_enter Try.func90, Try.ntmps90
  go_wp2_with (first
    | (go_at_call 62; (with_reducible refine (N1.out _).mono ?_); rintro e1 w1 ⟨rfl, rfl⟩)
    | (go_at_call 63; (with_reducible refine (I1.out _).mono ?_); rintro e1 w1 ⟨rfl, rfl⟩)
    | (go_at_call 64; (with_reducible refine (Z1.out _).mono ?_); rintro e1 w1 ⟨rfl, rfl⟩)
    | (go_at_call 67; (with_reducible refine (HSA.out _).mono ?_); rintro e1 w1 ⟨rfl, hb1⟩))
  go_ret
  exact ⟨rfl, hb1.alloc hb1.size _⟩
set_option maxRecDepth 100000 in
set_option maxHeartbeats 1000000 in
theorem whole_0000 (f : FuncId) (a : Nat) (ef : ∀ args w, (callFunc f args).run Try.prog w = .ok (.enter f args) w) (N1 : Hid (PB 62 a false)) (I1 : Hid (PB 63 a false)) (Z1 : Hid (PB 64 a false)) (p : Bool) (m e : Int) (HSA : Hid (PSplit a p m e)) (he : -1074 ≤ e ∧ e < 0) (c1 c2 n h1 n2 h2 R : Int) (hc1 : -e = c1) (hc2 : c1 - 1 = c2) (odd mo : Bool) (HR1 : Hid (∀ w, Calls Try.prog 84 #[.int .u64 0, .int .u64 m, .int .i64 (c1)] w fun e w' => e = .returned (.tuple #[.int .u64 h1, .int .u64 n, .bool false]) ∧ Below w.heap.size w w')) (HR2 : Hid (∀ w, Calls Try.prog 84 #[.int .u64 0, .int .u64 m, .int .i64 (c2)] w fun e w' => e = .returned (.tuple #[.int .u64 h2, .int .u64 n2, .bool mo]) ∧ Below w.heap.size w w')) (TW : bits .and .u64 n2 1 = 0) (OD : (bits .and .u64 n 1 == 1) = odd) (bn : 0 ≤ n ∧ n < 9007199254740992) (HUP : Hid (∀ w, Calls Try.prog f #[.bool p, .bool odd, .int .i64 (0), .int .i64 (-1)] w fun e w' => e = .returned (.bool false) ∧ w = w')) (HPK : Hid (PPack p 0 (n) 0 false R)) (w : World) : Calls Try.prog 90 #[.int .u64 a, .func (.func f) #[] #[]] w fun e w' => e = .returned (.int .u64 (R)) ∧ Below w.heap.size w w' := by
  go_enter Try.func90, Try.ntmps90
  go_wp2_with (first
    | (go_at_call 62; (with_reducible refine (N1.out _).mono ?_); rintro e1 w1 ⟨rfl, rfl⟩)
    | (go_at_call 63; (with_reducible refine (I1.out _).mono ?_); rintro e1 w1 ⟨rfl, rfl⟩)
    | (go_at_call 64; (with_reducible refine (Z1.out _).mono ?_); rintro e1 w1 ⟨rfl, rfl⟩)
    | (go_at_call 67; (with_reducible refine (HSA.out _).mono ?_); rintro e1 w1 ⟨rfl, hb1⟩)
    | (go_at_call 84; (with_reducible refine (HR1.out _).mono ?_); rintro e2 w2 ⟨rfl, hb2⟩; obtain ⟨k0, k1, k2⟩ := one_cells hb2)
    | (go_at_call 84; (with_reducible refine (HR2.out _).mono ?_); rintro e3 w3 ⟨rfl, hb3⟩; have j0 := cell_below hb3 k0; have j1 := cell_below hb3 k1; have j2 := cell_below hb3 k2; clear k0 k1 k2)
    | (go_at_fn f; (with_reducible refine (HUP.out _).mono ?_); rintro e5 w5 ⟨rfl, rfl⟩)
    | (go_at_call 69; (with_reducible refine (HPK.out _).mono ?_); rintro e4 w4 ⟨rfl, hb4⟩))
  go_ret
  exact ⟨rfl, whole_fine hb1 hb2 hb3 hb4⟩
set_option maxRecDepth 100000 in
set_option maxHeartbeats 1000000 in
theorem whole_0001 (f : FuncId) (a : Nat) (ef : ∀ args w, (callFunc f args).run Try.prog w = .ok (.enter f args) w) (N1 : Hid (PB 62 a false)) (I1 : Hid (PB 63 a false)) (Z1 : Hid (PB 64 a false)) (p : Bool) (m e : Int) (HSA : Hid (PSplit a p m e)) (he : -1074 ≤ e ∧ e < 0) (c1 c2 n h1 n2 h2 R : Int) (hc1 : -e = c1) (hc2 : c1 - 1 = c2) (odd mo : Bool) (HR1 : Hid (∀ w, Calls Try.prog 84 #[.int .u64 0, .int .u64 m, .int .i64 (c1)] w fun e w' => e = .returned (.tuple #[.int .u64 h1, .int .u64 n, .bool false]) ∧ Below w.heap.size w w')) (HR2 : Hid (∀ w, Calls Try.prog 84 #[.int .u64 0, .int .u64 m, .int .i64 (c2)] w fun e w' => e = .returned (.tuple #[.int .u64 h2, .int .u64 n2, .bool mo]) ∧ Below w.heap.size w w')) (TW : bits .and .u64 n2 1 = 0) (OD : (bits .and .u64 n 1 == 1) = odd) (bn : 0 ≤ n ∧ n < 9007199254740992) (HUP : Hid (∀ w, Calls Try.prog f #[.bool p, .bool odd, .int .i64 (0), .int .i64 (-1)] w fun e w' => e = .returned (.bool true) ∧ w = w')) (HPK : Hid (PPack p 0 (n + 1) 0 false R)) (w : World) : Calls Try.prog 90 #[.int .u64 a, .func (.func f) #[] #[]] w fun e w' => e = .returned (.int .u64 (R)) ∧ Below w.heap.size w w' := by
  go_enter Try.func90, Try.ntmps90
  go_wp2_with (first
    | (go_at_call 62; (with_reducible refine (N1.out _).mono ?_); rintro e1 w1 ⟨rfl, rfl⟩)
    | (go_at_call 63; (with_reducible refine (I1.out _).mono ?_); rintro e1 w1 ⟨rfl, rfl⟩)
    | (go_at_call 64; (with_reducible refine (Z1.out _).mono ?_); rintro e1 w1 ⟨rfl, rfl⟩)
    | (go_at_call 67; (with_reducible refine (HSA.out _).mono ?_); rintro e1 w1 ⟨rfl, hb1⟩)
    | (go_at_call 84; (with_reducible refine (HR1.out _).mono ?_); rintro e2 w2 ⟨rfl, hb2⟩; obtain ⟨k0, k1, k2⟩ := one_cells hb2)
    | (go_at_call 84; (with_reducible refine (HR2.out _).mono ?_); rintro e3 w3 ⟨rfl, hb3⟩; have j0 := cell_below hb3 k0; have j1 := cell_below hb3 k1; have j2 := cell_below hb3 k2; clear k0 k1 k2)
    | (go_at_fn f; (with_reducible refine (HUP.out _).mono ?_); rintro e5 w5 ⟨rfl, rfl⟩)
    | (go_at_call 69; (with_reducible refine (HPK.out _).mono ?_); rintro e4 w4 ⟨rfl, hb4⟩))
  go_ret
  exact ⟨rfl, whole_fine hb1 hb2 hb3 hb4⟩
set_option maxRecDepth 100000 in
set_option maxHeartbeats 1000000 in
theorem whole_0100 (f : FuncId) (a : Nat) (ef : ∀ args w, (callFunc f args).run Try.prog w = .ok (.enter f args) w) (N1 : Hid (PB 62 a false)) (I1 : Hid (PB 63 a false)) (Z1 : Hid (PB 64 a false)) (p : Bool) (m e : Int) (HSA : Hid (PSplit a p m e)) (he : -1074 ≤ e ∧ e < 0) (c1 c2 n h1 n2 h2 R : Int) (hc1 : -e = c1) (hc2 : c1 - 1 = c2) (odd : Bool) (HR1 : Hid (∀ w, Calls Try.prog 84 #[.int .u64 0, .int .u64 m, .int .i64 (c1)] w fun e w' => e = .returned (.tuple #[.int .u64 h1, .int .u64 n, .bool false]) ∧ Below w.heap.size w w')) (HR2 : Hid (∀ w, Calls Try.prog 84 #[.int .u64 0, .int .u64 m, .int .i64 (c2)] w fun e w' => e = .returned (.tuple #[.int .u64 h2, .int .u64 n2, .bool false]) ∧ Below w.heap.size w w')) (TW : bits .and .u64 n2 1 = 1) (OD : (bits .and .u64 n 1 == 1) = odd) (bn : 0 ≤ n ∧ n < 9007199254740992) (HUP : Hid (∀ w, Calls Try.prog f #[.bool p, .bool odd, .int .i64 (0), .int .i64 (0)] w fun e w' => e = .returned (.bool false) ∧ w = w')) (HPK : Hid (PPack p 0 (n) 0 false R)) (w : World) : Calls Try.prog 90 #[.int .u64 a, .func (.func f) #[] #[]] w fun e w' => e = .returned (.int .u64 (R)) ∧ Below w.heap.size w w' := by
  go_enter Try.func90, Try.ntmps90
  go_wp2_with (first
    | (go_at_call 62; (with_reducible refine (N1.out _).mono ?_); rintro e1 w1 ⟨rfl, rfl⟩)
    | (go_at_call 63; (with_reducible refine (I1.out _).mono ?_); rintro e1 w1 ⟨rfl, rfl⟩)
    | (go_at_call 64; (with_reducible refine (Z1.out _).mono ?_); rintro e1 w1 ⟨rfl, rfl⟩)
    | (go_at_call 67; (with_reducible refine (HSA.out _).mono ?_); rintro e1 w1 ⟨rfl, hb1⟩)
    | (go_at_call 84; (with_reducible refine (HR1.out _).mono ?_); rintro e2 w2 ⟨rfl, hb2⟩; obtain ⟨k0, k1, k2⟩ := one_cells hb2)
    | (go_at_call 84; (with_reducible refine (HR2.out _).mono ?_); rintro e3 w3 ⟨rfl, hb3⟩; have j0 := cell_below hb3 k0; have j1 := cell_below hb3 k1; have j2 := cell_below hb3 k2; clear k0 k1 k2)
    | (go_at_fn f; (with_reducible refine (HUP.out _).mono ?_); rintro e5 w5 ⟨rfl, rfl⟩)
    | (go_at_call 69; (with_reducible refine (HPK.out _).mono ?_); rintro e4 w4 ⟨rfl, hb4⟩))
  go_ret
  exact ⟨rfl, whole_fine hb1 hb2 hb3 hb4⟩
set_option maxRecDepth 100000 in
set_option maxHeartbeats 1000000 in
theorem whole_0101 (f : FuncId) (a : Nat) (ef : ∀ args w, (callFunc f args).run Try.prog w = .ok (.enter f args) w) (N1 : Hid (PB 62 a false)) (I1 : Hid (PB 63 a false)) (Z1 : Hid (PB 64 a false)) (p : Bool) (m e : Int) (HSA : Hid (PSplit a p m e)) (he : -1074 ≤ e ∧ e < 0) (c1 c2 n h1 n2 h2 R : Int) (hc1 : -e = c1) (hc2 : c1 - 1 = c2) (odd : Bool) (HR1 : Hid (∀ w, Calls Try.prog 84 #[.int .u64 0, .int .u64 m, .int .i64 (c1)] w fun e w' => e = .returned (.tuple #[.int .u64 h1, .int .u64 n, .bool false]) ∧ Below w.heap.size w w')) (HR2 : Hid (∀ w, Calls Try.prog 84 #[.int .u64 0, .int .u64 m, .int .i64 (c2)] w fun e w' => e = .returned (.tuple #[.int .u64 h2, .int .u64 n2, .bool false]) ∧ Below w.heap.size w w')) (TW : bits .and .u64 n2 1 = 1) (OD : (bits .and .u64 n 1 == 1) = odd) (bn : 0 ≤ n ∧ n < 9007199254740992) (HUP : Hid (∀ w, Calls Try.prog f #[.bool p, .bool odd, .int .i64 (0), .int .i64 (0)] w fun e w' => e = .returned (.bool true) ∧ w = w')) (HPK : Hid (PPack p 0 (n + 1) 0 false R)) (w : World) : Calls Try.prog 90 #[.int .u64 a, .func (.func f) #[] #[]] w fun e w' => e = .returned (.int .u64 (R)) ∧ Below w.heap.size w w' := by
  go_enter Try.func90, Try.ntmps90
  go_wp2_with (first
    | (go_at_call 62; (with_reducible refine (N1.out _).mono ?_); rintro e1 w1 ⟨rfl, rfl⟩)
    | (go_at_call 63; (with_reducible refine (I1.out _).mono ?_); rintro e1 w1 ⟨rfl, rfl⟩)
    | (go_at_call 64; (with_reducible refine (Z1.out _).mono ?_); rintro e1 w1 ⟨rfl, rfl⟩)
    | (go_at_call 67; (with_reducible refine (HSA.out _).mono ?_); rintro e1 w1 ⟨rfl, hb1⟩)
    | (go_at_call 84; (with_reducible refine (HR1.out _).mono ?_); rintro e2 w2 ⟨rfl, hb2⟩; obtain ⟨k0, k1, k2⟩ := one_cells hb2)
    | (go_at_call 84; (with_reducible refine (HR2.out _).mono ?_); rintro e3 w3 ⟨rfl, hb3⟩; have j0 := cell_below hb3 k0; have j1 := cell_below hb3 k1; have j2 := cell_below hb3 k2; clear k0 k1 k2)
    | (go_at_fn f; (with_reducible refine (HUP.out _).mono ?_); rintro e5 w5 ⟨rfl, rfl⟩)
    | (go_at_call 69; (with_reducible refine (HPK.out _).mono ?_); rintro e4 w4 ⟨rfl, hb4⟩))
  go_ret
  exact ⟨rfl, whole_fine hb1 hb2 hb3 hb4⟩
set_option maxRecDepth 100000 in
set_option maxHeartbeats 1000000 in
theorem whole_0110 (f : FuncId) (a : Nat) (ef : ∀ args w, (callFunc f args).run Try.prog w = .ok (.enter f args) w) (N1 : Hid (PB 62 a false)) (I1 : Hid (PB 63 a false)) (Z1 : Hid (PB 64 a false)) (p : Bool) (m e : Int) (HSA : Hid (PSplit a p m e)) (he : -1074 ≤ e ∧ e < 0) (c1 c2 n h1 n2 h2 R : Int) (hc1 : -e = c1) (hc2 : c1 - 1 = c2) (odd : Bool) (HR1 : Hid (∀ w, Calls Try.prog 84 #[.int .u64 0, .int .u64 m, .int .i64 (c1)] w fun e w' => e = .returned (.tuple #[.int .u64 h1, .int .u64 n, .bool false]) ∧ Below w.heap.size w w')) (HR2 : Hid (∀ w, Calls Try.prog 84 #[.int .u64 0, .int .u64 m, .int .i64 (c2)] w fun e w' => e = .returned (.tuple #[.int .u64 h2, .int .u64 n2, .bool true]) ∧ Below w.heap.size w w')) (TW : bits .and .u64 n2 1 = 1) (OD : (bits .and .u64 n 1 == 1) = odd) (bn : 0 ≤ n ∧ n < 9007199254740992) (HUP : Hid (∀ w, Calls Try.prog f #[.bool p, .bool odd, .int .i64 (0), .int .i64 (1)] w fun e w' => e = .returned (.bool false) ∧ w = w')) (HPK : Hid (PPack p 0 (n) 0 false R)) (w : World) : Calls Try.prog 90 #[.int .u64 a, .func (.func f) #[] #[]] w fun e w' => e = .returned (.int .u64 (R)) ∧ Below w.heap.size w w' := by
  go_enter Try.func90, Try.ntmps90
  go_wp2_with (first
    | (go_at_call 62; (with_reducible refine (N1.out _).mono ?_); rintro e1 w1 ⟨rfl, rfl⟩)
    | (go_at_call 63; (with_reducible refine (I1.out _).mono ?_); rintro e1 w1 ⟨rfl, rfl⟩)
    | (go_at_call 64; (with_reducible refine (Z1.out _).mono ?_); rintro e1 w1 ⟨rfl, rfl⟩)
    | (go_at_call 67; (with_reducible refine (HSA.out _).mono ?_); rintro e1 w1 ⟨rfl, hb1⟩)
    | (go_at_call 84; (with_reducible refine (HR1.out _).mono ?_); rintro e2 w2 ⟨rfl, hb2⟩; obtain ⟨k0, k1, k2⟩ := one_cells hb2)
    | (go_at_call 84; (with_reducible refine (HR2.out _).mono ?_); rintro e3 w3 ⟨rfl, hb3⟩; have j0 := cell_below hb3 k0; have j1 := cell_below hb3 k1; have j2 := cell_below hb3 k2; clear k0 k1 k2)
    | (go_at_fn f; (with_reducible refine (HUP.out _).mono ?_); rintro e5 w5 ⟨rfl, rfl⟩)
    | (go_at_call 69; (with_reducible refine (HPK.out _).mono ?_); rintro e4 w4 ⟨rfl, hb4⟩))
  go_ret
  exact ⟨rfl, whole_fine hb1 hb2 hb3 hb4⟩
set_option maxRecDepth 100000 in
set_option maxHeartbeats 1000000 in
theorem whole_0111 (f : FuncId) (a : Nat) (ef : ∀ args w, (callFunc f args).run Try.prog w = .ok (.enter f args) w) (N1 : Hid (PB 62 a false)) (I1 : Hid (PB 63 a false)) (Z1 : Hid (PB 64 a false)) (p : Bool) (m e : Int) (HSA : Hid (PSplit a p m e)) (he : -1074 ≤ e ∧ e < 0) (c1 c2 n h1 n2 h2 R : Int) (hc1 : -e = c1) (hc2 : c1 - 1 = c2) (odd : Bool) (HR1 : Hid (∀ w, Calls Try.prog 84 #[.int .u64 0, .int .u64 m, .int .i64 (c1)] w fun e w' => e = .returned (.tuple #[.int .u64 h1, .int .u64 n, .bool false]) ∧ Below w.heap.size w w')) (HR2 : Hid (∀ w, Calls Try.prog 84 #[.int .u64 0, .int .u64 m, .int .i64 (c2)] w fun e w' => e = .returned (.tuple #[.int .u64 h2, .int .u64 n2, .bool true]) ∧ Below w.heap.size w w')) (TW : bits .and .u64 n2 1 = 1) (OD : (bits .and .u64 n 1 == 1) = odd) (bn : 0 ≤ n ∧ n < 9007199254740992) (HUP : Hid (∀ w, Calls Try.prog f #[.bool p, .bool odd, .int .i64 (0), .int .i64 (1)] w fun e w' => e = .returned (.bool true) ∧ w = w')) (HPK : Hid (PPack p 0 (n + 1) 0 false R)) (w : World) : Calls Try.prog 90 #[.int .u64 a, .func (.func f) #[] #[]] w fun e w' => e = .returned (.int .u64 (R)) ∧ Below w.heap.size w w' := by
  go_enter Try.func90, Try.ntmps90
  go_wp2_with (first
    | (go_at_call 62; (with_reducible refine (N1.out _).mono ?_); rintro e1 w1 ⟨rfl, rfl⟩)
    | (go_at_call 63; (with_reducible refine (I1.out _).mono ?_); rintro e1 w1 ⟨rfl, rfl⟩)
    | (go_at_call 64; (with_reducible refine (Z1.out _).mono ?_); rintro e1 w1 ⟨rfl, rfl⟩)
    | (go_at_call 67; (with_reducible refine (HSA.out _).mono ?_); rintro e1 w1 ⟨rfl, hb1⟩)
    | (go_at_call 84; (with_reducible refine (HR1.out _).mono ?_); rintro e2 w2 ⟨rfl, hb2⟩; obtain ⟨k0, k1, k2⟩ := one_cells hb2)
    | (go_at_call 84; (with_reducible refine (HR2.out _).mono ?_); rintro e3 w3 ⟨rfl, hb3⟩; have j0 := cell_below hb3 k0; have j1 := cell_below hb3 k1; have j2 := cell_below hb3 k2; clear k0 k1 k2)
    | (go_at_fn f; (with_reducible refine (HUP.out _).mono ?_); rintro e5 w5 ⟨rfl, rfl⟩)
    | (go_at_call 69; (with_reducible refine (HPK.out _).mono ?_); rintro e4 w4 ⟨rfl, hb4⟩))
  go_ret
  exact ⟨rfl, whole_fine hb1 hb2 hb3 hb4⟩
set_option maxRecDepth 100000 in
set_option maxHeartbeats 1000000 in
theorem whole_1000 (f : FuncId) (a : Nat) (ef : ∀ args w, (callFunc f args).run Try.prog w = .ok (.enter f args) w) (N1 : Hid (PB 62 a false)) (I1 : Hid (PB 63 a false)) (Z1 : Hid (PB 64 a false)) (p : Bool) (m e : Int) (HSA : Hid (PSplit a p m e)) (he : -1074 ≤ e ∧ e < 0) (c1 c2 n h1 n2 h2 R : Int) (hc1 : -e = c1) (hc2 : c1 - 1 = c2) (odd mo : Bool) (HR1 : Hid (∀ w, Calls Try.prog 84 #[.int .u64 0, .int .u64 m, .int .i64 (c1)] w fun e w' => e = .returned (.tuple #[.int .u64 h1, .int .u64 n, .bool true]) ∧ Below w.heap.size w w')) (HR2 : Hid (∀ w, Calls Try.prog 84 #[.int .u64 0, .int .u64 m, .int .i64 (c2)] w fun e w' => e = .returned (.tuple #[.int .u64 h2, .int .u64 n2, .bool mo]) ∧ Below w.heap.size w w')) (TW : bits .and .u64 n2 1 = 0) (OD : (bits .and .u64 n 1 == 1) = odd) (bn : 0 ≤ n ∧ n < 9007199254740992) (HUP : Hid (∀ w, Calls Try.prog f #[.bool p, .bool odd, .int .i64 (1), .int .i64 (-1)] w fun e w' => e = .returned (.bool false) ∧ w = w')) (HPK : Hid (PPack p 0 (n) 0 false R)) (w : World) : Calls Try.prog 90 #[.int .u64 a, .func (.func f) #[] #[]] w fun e w' => e = .returned (.int .u64 (R)) ∧ Below w.heap.size w w' := by
  go_enter Try.func90, Try.ntmps90
  go_wp2_with (first
    | (go_at_call 62; (with_reducible refine (N1.out _).mono ?_); rintro e1 w1 ⟨rfl, rfl⟩)
    | (go_at_call 63; (with_reducible refine (I1.out _).mono ?_); rintro e1 w1 ⟨rfl, rfl⟩)
    | (go_at_call 64; (with_reducible refine (Z1.out _).mono ?_); rintro e1 w1 ⟨rfl, rfl⟩)
    | (go_at_call 67; (with_reducible refine (HSA.out _).mono ?_); rintro e1 w1 ⟨rfl, hb1⟩)
    | (go_at_call 84; (with_reducible refine (HR1.out _).mono ?_); rintro e2 w2 ⟨rfl, hb2⟩; obtain ⟨k0, k1, k2⟩ := one_cells hb2)
    | (go_at_call 84; (with_reducible refine (HR2.out _).mono ?_); rintro e3 w3 ⟨rfl, hb3⟩; have j0 := cell_below hb3 k0; have j1 := cell_below hb3 k1; have j2 := cell_below hb3 k2; clear k0 k1 k2)
    | (go_at_fn f; (with_reducible refine (HUP.out _).mono ?_); rintro e5 w5 ⟨rfl, rfl⟩)
    | (go_at_call 69; (with_reducible refine (HPK.out _).mono ?_); rintro e4 w4 ⟨rfl, hb4⟩))
  go_ret
  exact ⟨rfl, whole_fine hb1 hb2 hb3 hb4⟩
set_option maxRecDepth 100000 in
set_option maxHeartbeats 1000000 in
theorem whole_1001 (f : FuncId) (a : Nat) (ef : ∀ args w, (callFunc f args).run Try.prog w = .ok (.enter f args) w) (N1 : Hid (PB 62 a false)) (I1 : Hid (PB 63 a false)) (Z1 : Hid (PB 64 a false)) (p : Bool) (m e : Int) (HSA : Hid (PSplit a p m e)) (he : -1074 ≤ e ∧ e < 0) (c1 c2 n h1 n2 h2 R : Int) (hc1 : -e = c1) (hc2 : c1 - 1 = c2) (odd mo : Bool) (HR1 : Hid (∀ w, Calls Try.prog 84 #[.int .u64 0, .int .u64 m, .int .i64 (c1)] w fun e w' => e = .returned (.tuple #[.int .u64 h1, .int .u64 n, .bool true]) ∧ Below w.heap.size w w')) (HR2 : Hid (∀ w, Calls Try.prog 84 #[.int .u64 0, .int .u64 m, .int .i64 (c2)] w fun e w' => e = .returned (.tuple #[.int .u64 h2, .int .u64 n2, .bool mo]) ∧ Below w.heap.size w w')) (TW : bits .and .u64 n2 1 = 0) (OD : (bits .and .u64 n 1 == 1) = odd) (bn : 0 ≤ n ∧ n < 9007199254740992) (HUP : Hid (∀ w, Calls Try.prog f #[.bool p, .bool odd, .int .i64 (1), .int .i64 (-1)] w fun e w' => e = .returned (.bool true) ∧ w = w')) (HPK : Hid (PPack p 0 (n + 1) 0 false R)) (w : World) : Calls Try.prog 90 #[.int .u64 a, .func (.func f) #[] #[]] w fun e w' => e = .returned (.int .u64 (R)) ∧ Below w.heap.size w w' := by
  go_enter Try.func90, Try.ntmps90
  go_wp2_with (first
    | (go_at_call 62; (with_reducible refine (N1.out _).mono ?_); rintro e1 w1 ⟨rfl, rfl⟩)
    | (go_at_call 63; (with_reducible refine (I1.out _).mono ?_); rintro e1 w1 ⟨rfl, rfl⟩)
    | (go_at_call 64; (with_reducible refine (Z1.out _).mono ?_); rintro e1 w1 ⟨rfl, rfl⟩)
    | (go_at_call 67; (with_reducible refine (HSA.out _).mono ?_); rintro e1 w1 ⟨rfl, hb1⟩)
    | (go_at_call 84; (with_reducible refine (HR1.out _).mono ?_); rintro e2 w2 ⟨rfl, hb2⟩; obtain ⟨k0, k1, k2⟩ := one_cells hb2)
    | (go_at_call 84; (with_reducible refine (HR2.out _).mono ?_); rintro e3 w3 ⟨rfl, hb3⟩; have j0 := cell_below hb3 k0; have j1 := cell_below hb3 k1; have j2 := cell_below hb3 k2; clear k0 k1 k2)
    | (go_at_fn f; (with_reducible refine (HUP.out _).mono ?_); rintro e5 w5 ⟨rfl, rfl⟩)
    | (go_at_call 69; (with_reducible refine (HPK.out _).mono ?_); rintro e4 w4 ⟨rfl, hb4⟩))
  go_ret
  exact ⟨rfl, whole_fine hb1 hb2 hb3 hb4⟩
set_option maxRecDepth 100000 in
set_option maxHeartbeats 1000000 in
theorem whole_1100 (f : FuncId) (a : Nat) (ef : ∀ args w, (callFunc f args).run Try.prog w = .ok (.enter f args) w) (N1 : Hid (PB 62 a false)) (I1 : Hid (PB 63 a false)) (Z1 : Hid (PB 64 a false)) (p : Bool) (m e : Int) (HSA : Hid (PSplit a p m e)) (he : -1074 ≤ e ∧ e < 0) (c1 c2 n h1 n2 h2 R : Int) (hc1 : -e = c1) (hc2 : c1 - 1 = c2) (odd : Bool) (HR1 : Hid (∀ w, Calls Try.prog 84 #[.int .u64 0, .int .u64 m, .int .i64 (c1)] w fun e w' => e = .returned (.tuple #[.int .u64 h1, .int .u64 n, .bool true]) ∧ Below w.heap.size w w')) (HR2 : Hid (∀ w, Calls Try.prog 84 #[.int .u64 0, .int .u64 m, .int .i64 (c2)] w fun e w' => e = .returned (.tuple #[.int .u64 h2, .int .u64 n2, .bool false]) ∧ Below w.heap.size w w')) (TW : bits .and .u64 n2 1 = 1) (OD : (bits .and .u64 n 1 == 1) = odd) (bn : 0 ≤ n ∧ n < 9007199254740992) (HUP : Hid (∀ w, Calls Try.prog f #[.bool p, .bool odd, .int .i64 (1), .int .i64 (0)] w fun e w' => e = .returned (.bool false) ∧ w = w')) (HPK : Hid (PPack p 0 (n) 0 false R)) (w : World) : Calls Try.prog 90 #[.int .u64 a, .func (.func f) #[] #[]] w fun e w' => e = .returned (.int .u64 (R)) ∧ Below w.heap.size w w' := by
  go_enter Try.func90, Try.ntmps90
  go_wp2_with (first
    | (go_at_call 62; (with_reducible refine (N1.out _).mono ?_); rintro e1 w1 ⟨rfl, rfl⟩)
    | (go_at_call 63; (with_reducible refine (I1.out _).mono ?_); rintro e1 w1 ⟨rfl, rfl⟩)
    | (go_at_call 64; (with_reducible refine (Z1.out _).mono ?_); rintro e1 w1 ⟨rfl, rfl⟩)
    | (go_at_call 67; (with_reducible refine (HSA.out _).mono ?_); rintro e1 w1 ⟨rfl, hb1⟩)
    | (go_at_call 84; (with_reducible refine (HR1.out _).mono ?_); rintro e2 w2 ⟨rfl, hb2⟩; obtain ⟨k0, k1, k2⟩ := one_cells hb2)
    | (go_at_call 84; (with_reducible refine (HR2.out _).mono ?_); rintro e3 w3 ⟨rfl, hb3⟩; have j0 := cell_below hb3 k0; have j1 := cell_below hb3 k1; have j2 := cell_below hb3 k2; clear k0 k1 k2)
    | (go_at_fn f; (with_reducible refine (HUP.out _).mono ?_); rintro e5 w5 ⟨rfl, rfl⟩)
    | (go_at_call 69; (with_reducible refine (HPK.out _).mono ?_); rintro e4 w4 ⟨rfl, hb4⟩))
  go_ret
  exact ⟨rfl, whole_fine hb1 hb2 hb3 hb4⟩
set_option maxRecDepth 100000 in
set_option maxHeartbeats 1000000 in
theorem whole_1101 (f : FuncId) (a : Nat) (ef : ∀ args w, (callFunc f args).run Try.prog w = .ok (.enter f args) w) (N1 : Hid (PB 62 a false)) (I1 : Hid (PB 63 a false)) (Z1 : Hid (PB 64 a false)) (p : Bool) (m e : Int) (HSA : Hid (PSplit a p m e)) (he : -1074 ≤ e ∧ e < 0) (c1 c2 n h1 n2 h2 R : Int) (hc1 : -e = c1) (hc2 : c1 - 1 = c2) (odd : Bool) (HR1 : Hid (∀ w, Calls Try.prog 84 #[.int .u64 0, .int .u64 m, .int .i64 (c1)] w fun e w' => e = .returned (.tuple #[.int .u64 h1, .int .u64 n, .bool true]) ∧ Below w.heap.size w w')) (HR2 : Hid (∀ w, Calls Try.prog 84 #[.int .u64 0, .int .u64 m, .int .i64 (c2)] w fun e w' => e = .returned (.tuple #[.int .u64 h2, .int .u64 n2, .bool false]) ∧ Below w.heap.size w w')) (TW : bits .and .u64 n2 1 = 1) (OD : (bits .and .u64 n 1 == 1) = odd) (bn : 0 ≤ n ∧ n < 9007199254740992) (HUP : Hid (∀ w, Calls Try.prog f #[.bool p, .bool odd, .int .i64 (1), .int .i64 (0)] w fun e w' => e = .returned (.bool true) ∧ w = w')) (HPK : Hid (PPack p 0 (n + 1) 0 false R)) (w : World) : Calls Try.prog 90 #[.int .u64 a, .func (.func f) #[] #[]] w fun e w' => e = .returned (.int .u64 (R)) ∧ Below w.heap.size w w' := by
  go_enter Try.func90, Try.ntmps90
  go_wp2_with (first
    | (go_at_call 62; (with_reducible refine (N1.out _).mono ?_); rintro e1 w1 ⟨rfl, rfl⟩)
    | (go_at_call 63; (with_reducible refine (I1.out _).mono ?_); rintro e1 w1 ⟨rfl, rfl⟩)
    | (go_at_call 64; (with_reducible refine (Z1.out _).mono ?_); rintro e1 w1 ⟨rfl, rfl⟩)
    | (go_at_call 67; (with_reducible refine (HSA.out _).mono ?_); rintro e1 w1 ⟨rfl, hb1⟩)
    | (go_at_call 84; (with_reducible refine (HR1.out _).mono ?_); rintro e2 w2 ⟨rfl, hb2⟩; obtain ⟨k0, k1, k2⟩ := one_cells hb2)
    | (go_at_call 84; (with_reducible refine (HR2.out _).mono ?_); rintro e3 w3 ⟨rfl, hb3⟩; have j0 := cell_below hb3 k0; have j1 := cell_below hb3 k1; have j2 := cell_below hb3 k2; clear k0 k1 k2)
    | (go_at_fn f; (with_reducible refine (HUP.out _).mono ?_); rintro e5 w5 ⟨rfl, rfl⟩)
    | (go_at_call 69; (with_reducible refine (HPK.out _).mono ?_); rintro e4 w4 ⟨rfl, hb4⟩))
  go_ret
  exact ⟨rfl, whole_fine hb1 hb2 hb3 hb4⟩
set_option maxRecDepth 100000 in
set_option maxHeartbeats 1000000 in
theorem whole_1110 (f : FuncId) (a : Nat) (ef : ∀ args w, (callFunc f args).run Try.prog w = .ok (.enter f args) w) (N1 : Hid (PB 62 a false)) (I1 : Hid (PB 63 a false)) (Z1 : Hid (PB 64 a false)) (p : Bool) (m e : Int) (HSA : Hid (PSplit a p m e)) (he : -1074 ≤ e ∧ e < 0) (c1 c2 n h1 n2 h2 R : Int) (hc1 : -e = c1) (hc2 : c1 - 1 = c2) (odd : Bool) (HR1 : Hid (∀ w, Calls Try.prog 84 #[.int .u64 0, .int .u64 m, .int .i64 (c1)] w fun e w' => e = .returned (.tuple #[.int .u64 h1, .int .u64 n, .bool true]) ∧ Below w.heap.size w w')) (HR2 : Hid (∀ w, Calls Try.prog 84 #[.int .u64 0, .int .u64 m, .int .i64 (c2)] w fun e w' => e = .returned (.tuple #[.int .u64 h2, .int .u64 n2, .bool true]) ∧ Below w.heap.size w w')) (TW : bits .and .u64 n2 1 = 1) (OD : (bits .and .u64 n 1 == 1) = odd) (bn : 0 ≤ n ∧ n < 9007199254740992) (HUP : Hid (∀ w, Calls Try.prog f #[.bool p, .bool odd, .int .i64 (1), .int .i64 (1)] w fun e w' => e = .returned (.bool false) ∧ w = w')) (HPK : Hid (PPack p 0 (n) 0 false R)) (w : World) : Calls Try.prog 90 #[.int .u64 a, .func (.func f) #[] #[]] w fun e w' => e = .returned (.int .u64 (R)) ∧ Below w.heap.size w w' := by
  go_enter Try.func90, Try.ntmps90
  go_wp2_with (first
    | (go_at_call 62; (with_reducible refine (N1.out _).mono ?_); rintro e1 w1 ⟨rfl, rfl⟩)
    | (go_at_call 63; (with_reducible refine (I1.out _).mono ?_); rintro e1 w1 ⟨rfl, rfl⟩)
    | (go_at_call 64; (with_reducible refine (Z1.out _).mono ?_); rintro e1 w1 ⟨rfl, rfl⟩)
    | (go_at_call 67; (with_reducible refine (HSA.out _).mono ?_); rintro e1 w1 ⟨rfl, hb1⟩)
    | (go_at_call 84; (with_reducible refine (HR1.out _).mono ?_); rintro e2 w2 ⟨rfl, hb2⟩; obtain ⟨k0, k1, k2⟩ := one_cells hb2)
    | (go_at_call 84; (with_reducible refine (HR2.out _).mono ?_); rintro e3 w3 ⟨rfl, hb3⟩; have j0 := cell_below hb3 k0; have j1 := cell_below hb3 k1; have j2 := cell_below hb3 k2; clear k0 k1 k2)
    | (go_at_fn f; (with_reducible refine (HUP.out _).mono ?_); rintro e5 w5 ⟨rfl, rfl⟩)
    | (go_at_call 69; (with_reducible refine (HPK.out _).mono ?_); rintro e4 w4 ⟨rfl, hb4⟩))
  go_ret
  exact ⟨rfl, whole_fine hb1 hb2 hb3 hb4⟩
set_option maxRecDepth 100000 in
set_option maxHeartbeats 1000000 in
theorem whole_1111 (f : FuncId) (a : Nat) (ef : ∀ args w, (callFunc f args).run Try.prog w = .ok (.enter f args) w) (N1 : Hid (PB 62 a false)) (I1 : Hid (PB 63 a false)) (Z1 : Hid (PB 64 a false)) (p : Bool) (m e : Int) (HSA : Hid (PSplit a p m e)) (he : -1074 ≤ e ∧ e < 0) (c1 c2 n h1 n2 h2 R : Int) (hc1 : -e = c1) (hc2 : c1 - 1 = c2) (odd : Bool) (HR1 : Hid (∀ w, Calls Try.prog 84 #[.int .u64 0, .int .u64 m, .int .i64 (c1)] w fun e w' => e = .returned (.tuple #[.int .u64 h1, .int .u64 n, .bool true]) ∧ Below w.heap.size w w')) (HR2 : Hid (∀ w, Calls Try.prog 84 #[.int .u64 0, .int .u64 m, .int .i64 (c2)] w fun e w' => e = .returned (.tuple #[.int .u64 h2, .int .u64 n2, .bool true]) ∧ Below w.heap.size w w')) (TW : bits .and .u64 n2 1 = 1) (OD : (bits .and .u64 n 1 == 1) = odd) (bn : 0 ≤ n ∧ n < 9007199254740992) (HUP : Hid (∀ w, Calls Try.prog f #[.bool p, .bool odd, .int .i64 (1), .int .i64 (1)] w fun e w' => e = .returned (.bool true) ∧ w = w')) (HPK : Hid (PPack p 0 (n + 1) 0 false R)) (w : World) : Calls Try.prog 90 #[.int .u64 a, .func (.func f) #[] #[]] w fun e w' => e = .returned (.int .u64 (R)) ∧ Below w.heap.size w w' := by
  go_enter Try.func90, Try.ntmps90
  go_wp2_with (first
    | (go_at_call 62; (with_reducible refine (N1.out _).mono ?_); rintro e1 w1 ⟨rfl, rfl⟩)
    | (go_at_call 63; (with_reducible refine (I1.out _).mono ?_); rintro e1 w1 ⟨rfl, rfl⟩)
    | (go_at_call 64; (with_reducible refine (Z1.out _).mono ?_); rintro e1 w1 ⟨rfl, rfl⟩)
    | (go_at_call 67; (with_reducible refine (HSA.out _).mono ?_); rintro e1 w1 ⟨rfl, hb1⟩)
    | (go_at_call 84; (with_reducible refine (HR1.out _).mono ?_); rintro e2 w2 ⟨rfl, hb2⟩; obtain ⟨k0, k1, k2⟩ := one_cells hb2)
    | (go_at_call 84; (with_reducible refine (HR2.out _).mono ?_); rintro e3 w3 ⟨rfl, hb3⟩; have j0 := cell_below hb3 k0; have j1 := cell_below hb3 k1; have j2 := cell_below hb3 k2; clear k0 k1 k2)
    | (go_at_fn f; (with_reducible refine (HUP.out _).mono ?_); rintro e5 w5 ⟨rfl, rfl⟩)
    | (go_at_call 69; (with_reducible refine (HPK.out _).mono ?_); rintro e4 w4 ⟨rfl, hb4⟩))
  go_ret
  exact ⟨rfl, whole_fine hb1 hb2 hb3 hb4⟩
def upF (p odd : Bool) (lost half : Int) : Bool := p && decide (0 < lost)
def upR (p odd : Bool) (lost half : Int) : Bool := decide (0 < half) || (decide (half = 0) && odd)
def upT (p odd : Bool) (lost half : Int) : Bool := false
def lostZ (m c : Nat) : Int := if m % 2 ^ c ≠ 0 then 1 else 0
def halfZ (m d : Nat) : Int := if m / 2 ^ d % 2 = 1 then (if m % 2 ^ d ≠ 0 then 1 else 0) else -1
def UpIs (how : Nat) (U : Bool → Bool → Int → Int → Bool) : Prop := ∀ (p : Bool) (m d : Nat), wq how p m (d + 1) = m / 2 ^ (d + 1) + (if U p (decide (m / 2 ^ (d + 1) % 2 = 1)) (lostZ m (d + 1)) (halfZ m d) = true then 1 else 0)
theorem up_floor : UpIs 1 upF := by
  intro p m d
  unfold wq upF lostZ
  rw [if_neg (by decide)]
  by_cases h : m % 2 ^ (d + 1) ≠ 0
  · rw [if_pos h]; cases p <;> simp [h]
  · rw [if_neg h]; cases p <;> simp at h ⊢ <;> simp [h]
theorem up_trunc : UpIs 0 upT := by
  intro p m d
  unfold wq upT
  rw [if_neg (by decide), if_neg (fun h => absurd h.1 (by decide)), if_neg Bool.false_ne_true]; rfl
theorem up_rnd : UpIs 2 upR := by
  intro p m d
  unfold wq upR halfZ
  rw [if_pos rfl, rne_half]
  by_cases h1 : m / 2 ^ d % 2 = 1
  · by_cases h2 : m % 2 ^ d = 0
    · by_cases h3 : m / 2 ^ (d + 1) % 2 = 1 <;> simp [h1, h2, h3]
    · simp [h1, h2]
  · simp [h1]
set_option maxHeartbeats 1000000 in
theorem whole_c (f : FuncId) (ef : ∀ args w, (callFunc f args).run Try.prog w = .ok (.enter f args) w) (how : Nat) (U : Bool → Bool → Int → Int → Bool) (hU : UpIs how U) (HU : ∀ (p odd : Bool) (lost half : Int) (w : World), Calls Try.prog f #[.bool p, .bool odd, .int .i64 lost, .int .i64 half] w fun e w' => e = .returned (.bool (U p odd lost half)) ∧ w = w') (a : Nat) (ha : W a) (w : World) :
    Calls Try.prog 90 #[.int .u64 a, .func (.func f) #[] #[]] w fun e w' => e = .returned (.int .u64 ((wholeV how a : Nat) : Int)) ∧ Below w.heap.size w w' := by
  have N1 := Lib.hid (isnan_c a ha)
  have I1 := Lib.hid (isinf_c a ha)
  have Z1 := Lib.hid (iszero_c a ha)
  by_cases n1 : nan a = true
  · rw [show wholeV how a = NaN by simp [wholeV, n1]]; rw [n1] at N1; exact whole_n1 f a N1 w
  have n1 := Bool.eq_false_iff.2 n1; rw [n1] at N1
  by_cases i1 : inf a = true
  · rw [show wholeV how a = a by simp [wholeV, n1, i1]]; rw [i1] at I1; exact whole_i1 f a N1 I1 w
  have i1 := Bool.eq_false_iff.2 i1; rw [i1] at I1
  by_cases z1 : zer a = true
  · rw [show wholeV how a = a by simp [wholeV, n1, i1, z1]]; rw [z1] at Z1; exact whole_z1 f a N1 I1 Z1 w
  have z1 := Bool.eq_false_iff.2 z1; rw [z1] at Z1
  have HSA := Lib.hid (split_c a ha)
  by_cases he : 0 ≤ se a
  · rw [show wholeV how a = a by simp [wholeV, n1, i1, z1, he]]; exact whole_e f a N1 I1 Z1 _ _ _ HSA he w
  have ba : -1074 ≤ se a ∧ se a < 0 := ⟨se_ge a, by omega⟩
  obtain ⟨d, hd⟩ : ∃ d : Nat, -se a = ((d + 1 : Nat) : Int) := ⟨(-se a - 1).toNat, by omega⟩
  have hd2 : (((d + 1 : Nat) : Int)) - 1 = (d : Int) := by omega
  have hv : wholeV how a = sg (ng a) (pat (wq how (ng a) (sm a) (d + 1)) 0 false) := by
    unfold wholeV
    rw [if_neg (by rw [n1]; decide), if_neg (by rw [i1, z1]; decide), if_neg he, hd, Int.toNat_natCast]
  rw [hv, hU]
  have lm := sm_lt a
  have WM : W (sm a) := W_of (by omega)
  have R1 := right_c 0 (sm a) (d + 1) (W_of (by decide)) WM
  have R2 := right_c 0 (sm a) d (W_of (by decide)) WM
  have q1 : sm a / 2 ^ (d + 1) ≤ sm a := Nat.div_le_self _ _
  have q2 : sm a / 2 ^ d ≤ sm a := Nat.div_le_self _ _
  have e1 : RightV 0 (sm a) (d + 1) = .tuple #[.int .u64 (rH 0 (sm a) (d + 1) : Int), .int .u64 ((sm a / 2 ^ (d + 1) : Nat) : Int), .bool (decide (sm a % 2 ^ (d + 1) ≠ 0))] := by
    unfold RightV rL rT
    rw [two_lo, Nat.mod_eq_of_lt (Nat.lt_of_le_of_lt q1 (by omega))]
  have e2 : RightV 0 (sm a) d = .tuple #[.int .u64 (rH 0 (sm a) d : Int), .int .u64 ((sm a / 2 ^ d : Nat) : Int), .bool (decide (sm a % 2 ^ d ≠ 0))] := by
    unfold RightV rL rT
    rw [two_lo, Nat.mod_eq_of_lt (Nat.lt_of_le_of_lt q2 (by omega))]
  rw [e1] at R1
  rw [e2] at R2
  have OD := half_bit (l := sm a / 2 ^ (d + 1)) (W_of (by omega))
  have TW := band_one (a := sm a / 2 ^ d) (W_of (by omega))
  have HUP := HU (ng a) (decide (sm a / 2 ^ (d + 1) % 2 = 1)) (lostZ (sm a) (d + 1)) (halfZ (sm a) d)
  obtain ⟨u, hu⟩ : ∃ u, U (ng a) (decide (sm a / 2 ^ (d + 1) % 2 = 1)) (lostZ (sm a) (d + 1)) (halfZ (sm a) d) = u := ⟨_, rfl⟩
  rw [hu] at HUP ⊢
  obtain ⟨t, ht⟩ : ∃ t, decide (sm a % 2 ^ (d + 1) ≠ 0) = t := ⟨_, rfl⟩
  obtain ⟨mo, hmo⟩ : ∃ mo, decide (sm a % 2 ^ d ≠ 0) = mo := ⟨_, rfl⟩
  obtain ⟨b, hb⟩ : ∃ b, sm a / 2 ^ d % 2 = b := ⟨_, rfl⟩
  have b01 : b = 0 ∨ b = 1 := by omega
  have hl : lostZ (sm a) (d + 1) = if t = true then 1 else 0 := by unfold lostZ; rw [← ht]; simp only [decide_eq_true_eq]
  have hh : halfZ (sm a) d = if b = 1 then (if mo = true then 1 else 0) else -1 := by unfold halfZ; rw [← hmo, hb]; simp only [decide_eq_true_eq]
  rw [hl, hh] at HUP
  rw [ht] at R1
  rw [hmo] at R2
  rw [hb] at TW
  have HK := fun x (hx : x ≤ sm a + 1) => pack_c (ng a) 0 x 0 false (W_of (by decide)) (W_of (by omega))
  have K0 := HK (sm a / 2 ^ (d + 1)) (by omega)
  have K1 := HK (sm a / 2 ^ (d + 1) + 1) (by omega)
  rw [two_lo] at K0 K1
  rw [show ((sm a / 2 ^ (d + 1) + 1 : Nat) : Int) = ((sm a / 2 ^ (d + 1) : Nat) : Int) + 1 from Int.natCast_add _ 1] at K1
  have K0 := Lib.hid K0
  have K1 := Lib.hid K1
  have HR1 := Lib.hid R1
  have HR2 := Lib.hid R2
  have HUP := Lib.hid HUP
  have bn : (0 : Int) ≤ ((sm a / 2 ^ (d + 1) : Nat) : Int) ∧ ((sm a / 2 ^ (d + 1) : Nat) : Int) < 9007199254740992 := ⟨Int.natCast_nonneg _, Int.ofNat_lt.2 (Nat.lt_of_le_of_lt q1 lm)⟩
  clear HK hl hh ht hmo hu hv e1 e2 R1 R2 q1 q2 hb
  cases u
  · cases t
    · rcases b01 with rfl | rfl
      · exact whole_0000 f a ef N1 I1 Z1 _ _ _ HSA ba _ _ _ _ _ _ _ hd hd2 _ mo HR1 HR2 TW OD bn HUP K0 w
      · cases mo
        · exact whole_0100 f a ef N1 I1 Z1 _ _ _ HSA ba _ _ _ _ _ _ _ hd hd2 _ HR1 HR2 TW OD bn HUP K0 w
        · exact whole_0110 f a ef N1 I1 Z1 _ _ _ HSA ba _ _ _ _ _ _ _ hd hd2 _ HR1 HR2 TW OD bn HUP K0 w
    · rcases b01 with rfl | rfl
      · exact whole_1000 f a ef N1 I1 Z1 _ _ _ HSA ba _ _ _ _ _ _ _ hd hd2 _ mo HR1 HR2 TW OD bn HUP K0 w
      · cases mo
        · exact whole_1100 f a ef N1 I1 Z1 _ _ _ HSA ba _ _ _ _ _ _ _ hd hd2 _ HR1 HR2 TW OD bn HUP K0 w
        · exact whole_1110 f a ef N1 I1 Z1 _ _ _ HSA ba _ _ _ _ _ _ _ hd hd2 _ HR1 HR2 TW OD bn HUP K0 w
  · cases t
    · rcases b01 with rfl | rfl
      · exact whole_0001 f a ef N1 I1 Z1 _ _ _ HSA ba _ _ _ _ _ _ _ hd hd2 _ mo HR1 HR2 TW OD bn HUP K1 w
      · cases mo
        · exact whole_0101 f a ef N1 I1 Z1 _ _ _ HSA ba _ _ _ _ _ _ _ hd hd2 _ HR1 HR2 TW OD bn HUP K1 w
        · exact whole_0111 f a ef N1 I1 Z1 _ _ _ HSA ba _ _ _ _ _ _ _ hd hd2 _ HR1 HR2 TW OD bn HUP K1 w
    · rcases b01 with rfl | rfl
      · exact whole_1001 f a ef N1 I1 Z1 _ _ _ HSA ba _ _ _ _ _ _ _ hd hd2 _ mo HR1 HR2 TW OD bn HUP K1 w
      · cases mo
        · exact whole_1101 f a ef N1 I1 Z1 _ _ _ HSA ba _ _ _ _ _ _ _ hd hd2 _ HR1 HR2 TW OD bn HUP K1 w
        · exact whole_1111 f a ef N1 I1 Z1 _ _ _ HSA ba _ _ _ _ _ _ _ hd hd2 _ HR1 HR2 TW OD bn HUP K1 w
theorem floor_up (p odd : Bool) (lost half : Int) (w : World) : Calls Try.prog 91 #[.bool p, .bool odd, .int .i64 lost, .int .i64 half] w fun e w' => e = .returned (.bool (upF p odd lost half)) ∧ w = w' := by
  by_cases h : 0 < lost
  · cases p <;> (go_enter Try.func91, Try.ntmps91; go_wp2; go_ret; exact ⟨by simp [upF, *], rfl⟩)
  · cases p <;> (go_enter Try.func91, Try.ntmps91; go_wp2; go_ret; exact ⟨by simp [upF, *], rfl⟩)
theorem floor_c (a : Nat) (ha : W a) (w : World) : Calls Try.prog 36 #[.int .u64 a] w fun e w' => e = .returned (.int .u64 ((wholeV 1 a : Nat) : Int)) ∧ Below w.heap.size w w' := by
  have HW := Lib.hid (whole_c 91 (enters_of Try.func91 (by kernel_rfl) rfl) 1 upF up_floor floor_up a ha)
  go_enter Try.func36, Try.ntmps36
  go_wp2_with (first
    | (go_at_call 90; (with_reducible refine (HW.out _).mono ?_); rintro e1 w1 ⟨rfl, hb1⟩))
  go_ret
  exact ⟨rfl, hb1⟩
theorem rnd_up (p odd : Bool) (lost half : Int) (w : World) : Calls Try.prog 93 #[.bool p, .bool odd, .int .i64 lost, .int .i64 half] w fun e w' => e = .returned (.bool (upR p odd lost half)) ∧ w = w' := by
  by_cases h : 0 < half
  · go_enter Try.func93, Try.ntmps93; go_wp2; go_ret; exact ⟨by simp [upR, *], rfl⟩
  · by_cases g : half = 0
    · cases odd <;> (go_enter Try.func93, Try.ntmps93; go_wp2; go_ret; exact ⟨by simp [upR, *], rfl⟩)
    · go_enter Try.func93, Try.ntmps93; go_wp2; go_ret; exact ⟨by simp [upR, *], rfl⟩
theorem rnd_c (a : Nat) (ha : W a) (w : World) : Calls Try.prog 38 #[.int .u64 a] w fun e w' => e = .returned (.int .u64 ((wholeV 2 a : Nat) : Int)) ∧ Below w.heap.size w w' := by
  have HW := Lib.hid (whole_c 93 (enters_of Try.func93 (by kernel_rfl) rfl) 2 upR up_rnd rnd_up a ha)
  go_enter Try.func38, Try.ntmps38
  go_wp2_with (first
    | (go_at_call 90; (with_reducible refine (HW.out _).mono ?_); rintro e1 w1 ⟨rfl, hb1⟩))
  go_ret
  exact ⟨rfl, hb1⟩
theorem trunc_up (p odd : Bool) (lost half : Int) (w : World) : Calls Try.prog 94 #[.bool p, .bool odd, .int .i64 lost, .int .i64 half] w fun e w' => e = .returned (.bool (upT p odd lost half)) ∧ w = w' := by
  go_enter Try.func94, Try.ntmps94; go_wp2; go_ret; exact ⟨by simp [upT, *], rfl⟩
theorem trunc_c (a : Nat) (ha : W a) (w : World) : Calls Try.prog 40 #[.int .u64 a] w fun e w' => e = .returned (.int .u64 ((wholeV 0 a : Nat) : Int)) ∧ Below w.heap.size w w' := by
  have HW := Lib.hid (whole_c 94 (enters_of Try.func94 (by kernel_rfl) rfl) 0 upT up_trunc trunc_up a ha)
  go_enter Try.func40, Try.ntmps40
  go_wp2_with (first
    | (go_at_call 90; (with_reducible refine (HW.out _).mono ?_); rintro e1 w1 ⟨rfl, hb1⟩))
  go_ret
  exact ⟨rfl, hb1⟩
end Go.Proofs.Ytecgkhijiogggaa
