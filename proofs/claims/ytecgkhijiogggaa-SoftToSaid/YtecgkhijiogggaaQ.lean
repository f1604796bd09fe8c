/- Narrow. -/
import Derived.Test.YtecgkhijiogggaaO
namespace Go.Proofs.Ytecgkhijiogggaa
set_option linter.unusedVariables false
set_option linter.unusedSimpArgs false
open Go.RowKit Go.Shelf SF
theorem cell_alloc {w : World} {a : Addr} {v : Value} (h : w.cell? a = some v) (o : Obj) : (w.alloc o).cell? a = some v := cell_below ((Below.refl _ _).alloc (Nat.le_refl _) o) h
theorem narrow_fine {w w1 w2 w3 : World} {o1 o2 : Obj} (h1 : Below w.heap.size w w1) (h2 : Below (w1.alloc o1).heap.size (w1.alloc o1) w2) (h3 : Below (w2.alloc o2).heap.size (w2.alloc o2) w3) : Below w.heap.size w w3 := by
  have a := bt (h1.alloc h1.size o1) h2
  exact bt (a.alloc a.size o2) h3
set_option maxHeartbeats 1000000 in
theorem narrow_n0 (a : Nat) (HS : (a : Int) / 9223372036854775808 = 0) (N1 : Hid (PB 62 a true)) (w : World) : Calls Try.prog 44 #[.int .u64 a] w fun e w' => e = .returned (.int .u32 (2143289344)) ∧ Below w.heap.size w w' := by
  go_enter Try.func44, Try.ntmps44
  go_wp2_with (first
    | (go_at_call 62; (with_reducible refine (N1.out _).mono ?_); rintro e1 w1 ⟨rfl, rfl⟩))
  go_ret
  exact ⟨rfl, Below.refl _ _⟩
set_option maxHeartbeats 1000000 in
theorem narrow_n1 (a : Nat) (HS : (a : Int) / 9223372036854775808 = 1) (N1 : Hid (PB 62 a true)) (w : World) : Calls Try.prog 44 #[.int .u64 a] w fun e w' => e = .returned (.int .u32 (2143289344)) ∧ Below w.heap.size w w' := by
  go_enter Try.func44, Try.ntmps44
  go_wp2_with (first
    | (go_at_call 62; (with_reducible refine (N1.out _).mono ?_); rintro e1 w1 ⟨rfl, rfl⟩))
  go_ret
  exact ⟨rfl, Below.refl _ _⟩
set_option maxHeartbeats 1000000 in
theorem narrow_i0 (a : Nat) (HS : (a : Int) / 9223372036854775808 = 0) (N1 : Hid (PB 62 a false)) (I1 : Hid (PB 63 a true)) (r : Int) (OR : bits .or .u32 0 2139095040 = r) (w : World) : Calls Try.prog 44 #[.int .u64 a] w fun e w' => e = .returned (.int .u32 (r)) ∧ Below w.heap.size w w' := by
  go_enter Try.func44, Try.ntmps44
  go_wp2_with (first
    | (go_at_call 62; (with_reducible refine (N1.out _).mono ?_); rintro e1 w1 ⟨rfl, rfl⟩)
    | (go_at_call 63; (with_reducible refine (I1.out _).mono ?_); rintro e1 w1 ⟨rfl, rfl⟩))
  go_ret
  exact ⟨rfl, Below.refl _ _⟩
set_option maxHeartbeats 1000000 in
theorem narrow_i1 (a : Nat) (HS : (a : Int) / 9223372036854775808 = 1) (N1 : Hid (PB 62 a false)) (I1 : Hid (PB 63 a true)) (r : Int) (OR : bits .or .u32 2147483648 2139095040 = r) (w : World) : Calls Try.prog 44 #[.int .u64 a] w fun e w' => e = .returned (.int .u32 (r)) ∧ Below w.heap.size w w' := by
  go_enter Try.func44, Try.ntmps44
  go_wp2_with (first
    | (go_at_call 62; (with_reducible refine (N1.out _).mono ?_); rintro e1 w1 ⟨rfl, rfl⟩)
    | (go_at_call 63; (with_reducible refine (I1.out _).mono ?_); rintro e1 w1 ⟨rfl, rfl⟩))
  go_ret
  exact ⟨rfl, Below.refl _ _⟩
set_option maxHeartbeats 1000000 in
theorem narrow_z0 (a : Nat) (HS : (a : Int) / 9223372036854775808 = 0) (N1 : Hid (PB 62 a false)) (I1 : Hid (PB 63 a false)) (Z1 : Hid (PB 64 a true)) (w : World) : Calls Try.prog 44 #[.int .u64 a] w fun e w' => e = .returned (.int .u32 (0)) ∧ Below w.heap.size w w' := by
  go_enter Try.func44, Try.ntmps44
  go_wp2_with (first
    | (go_at_call 62; (with_reducible refine (N1.out _).mono ?_); rintro e1 w1 ⟨rfl, rfl⟩)
    | (go_at_call 63; (with_reducible refine (I1.out _).mono ?_); rintro e1 w1 ⟨rfl, rfl⟩)
    | (go_at_call 64; (with_reducible refine (Z1.out _).mono ?_); rintro e1 w1 ⟨rfl, rfl⟩))
  go_ret
  exact ⟨rfl, Below.refl _ _⟩
set_option maxHeartbeats 1000000 in
theorem narrow_z1 (a : Nat) (HS : (a : Int) / 9223372036854775808 = 1) (N1 : Hid (PB 62 a false)) (I1 : Hid (PB 63 a false)) (Z1 : Hid (PB 64 a true)) (w : World) : Calls Try.prog 44 #[.int .u64 a] w fun e w' => e = .returned (.int .u32 (2147483648)) ∧ Below w.heap.size w w' := by
  go_enter Try.func44, Try.ntmps44
  go_wp2_with (first
    | (go_at_call 62; (with_reducible refine (N1.out _).mono ?_); rintro e1 w1 ⟨rfl, rfl⟩)
    | (go_at_call 63; (with_reducible refine (I1.out _).mono ?_); rintro e1 w1 ⟨rfl, rfl⟩)
    | (go_at_call 64; (with_reducible refine (Z1.out _).mono ?_); rintro e1 w1 ⟨rfl, rfl⟩))
  go_ret
  exact ⟨rfl, Below.refl _ _⟩
set_option maxHeartbeats 1000000 in
theorem narrow_over0 (a : Nat) (HS : (a : Int) / 9223372036854775808 = 0) (N1 : Hid (PB 62 a false)) (I1 : Hid (PB 63 a false)) (Z1 : Hid (PB 64 a false)) (m e n q : Int) (HSI : Hid (∀ w, Calls Try.prog 96 #[] w fun e w' => e = .returned (.agg #[.int .i64 24, .int .i64 (-149), .int .i64 104]) ∧ Below w.heap.size w w')) (HSA : Hid (PSplit a false m e)) (HR : Hid (∀ w, Calls Try.prog 97 #[.agg #[.int .i64 24, .int .i64 (-149), .int .i64 104], .int .u64 0, .int .u64 m, .int .i64 e, .bool false] w fun e w' => e = .returned (.tuple #[.int .u64 n, .int .i64 q]) ∧ Below w.heap.size w w')) (bn : 0 ≤ n ∧ n < 4294967296) (bq : -149 ≤ q ∧ q ≤ 100000) (ho : 104 < q) (r : Int) (OR : bits .or .u32 0 2139095040 = r) (w : World) : Calls Try.prog 44 #[.int .u64 a] w fun e w' => e = .returned (.int .u32 (r)) ∧ Below w.heap.size w w' := by
  go_enter Try.func44, Try.ntmps44
  go_wp2_with (first
    | (go_at_call 62; (with_reducible refine (N1.out _).mono ?_); rintro e1 w1 ⟨rfl, rfl⟩)
    | (go_at_call 63; (with_reducible refine (I1.out _).mono ?_); rintro e1 w1 ⟨rfl, rfl⟩)
    | (go_at_call 64; (with_reducible refine (Z1.out _).mono ?_); rintro e1 w1 ⟨rfl, rfl⟩)
    | (go_at_call 96; (with_reducible refine (HSI.out _).mono ?_); rintro e1 w1 ⟨rfl, hb1⟩)
    | (go_at_call 67; (with_reducible refine (HSA.out _).mono ?_); rintro e2 w2 ⟨rfl, hb2⟩; obtain ⟨k0, k1, k2⟩ := one_cells hb2; have m0 := cell_alloc k0 (.cells #[.bool false, .int .u64 m, .int .i64 e] 49); have m1 := cell_alloc k1 (.cells #[.bool false, .int .u64 m, .int .i64 e] 49); have m2 := cell_alloc k2 (.cells #[.bool false, .int .u64 m, .int .i64 e] 49); clear k0 k1 k2)
    | (go_at_call 97; (with_reducible refine (HR.out _).mono ?_); rintro e3 w3 ⟨rfl, hb3⟩; have j0 := cell_below hb3 m0; have j1 := cell_below hb3 m1; have j2 := cell_below hb3 m2))
  go_ret
  exact ⟨rfl, narrow_fine hb1 hb2 hb3⟩
set_option maxHeartbeats 1000000 in
theorem narrow_over1 (a : Nat) (HS : (a : Int) / 9223372036854775808 = 1) (N1 : Hid (PB 62 a false)) (I1 : Hid (PB 63 a false)) (Z1 : Hid (PB 64 a false)) (m e n q : Int) (HSI : Hid (∀ w, Calls Try.prog 96 #[] w fun e w' => e = .returned (.agg #[.int .i64 24, .int .i64 (-149), .int .i64 104]) ∧ Below w.heap.size w w')) (HSA : Hid (PSplit a true m e)) (HR : Hid (∀ w, Calls Try.prog 97 #[.agg #[.int .i64 24, .int .i64 (-149), .int .i64 104], .int .u64 0, .int .u64 m, .int .i64 e, .bool false] w fun e w' => e = .returned (.tuple #[.int .u64 n, .int .i64 q]) ∧ Below w.heap.size w w')) (bn : 0 ≤ n ∧ n < 4294967296) (bq : -149 ≤ q ∧ q ≤ 100000) (ho : 104 < q) (r : Int) (OR : bits .or .u32 2147483648 2139095040 = r) (w : World) : Calls Try.prog 44 #[.int .u64 a] w fun e w' => e = .returned (.int .u32 (r)) ∧ Below w.heap.size w w' := by
  go_enter Try.func44, Try.ntmps44
  go_wp2_with (first
    | (go_at_call 62; (with_reducible refine (N1.out _).mono ?_); rintro e1 w1 ⟨rfl, rfl⟩)
    | (go_at_call 63; (with_reducible refine (I1.out _).mono ?_); rintro e1 w1 ⟨rfl, rfl⟩)
    | (go_at_call 64; (with_reducible refine (Z1.out _).mono ?_); rintro e1 w1 ⟨rfl, rfl⟩)
    | (go_at_call 96; (with_reducible refine (HSI.out _).mono ?_); rintro e1 w1 ⟨rfl, hb1⟩)
    | (go_at_call 67; (with_reducible refine (HSA.out _).mono ?_); rintro e2 w2 ⟨rfl, hb2⟩; obtain ⟨k0, k1, k2⟩ := one_cells hb2; have m0 := cell_alloc k0 (.cells #[.bool true, .int .u64 m, .int .i64 e] 49); have m1 := cell_alloc k1 (.cells #[.bool true, .int .u64 m, .int .i64 e] 49); have m2 := cell_alloc k2 (.cells #[.bool true, .int .u64 m, .int .i64 e] 49); clear k0 k1 k2)
    | (go_at_call 97; (with_reducible refine (HR.out _).mono ?_); rintro e3 w3 ⟨rfl, hb3⟩; have j0 := cell_below hb3 m0; have j1 := cell_below hb3 m1; have j2 := cell_below hb3 m2))
  go_ret
  exact ⟨rfl, narrow_fine hb1 hb2 hb3⟩
set_option maxHeartbeats 1000000 in
theorem narrow_sub0 (a : Nat) (HS : (a : Int) / 9223372036854775808 = 0) (N1 : Hid (PB 62 a false)) (I1 : Hid (PB 63 a false)) (Z1 : Hid (PB 64 a false)) (m e n q : Int) (HSI : Hid (∀ w, Calls Try.prog 96 #[] w fun e w' => e = .returned (.agg #[.int .i64 24, .int .i64 (-149), .int .i64 104]) ∧ Below w.heap.size w w')) (HSA : Hid (PSplit a false m e)) (HR : Hid (∀ w, Calls Try.prog 97 #[.agg #[.int .i64 24, .int .i64 (-149), .int .i64 104], .int .u64 0, .int .u64 m, .int .i64 e, .bool false] w fun e w' => e = .returned (.tuple #[.int .u64 n, .int .i64 q]) ∧ Below w.heap.size w w')) (bn : 0 ≤ n ∧ n < 4294967296) (bq : -149 ≤ q ∧ q ≤ 100000) (ho : ¬ 104 < q) (hn : n < 8388608) (r : Int) (OR : bits .or .u32 0 n = r) (w : World) : Calls Try.prog 44 #[.int .u64 a] w fun e w' => e = .returned (.int .u32 (r)) ∧ Below w.heap.size w w' := by
  go_enter Try.func44, Try.ntmps44
  go_wp2_with (first
    | (go_at_call 62; (with_reducible refine (N1.out _).mono ?_); rintro e1 w1 ⟨rfl, rfl⟩)
    | (go_at_call 63; (with_reducible refine (I1.out _).mono ?_); rintro e1 w1 ⟨rfl, rfl⟩)
    | (go_at_call 64; (with_reducible refine (Z1.out _).mono ?_); rintro e1 w1 ⟨rfl, rfl⟩)
    | (go_at_call 96; (with_reducible refine (HSI.out _).mono ?_); rintro e1 w1 ⟨rfl, hb1⟩)
    | (go_at_call 67; (with_reducible refine (HSA.out _).mono ?_); rintro e2 w2 ⟨rfl, hb2⟩; obtain ⟨k0, k1, k2⟩ := one_cells hb2; have m0 := cell_alloc k0 (.cells #[.bool false, .int .u64 m, .int .i64 e] 49); have m1 := cell_alloc k1 (.cells #[.bool false, .int .u64 m, .int .i64 e] 49); have m2 := cell_alloc k2 (.cells #[.bool false, .int .u64 m, .int .i64 e] 49); clear k0 k1 k2)
    | (go_at_call 97; (with_reducible refine (HR.out _).mono ?_); rintro e3 w3 ⟨rfl, hb3⟩; have j0 := cell_below hb3 m0; have j1 := cell_below hb3 m1; have j2 := cell_below hb3 m2))
  go_ret
  exact ⟨rfl, narrow_fine hb1 hb2 hb3⟩
set_option maxHeartbeats 1000000 in
theorem narrow_sub1 (a : Nat) (HS : (a : Int) / 9223372036854775808 = 1) (N1 : Hid (PB 62 a false)) (I1 : Hid (PB 63 a false)) (Z1 : Hid (PB 64 a false)) (m e n q : Int) (HSI : Hid (∀ w, Calls Try.prog 96 #[] w fun e w' => e = .returned (.agg #[.int .i64 24, .int .i64 (-149), .int .i64 104]) ∧ Below w.heap.size w w')) (HSA : Hid (PSplit a true m e)) (HR : Hid (∀ w, Calls Try.prog 97 #[.agg #[.int .i64 24, .int .i64 (-149), .int .i64 104], .int .u64 0, .int .u64 m, .int .i64 e, .bool false] w fun e w' => e = .returned (.tuple #[.int .u64 n, .int .i64 q]) ∧ Below w.heap.size w w')) (bn : 0 ≤ n ∧ n < 4294967296) (bq : -149 ≤ q ∧ q ≤ 100000) (ho : ¬ 104 < q) (hn : n < 8388608) (r : Int) (OR : bits .or .u32 2147483648 n = r) (w : World) : Calls Try.prog 44 #[.int .u64 a] w fun e w' => e = .returned (.int .u32 (r)) ∧ Below w.heap.size w w' := by
  go_enter Try.func44, Try.ntmps44
  go_wp2_with (first
    | (go_at_call 62; (with_reducible refine (N1.out _).mono ?_); rintro e1 w1 ⟨rfl, rfl⟩)
    | (go_at_call 63; (with_reducible refine (I1.out _).mono ?_); rintro e1 w1 ⟨rfl, rfl⟩)
    | (go_at_call 64; (with_reducible refine (Z1.out _).mono ?_); rintro e1 w1 ⟨rfl, rfl⟩)
    | (go_at_call 96; (with_reducible refine (HSI.out _).mono ?_); rintro e1 w1 ⟨rfl, hb1⟩)
    | (go_at_call 67; (with_reducible refine (HSA.out _).mono ?_); rintro e2 w2 ⟨rfl, hb2⟩; obtain ⟨k0, k1, k2⟩ := one_cells hb2; have m0 := cell_alloc k0 (.cells #[.bool true, .int .u64 m, .int .i64 e] 49); have m1 := cell_alloc k1 (.cells #[.bool true, .int .u64 m, .int .i64 e] 49); have m2 := cell_alloc k2 (.cells #[.bool true, .int .u64 m, .int .i64 e] 49); clear k0 k1 k2)
    | (go_at_call 97; (with_reducible refine (HR.out _).mono ?_); rintro e3 w3 ⟨rfl, hb3⟩; have j0 := cell_below hb3 m0; have j1 := cell_below hb3 m1; have j2 := cell_below hb3 m2))
  go_ret
  exact ⟨rfl, narrow_fine hb1 hb2 hb3⟩
set_option maxHeartbeats 1000000 in
theorem narrow_norm0 (a : Nat) (HS : (a : Int) / 9223372036854775808 = 0) (N1 : Hid (PB 62 a false)) (I1 : Hid (PB 63 a false)) (Z1 : Hid (PB 64 a false)) (m e n q : Int) (HSI : Hid (∀ w, Calls Try.prog 96 #[] w fun e w' => e = .returned (.agg #[.int .i64 24, .int .i64 (-149), .int .i64 104]) ∧ Below w.heap.size w w')) (HSA : Hid (PSplit a false m e)) (HR : Hid (∀ w, Calls Try.prog 97 #[.agg #[.int .i64 24, .int .i64 (-149), .int .i64 104], .int .u64 0, .int .u64 m, .int .i64 e, .bool false] w fun e w' => e = .returned (.tuple #[.int .u64 n, .int .i64 q]) ∧ Below w.heap.size w w')) (bn : 0 ≤ n ∧ n < 4294967296) (bq : -149 ≤ q ∧ q ≤ 100000) (ho : ¬ 104 < q) (hn : ¬ n < 8388608) (s r : Int) (OR1 : bits .or .u32 0 ((q + 149 + 1) * 8388608) = s) (OR : bits .or .u32 s (bits .and .u32 n 8388607) = r) (w : World) : Calls Try.prog 44 #[.int .u64 a] w fun e w' => e = .returned (.int .u32 (r)) ∧ Below w.heap.size w w' := by
  go_enter Try.func44, Try.ntmps44
  go_wp2_with (first
    | (go_at_call 62; (with_reducible refine (N1.out _).mono ?_); rintro e1 w1 ⟨rfl, rfl⟩)
    | (go_at_call 63; (with_reducible refine (I1.out _).mono ?_); rintro e1 w1 ⟨rfl, rfl⟩)
    | (go_at_call 64; (with_reducible refine (Z1.out _).mono ?_); rintro e1 w1 ⟨rfl, rfl⟩)
    | (go_at_call 96; (with_reducible refine (HSI.out _).mono ?_); rintro e1 w1 ⟨rfl, hb1⟩)
    | (go_at_call 67; (with_reducible refine (HSA.out _).mono ?_); rintro e2 w2 ⟨rfl, hb2⟩; obtain ⟨k0, k1, k2⟩ := one_cells hb2; have m0 := cell_alloc k0 (.cells #[.bool false, .int .u64 m, .int .i64 e] 49); have m1 := cell_alloc k1 (.cells #[.bool false, .int .u64 m, .int .i64 e] 49); have m2 := cell_alloc k2 (.cells #[.bool false, .int .u64 m, .int .i64 e] 49); clear k0 k1 k2)
    | (go_at_call 97; (with_reducible refine (HR.out _).mono ?_); rintro e3 w3 ⟨rfl, hb3⟩; have j0 := cell_below hb3 m0; have j1 := cell_below hb3 m1; have j2 := cell_below hb3 m2))
  go_ret
  exact ⟨rfl, narrow_fine hb1 hb2 hb3⟩
set_option maxHeartbeats 1000000 in
theorem narrow_norm1 (a : Nat) (HS : (a : Int) / 9223372036854775808 = 1) (N1 : Hid (PB 62 a false)) (I1 : Hid (PB 63 a false)) (Z1 : Hid (PB 64 a false)) (m e n q : Int) (HSI : Hid (∀ w, Calls Try.prog 96 #[] w fun e w' => e = .returned (.agg #[.int .i64 24, .int .i64 (-149), .int .i64 104]) ∧ Below w.heap.size w w')) (HSA : Hid (PSplit a true m e)) (HR : Hid (∀ w, Calls Try.prog 97 #[.agg #[.int .i64 24, .int .i64 (-149), .int .i64 104], .int .u64 0, .int .u64 m, .int .i64 e, .bool false] w fun e w' => e = .returned (.tuple #[.int .u64 n, .int .i64 q]) ∧ Below w.heap.size w w')) (bn : 0 ≤ n ∧ n < 4294967296) (bq : -149 ≤ q ∧ q ≤ 100000) (ho : ¬ 104 < q) (hn : ¬ n < 8388608) (s r : Int) (OR1 : bits .or .u32 2147483648 ((q + 149 + 1) * 8388608) = s) (OR : bits .or .u32 s (bits .and .u32 n 8388607) = r) (w : World) : Calls Try.prog 44 #[.int .u64 a] w fun e w' => e = .returned (.int .u32 (r)) ∧ Below w.heap.size w w' := by
  go_enter Try.func44, Try.ntmps44
  go_wp2_with (first
    | (go_at_call 62; (with_reducible refine (N1.out _).mono ?_); rintro e1 w1 ⟨rfl, rfl⟩)
    | (go_at_call 63; (with_reducible refine (I1.out _).mono ?_); rintro e1 w1 ⟨rfl, rfl⟩)
    | (go_at_call 64; (with_reducible refine (Z1.out _).mono ?_); rintro e1 w1 ⟨rfl, rfl⟩)
    | (go_at_call 96; (with_reducible refine (HSI.out _).mono ?_); rintro e1 w1 ⟨rfl, hb1⟩)
    | (go_at_call 67; (with_reducible refine (HSA.out _).mono ?_); rintro e2 w2 ⟨rfl, hb2⟩; obtain ⟨k0, k1, k2⟩ := one_cells hb2; have m0 := cell_alloc k0 (.cells #[.bool true, .int .u64 m, .int .i64 e] 49); have m1 := cell_alloc k1 (.cells #[.bool true, .int .u64 m, .int .i64 e] 49); have m2 := cell_alloc k2 (.cells #[.bool true, .int .u64 m, .int .i64 e] 49); clear k0 k1 k2)
    | (go_at_call 97; (with_reducible refine (HR.out _).mono ?_); rintro e3 w3 ⟨rfl, hb3⟩; have j0 := cell_below hb3 m0; have j1 := cell_below hb3 m1; have j2 := cell_below hb3 m2))
  go_ret
  exact ⟨rfl, narrow_fine hb1 hb2 hb3⟩
theorem single_c (w : World) : Calls Try.prog 96 #[] w fun e w' => e = .returned (.agg #[.int .i64 24, .int .i64 (-149), .int .i64 104]) ∧ Below w.heap.size w w' := by
  go_enter Try.func96, Try.ntmps96
  go_wp2
  exact bodyPost_ret (v := .agg #[.int .i64 24, .int .i64 (-149), .int .i64 104]) (by simp [results, Try.results96, go_sem]) rfl ⟨rfl, (Below.refl _ _).alloc (Nat.le_refl _) _⟩
theorem bor32 {a b s : Nat} (ha : a % 2 ^ s = 0) (hb : b < 2 ^ s) (h1 : a < 4294967296) (h2 : b < 4294967296) : bits .or .u32 (a : Int) (b : Int) = ((a + b : Nat) : Int) := by
  rw [u32_or_nat a b h1 h2, nat_join s a b ha hb]
theorem or_sg (p : Bool) {P : Nat} (h : P < 2147483648) : bits .or .u32 (if p = true then 2147483648 else 0) (P : Int) = ((sg32 p P : Nat) : Int) := by
  have h2 : P < 4294967296 := by omega
  cases p
  · have := bor32 (a := 0) (b := P) (s := 31) (by decide) h (by decide) h2
    rw [Nat.zero_add] at this
    exact this
  · have := bor32 (a := 2147483648) (b := P) (s := 31) (by decide) h (by decide) h2
    rw [Nat.add_comm] at this
    exact this
theorem sg32_split (p : Bool) (P : Nat) : sg32 p P = (if p = true then 2147483648 else 0) + P := by cases p <;> simp [sg32, Nat.add_comm]
theorem or_norm (p : Bool) {q : Int} {n P : Nat} (h1 : -149 ≤ q) (h2 : q ≤ 104) (n1 : ¬ n < 8388608) (n2 : n ≤ 16777215) (hP : P = (q - -149 + 1).toNat * 8388608 + (n - 8388608)) : ∃ s : Nat, bits .or .u32 (if p = true then 2147483648 else 0) ((q + 149 + 1) * 8388608) = (s : Int) ∧ bits .or .u32 (s : Int) (bits .and .u32 (n : Int) 8388607) = ((sg32 p P : Nat) : Int) := by
  obtain ⟨Y, hY⟩ : ∃ Y : Nat, q + 149 + 1 = (Y : Int) := ⟨(q + 149 + 1).toNat, by omega⟩
  rw [show q - -149 + 1 = (Y : Int) by omega, Int.toNat_natCast] at hP
  have hY1 : Y ≤ 254 := by omega
  refine ⟨sg32 p (Y * 8388608), ?_, ?_⟩
  · rw [hY, show ((Y : Int) * 8388608) = ((Y * 8388608 : Nat) : Int) by omega]
    exact or_sg p (by omega)
  · rw [show (8388607 : Int) = ((8388607 : Nat) : Int) from rfl, u32_and_nat n 8388607 (by omega) (by decide), mask23]
    have e23 : (2 : Nat) ^ 23 = 8388608 := by decide
    rw [bor32 (s := 23) (by rw [e23, sg32_split]; split <;> omega) (by rw [e23]; exact Nat.mod_lt _ (by decide)) (by rw [sg32_split]; split <;> omega) (by omega)]
    have en : n % 8388608 = n - 8388608 := by omega
    rw [sg32_split, sg32_split, hP, en, Nat.add_assoc]
set_option maxHeartbeats 1000000 in
theorem narrow_c (a : Nat) (ha : W a) (w : World) : Calls Try.prog 44 #[.int .u64 a] w fun e w' => e = .returned (.int .u32 ((narrowV a : Nat) : Int)) ∧ Below w.heap.size w w' := by
  have N1 := Lib.hid (isnan_c a ha)
  have I1 := Lib.hid (isinf_c a ha)
  have Z1 := Lib.hid (iszero_c a ha)
  have HS : (a : Int) / 9223372036854775808 = if ng a = true then 1 else 0 := by unfold ng; unfold W at ha; simp only [decide_eq_true_eq]; split <;> omega
  have HSA := split_c a ha
  unfold num at HSA
  obtain ⟨p, hp⟩ : ∃ p, ng a = p := ⟨_, rfl⟩
  rw [hp] at HS HSA
  have HSA := Lib.hid HSA
  by_cases n1 : nan a = true
  · rw [show narrowV a = 2143289344 by simp [narrowV, n1]]; rw [n1] at N1
    cases p
    · exact narrow_n0 a HS N1 w
    · exact narrow_n1 a HS N1 w
  have n1 := Bool.eq_false_iff.2 n1; rw [n1] at N1
  by_cases i1 : inf a = true
  · rw [show narrowV a = sg32 p 2139095040 by simp [narrowV, n1, i1, hp]]; rw [i1] at I1
    have := or_sg p (P := 2139095040) (by decide)
    cases p
    · exact narrow_i0 a HS N1 I1 _ this w
    · exact narrow_i1 a HS N1 I1 _ this w
  have i1 := Bool.eq_false_iff.2 i1; rw [i1] at I1
  rw [show narrowV a = sg32 p (patG 24 (-149) 104 (sm a) (se a) false) by unfold narrowV; rw [if_neg (by rw [n1]; decide), if_neg (by rw [i1]; decide), hp]]
  by_cases z1 : zer a = true
  · rw [sm_zero.2 z1, patG_zero]; rw [z1] at Z1
    cases p
    · exact narrow_z0 a HS N1 I1 Z1 w
    · exact narrow_z1 a HS N1 I1 Z1 w
  have z1 := Bool.eq_false_iff.2 z1; rw [z1] at Z1
  have n0 : sm a ≠ 0 := fun c => by rw [sm_zero.1 c] at z1; cases z1
  have be : -1074 ≤ se a ∧ se a ≤ 971 := ⟨se_ge a, se_le n1 i1⟩
  have R := fun w => round_c 24 (-149) 104 0 (sm a) (se a) false (W_of (by decide)) (W_of (by have := sm_lt a; omega)) (by omega) (.inr rfl) (by decide) w
  unfold RoundV fmt at R
  rw [two_lo] at R
  have ov := patG_over (p := 24) (low := -149) (high := 104) (m := sm a) (e := se a) (rest := false) (by decide) n0 (by decide)
  have un := patG_under (p := 24) (low := -149) (high := 104) (m := sm a) (e := se a) (rest := false) (by decide) n0 (by decide)
  have e24 : (2 : Nat) ^ 24 = 16777216 := by decide
  have e23 : (2 : Nat) ^ (24 - 1) = 8388608 := by decide
  have vl : rv 24 (-149) (sm a) (se a) false ≤ 16777215 := by
    have := vz_le 24 (-149) (sm a) (se a) false
    unfold rv
    by_cases g : vz 24 (-149) (sm a) (se a) false = 2 ^ 24
    · rw [if_pos g]; decide
    · rw [if_neg g]; omega
  have xl : -149 ≤ rx 24 (-149) (sm a) (se a) false := by
    have := qz_ge 24 (-149) (bl (sm a)) (se a)
    unfold rx; split <;> omega
  have xu : rx 24 (-149) (sm a) (se a) false ≤ 2000 := by
    have hb : bl (sm a) ≤ 53 := bl_le_of_lt (k := 53) (sm_lt a)
    unfold rx qz; split <;> omega
  rw [e23] at un
  obtain ⟨V, hV⟩ : ∃ v, rv 24 (-149) (sm a) (se a) false = v := ⟨_, rfl⟩
  obtain ⟨X, hX⟩ : ∃ v, rx 24 (-149) (sm a) (se a) false = v := ⟨_, rfl⟩
  obtain ⟨P, hP⟩ : ∃ v, patG 24 (-149) 104 (sm a) (se a) false = v := ⟨_, rfl⟩
  rw [hV, hX] at R
  rw [hV] at un vl
  rw [hX] at ov un xl xu
  rw [hP] at ov un ⊢
  have R := Lib.hid R
  have S1 := Lib.hid single_c
  by_cases ho : 104 < X
  · have e : P = 2139095040 := ov ho
    have := or_sg p (P := 2139095040) (by decide)
    rw [e]
    cases p
    · exact narrow_over0 a HS N1 I1 Z1 _ _ _ _ S1 HSA R (by omega) (by omega) ho _ this w
    · exact narrow_over1 a HS N1 I1 Z1 _ _ _ _ S1 HSA R (by omega) (by omega) ho _ this w
  have hp := un (by omega)
  by_cases hn : V < 8388608
  · rw [if_pos hn] at hp
    have := or_sg p (P := V) (by omega)
    rw [hp]
    cases p
    · exact narrow_sub0 a HS N1 I1 Z1 _ _ _ _ S1 HSA R (by omega) (by omega) ho (by omega) _ this w
    · exact narrow_sub1 a HS N1 I1 Z1 _ _ _ _ S1 HSA R (by omega) (by omega) ho (by omega) _ this w
  · rw [if_neg hn] at hp
    obtain ⟨s, o1, o2⟩ := or_norm p xl (by omega) hn vl hp
    cases p
    · exact narrow_norm0 a HS N1 I1 Z1 _ _ _ _ S1 HSA R (by omega) (by omega) ho (by omega) _ _ o1 o2 w
    · exact narrow_norm1 a HS N1 I1 Z1 _ _ _ _ S1 HSA R (by omega) (by omega) ho (by omega) _ _ o1 o2 w
end Go.Proofs.Ytecgkhijiogggaa
