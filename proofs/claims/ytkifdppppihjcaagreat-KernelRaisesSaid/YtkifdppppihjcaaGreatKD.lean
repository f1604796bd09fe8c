/- The kernel's functions, the angles: a walk for each way through them. -/
import Derived.Test.YtkifdppppihjcaaGreatKB
namespace Go.Proofs.YtkifdppppihjcaaGreat
set_option linter.unusedVariables false
set_option linter.unusedSimpArgs false
open Go.RowKit Go.Shelf Go.ChangeShapes Go.WideShapes SF

set_option maxRecDepth 100000 in
set_option maxHeartbeats 1000000 in
theorem ln1_s {i p v o z m q : Int} (ad : Addr) (hv : IntKind.i64.wrap (IntKind.i64.wrap (2 * i) + 1) = v) (H0 : Hid (All 86 #[.int .i64 v] (.int .u64 o))) (H1 : Hid (All 60 #[.int .u64 z, .int .u64 p] (.int .u64 m))) (H2 : Hid (All 75 #[.int .u64 o, .int .u64 m] (.int .u64 q))) : AllC [(ad, .int .u64 z)] 87 #[.int .i64 i, .int .u64 p, .pointer (some ad)] (.int .u64 q) := by
  intro w hw
  have hc0 : w.cell? ad = some (.int .u64 z) := hw (ad, .int .u64 z) (by simp)
  clear hw
  go_enter Tryz.func87, Tryz.ntmps87
  go_wp2
  go_region_held3 (fun w' => w'.cell? ad = some (.int .u64 z) ∧ Below w.heap.size w w')
    (first
      | exact ⟨hc0, (Below.refl _ _).drew⟩
      | (go_split_ands; exact ⟨by assumption, by assumption⟩)
      | (go_split_ands; exact ⟨cell_below hb5 (by assumption), kbt (by assumption) hb5⟩))
    (first
      | (go_at_call 86; (with_reducible refine (H0.out _).mono ?_); rintro e1 w5 ⟨rfl, hb5⟩)
      | (go_at_call 60; (with_reducible refine (H1.out _).mono ?_); rintro e1 w5 ⟨rfl, hb5⟩)
      | (go_at_call 75; (with_reducible refine (H2.out _).mono ?_); rintro e1 w5 ⟨rfl, hb5⟩))
  go_wp2
  go_split_ands
  go_ret
  exact ⟨rfl, by assumption⟩
