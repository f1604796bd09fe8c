/- The laws of no events: Dates, Nothing, Calendar. -/
import Derived.Test.YthigimmlhgdchaaJ
namespace Go.Proofs.Ythigimmlhgdchaa
set_option linter.unusedVariables false
set_option linter.unusedSimpArgs false
open Go.RowKit

theorem ldates_walk (s n : Int) (w : World) : Calls Try.prog 5 #[.int .i64 s, .int .i64 n] w fun e w' => e = .returned (.bool true) ∧ Below w.heap.size w w' := by
  have AW := Lib.hid (fun w => awake_c w)
  by_cases hs : 0 ≤ s ∧ s ≤ 8589934592
  · have NC := Lib.hid (fun w => new_c s w hs.1 hs.2)
    have RC := Lib.hid (fun w => rnew_c s w hs.1 hs.2)
    obtain ⟨s0, s1⟩ := hs
    by_cases hn : 0 ≤ n ∧ n ≤ 1099511627776
    · obtain ⟨n0, n1⟩ := hn
      go_enter Try.func5, Try.ntmps5
      go_wp2_with (first
        | (go_at_call 9; (with_reducible refine (NC.out _).mono ?_); rintro e w1 ⟨rfl, hc, hb1, hz1⟩)
        | (go_at_call 13; (with_reducible refine (RC.out _).mono ?_); rintro e w2 ⟨rfl, hr, hb2, hz2⟩)
        | (go_at_call 14; (with_reducible refine (wait_c _ s 0 n _ w2 (hc.below hb2) (by decide) (by decide) n0 n1 (by omega)).mono ?_); rintro e w3 ⟨rfl, kc, kf⟩)
        | (go_at_call 15; (with_reducible refine (rwait_c _ s 0 n _ w3 (hr.fb kf (by omega)) (by decide) (by decide) n0 n1 (by omega)).mono ?_); rintro e w4 ⟨rfl, kr, rf⟩)
        | (go_at_call 16; (with_reducible refine (rd_date (kc.fb rf (by omega)) kr s0 s1 (by omega) (by omega)).mono ?_); rintro e w5 ⟨rfl, hb5⟩)
        | (go_at_call 8; (with_reducible refine (AW.out _).mono ?_); rintro e w6 ⟨rfl, hb6⟩))
      go_ret
      have b1 : Below w.heap.size w w2 := below_then hb1 hb1.size hb2
      have b2 : Below w.heap.size w w3 := below_fb b1 kf (by omega)
      have b3 : Below w.heap.size w w4 := below_fb b2 rf (by omega)
      have b4 : Below w.heap.size w w5 := below_then b3 b3.size hb5
      exact ⟨rfl, below_then b4 b4.size hb6⟩
    · have hx : n < 0 ∨ 1099511627776 < n ∨ (0 ≤ n ∧ n ≤ 1099511627776 ∧ 2199023255552 < 0 + n) := by omega
      have hx := Lib.hid hx
      clear hn
      go_enter Try.func5, Try.ntmps5
      go_wp2_with (first
        | (go_at_call 9; (with_reducible refine (NC.out _).mono ?_); rintro e w1 ⟨rfl, hc, hb1, hz1⟩)
        | (go_at_call 13; (with_reducible refine (RC.out _).mono ?_); rintro e w2 ⟨rfl, hr, hb2, hz2⟩)
        | (go_at_call 14; (with_reducible refine (wait_bad _ s 0 n _ w2 (hc.below hb2) (by decide) (by decide) hx.out).mono ?_); rintro e w' ⟨rfl, rfl⟩)
        | (go_at_call 15; (with_reducible refine (rwait_bad _ s 0 n _ w2 hr (by decide) (by decide) hx.out).mono ?_); rintro e w' ⟨rfl, rfl⟩)
        | (go_at_call 16; (with_reducible refine (rd_date (hc.below hb2) hr s0 s1 (by decide) (by decide)).mono ?_); rintro e w5 ⟨rfl, hb5⟩)
        | (go_at_call 8; (with_reducible refine (AW.out _).mono ?_); rintro e w6 ⟨rfl, hb6⟩))
      go_ret
      have b1 : Below w.heap.size w w2 := below_then hb1 hb1.size hb2
      have b4 : Below w.heap.size w w5 := below_then b1 b1.size hb5
      exact ⟨rfl, below_then b4 b4.size hb6⟩
  · have hb : s < 0 ∨ 8589934592 < s := by omega
    have NC := Lib.hid (fun w => new_bad s w hb)
    have RC := Lib.hid (fun w => rnew_bad s w hb)
    clear hs hb
    go_enter Try.func5, Try.ntmps5
    go_wp2_with (first
      | (go_at_call 9; (with_reducible refine (NC.out _).mono ?_); rintro e w' ⟨rfl, rfl⟩)
      | (go_at_call 13; (with_reducible refine (RC.out _).mono ?_); rintro e w' ⟨rfl, rfl⟩)
      | (go_at_call 8; (with_reducible refine (AW.out _).mono ?_); rintro e w6 ⟨rfl, hb6⟩))
    go_ret
    exact ⟨rfl, hb6⟩
theorem lnothing_walk (n : Int) (c : Bool) (w : World) : Calls Try.prog 7 #[.int .i64 n, .bool c] w fun e w' => e = .returned (.bool true) ∧ Below w.heap.size w w' := by
  have AW := Lib.hid (fun w => awake_c w)
  have hC : Clk 54 (w.alloc (.cells #[.int .i64 0, .int .i64 0, .slice none 0 0] 54 (0, 0))) w.heap.size 0 0 (.slice none 0 0) := heap_alloc_new w _
  have HC := Lib.hid hC
  clear hC
  go_enter Try.func7, Try.ntmps7
  go_wp2_with (first
    | (go_at_call 10; (with_reducible refine (next_nil _ _).mono ?_); rintro e w' ⟨rfl, rfl⟩)
    | (go_at_call 10; (with_reducible refine (next_none _ _ _ _ _ HC.out).mono ?_); rintro e w' ⟨rfl, rfl⟩)
    | (go_at_call 12; (with_reducible refine (date_nil _).mono ?_); rintro e w' ⟨rfl, rfl⟩)
    | (go_at_call 14; (with_reducible refine (wait_nil _ _).mono ?_); rintro e w' ⟨rfl, rfl⟩)
    | (go_at_call 11; (with_reducible refine (now_nil _).mono ?_); rintro e w' ⟨rfl, rfl⟩)
    | (go_at_call 18; (with_reducible refine (ready_nil _ _).mono ?_); rintro e w' ⟨rfl, rfl⟩)
    | (go_at_call 18; (with_reducible refine (ready_none _ _ _ _ _ HC.out).mono ?_); rintro e w5 ⟨rfl, hb5⟩)
    | (go_at_call 8; (with_reducible refine (AW.out _).mono ?_); rintro e w6 ⟨rfl, hb6⟩))
  go_ret
  have b1 : Below w.heap.size w (w.alloc (.cells #[.int .i64 0, .int .i64 0, .slice none 0 0] 54 (0, 0))) := (Below.refl _ _).alloc (Nat.le_refl _) _
  have b4 : Below w.heap.size w w5 := below_then b1 b1.size hb5
  exact ⟨rfl, below_then b4 b4.size hb6⟩
end Go.Proofs.Ythigimmlhgdchaa
