/- BytesFinds: the short cases. -/
import Derived.Test.YtocmgdolinajmaaF
namespace Go.Proofs.Ytocmgdolinajmaa
set_option linter.unusedVariables false
set_option linter.unusedSimpArgs false
open Go.RowKit

set_option maxRecDepth 100000 in
set_option maxHeartbeats 4000000 in
theorem lfinds_none (aa : Option Addr) (ca : Nat) (vb : Value) (lb : List Int) (w : World) (hb : Rd w .u8 vb lb) (hlb : lb.length ≤ 400) (h0 : 0 < lb.length)
    (SE : Hid (Calls Try.prog 18 #[.slice aa 0 ca, vb] w fun e w' => e = .returned (.tuple #[.int .i64 0, .bool false]) ∧ Below w.heap.size w w')) :
    Calls Try.prog 7 #[.slice aa 0 ca, vb] w fun e w' => e = .returned (.bool true) ∧ Below w.heap.size w w' := by
  have AW := Lib.hid awake_c
  obtain ⟨ab, cb, rfl⟩ := hb.len
  obtain ⟨M, hM⟩ : ∃ M, lb.length = M := ⟨_, rfl⟩
  rw [hM] at hlb h0 SE ⊢
  clear hb hM
  go_enter Try.func7, Try.ntmps7
  go_wp2_with (go_at_call 18; (with_reducible refine (SE.out).mono ?_); rintro e w1 ⟨rfl, hb1⟩)
  go_loopw [7] (fun v7 wr => v7 = .int .i64 0 ∧ Below w.heap.size w wr) (fun v7 _ => 0)
  case atStart => exact ⟨rfl, hb1⟩
  case round =>
    obtain ⟨rfl, hbw⟩ := hrel
    go_wp2_with (go_at_call 8; (with_reducible refine (AW.out _).mono ?_); rintro e w5 ⟨rfl, hb5⟩; have hc5 := below_then hbw hbw.size hb5; clear hb5)
    go_ret
    exact ⟨rfl, hc5⟩
set_option maxRecDepth 100000 in
set_option maxHeartbeats 4000000 in
theorem lfinds_all (aa : Option Addr) (L ca : Nat) (ab : Option Addr) (cb : Nat) (w : World) (hL : L ≤ 400) (hca : L ≤ ca) (hn : aa = none → L = 0 ∧ ca = 0)
    (SE : Hid (Calls Try.prog 18 #[.slice aa L ca, .slice ab 0 cb] w fun e w' => e = .returned (.tuple #[.int .i64 0, .bool true]) ∧ Below w.heap.size w w')) :
    Calls Try.prog 7 #[.slice aa L ca, .slice ab 0 cb] w fun e w' => e = .returned (.bool true) ∧ Below w.heap.size w w' := by
  have AW := Lib.hid awake_c
  have SM := Lib.hid (fun a' c' w1 => same_yes (.slice a' 0 c') (.slice ab 0 cb) [] w1 (Rd.empty rfl rfl) (Rd.empty rfl rfl) (fun x hx => by cases hx))
  cases aa with
  | none =>
    obtain ⟨rfl, rfl⟩ := hn rfl
    clear hn hca hL
    go_enter Try.func7, Try.ntmps7
    go_wp2_with (go_at_call 18; (with_reducible refine (SE.out).mono ?_); rintro e w1 ⟨rfl, hb1⟩)
    go_loopw [7] (fun v7 wr => v7 = .int .i64 0 ∧ Below w.heap.size w wr) (fun v7 _ => 0)
    case atStart => exact ⟨rfl, hb1⟩
    case round =>
      obtain ⟨rfl, hbw⟩ := hrel
      go_wp2_with (first
        | (go_at_call 12; (with_reducible refine (SM.out _ _ _).mono ?_); rintro e w' ⟨rfl, rfl⟩)
        | (go_at_call 8; (with_reducible refine (AW.out _).mono ?_); rintro e w5 ⟨rfl, hb5⟩; have hc5 := below_then hbw hbw.size hb5; clear hb5))
      go_ret
      exact ⟨rfl, hc5⟩
  | some ad =>
    clear hn
    go_enter Try.func7, Try.ntmps7
    go_wp2_with (go_at_call 18; (with_reducible refine (SE.out).mono ?_); rintro e w1 ⟨rfl, hb1⟩)
    go_loopw [7] (fun v7 wr => v7 = .int .i64 0 ∧ Below w.heap.size w wr) (fun v7 _ => 0)
    case atStart => exact ⟨rfl, hb1⟩
    case round =>
      obtain ⟨rfl, hbw⟩ := hrel
      by_cases hz : ca = 0
      · obtain rfl : L = 0 := by omega
        subst hz
        go_wp2_with (first
          | (go_at_call 12; (with_reducible refine (SM.out _ _ _).mono ?_); rintro e w' ⟨rfl, rfl⟩)
          | (go_at_call 8; (with_reducible refine (AW.out _).mono ?_); rintro e w5 ⟨rfl, hb5⟩; have hc5 := below_then hbw hbw.size hb5; clear hb5))
        go_ret
        exact ⟨rfl, hc5⟩
      · have hz2 : 0 < ca := by omega
        go_wp2_with (first
          | (go_at_call 12; (with_reducible refine (SM.out _ _ _).mono ?_); rintro e w' ⟨rfl, rfl⟩)
          | (go_at_call 8; (with_reducible refine (AW.out _).mono ?_); rintro e w5 ⟨rfl, hb5⟩; have hc5 := below_then hbw hbw.size hb5; clear hb5))
        go_ret
        exact ⟨rfl, hc5⟩
theorem lfinds_long (La Lb : Nat) (aa ab : Option Addr) (ca cb : Nat) (w : World) (h : 400 < La ∨ (La ≤ 400 ∧ 400 < Lb)) :
    Calls Try.prog 7 #[.slice aa La ca, .slice ab Lb cb] w fun e w' => e = .returned (.bool true) ∧ Below w.heap.size w w' := by
  have AW := Lib.hid awake_c
  rcases h with h | ⟨h, h'⟩
  all_goals
    go_enter Try.func7, Try.ntmps7
    go_wp2_with (go_at_call 8; (with_reducible refine (AW.out _).mono ?_); rintro e w5 ⟨rfl, hb5⟩)
    go_ret
    exact ⟨rfl, hb5⟩
end Go.Proofs.Ytocmgdolinajmaa
