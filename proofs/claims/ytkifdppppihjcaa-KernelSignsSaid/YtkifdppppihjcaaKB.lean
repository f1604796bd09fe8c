/- Texts KB, for this seat. -/
import Derived.Test.YtkifdppppihjcaaKW
import Derived.BigQuiet
import Derived.Deep.QuietTactic
import Derived.Deep.RegionHeld3
namespace Go.Proofs.Ytkifdppppihjcaa
set_option linter.unusedVariables false
set_option linter.unusedSimpArgs false
open Go.RowKit Go.Shelf Go.ChangeShapes Go.WideShapes SF

theorem sum1_c (F : FuncId) (ef : ∀ args w, (callFunc F args).run Try.prog w = .ok (.enter F args) w) (cs : List (Addr × Value)) (cap : Value) (P : Int → Int) (a b : Int) (h1 : -1000 ≤ b) (h2 : b ≤ a + 1) (h3 : a ≤ 1000)
    (HS : Hid (∀ k, b ≤ k → k ≤ a → AllC cs F #[.int .i64 k, .int .u64 (P k), cap] (.int .u64 (P (k - 1))))) (p0 : Int) (hp : P a = p0) (r : Int) (hr : P (b - 1) = r) :
    AllC cs 21 #[.int .u64 p0, .int .i64 a, .int .i64 b, .func (.func F) #[] #[cap]] (.int .u64 r) := by
  intro w hw
  have hk := kp_from w cs hw
  clear hw
  go_enter Try.func21, Try.ntmps21
  go_wp2
  go_loopw [0, 9] (fun v0 v9 wr => ∃ k : Int, b - 1 ≤ k ∧ k ≤ a ∧ v0 = .int .u64 (P k) ∧ v9 = .int .i64 k ∧ Kp w cs wr) (fun _ v9 _ => (intOf v9 - b + 1).toNat)
  case atStart => exact ⟨a, by omega, by omega, by rw [hp], rfl, hk⟩
  case round =>
    obtain ⟨k, k1, k2, rfl, rfl, hkw⟩ := hrel
    by_cases hb : b ≤ k
    · have H := Lib.hid (HS.out k hb k2)
      have kb : (decide (b ≤ k)) = true := decide_eq_true hb
      go_wp2_with (first
        | (go_at_fn F; (with_reducible refine (in_ofc H.out (by assumption)).mono ?_); rintro e1 w1 ⟨rfl, hk⟩))
      go_roundw
      case rel => exact ⟨k - 1, by omega, by omega, rfl, by go_num, by assumption⟩
      case measure => simp only [intOf]; omega
    · have e : k = b - 1 := by omega
      subst e
      rw [hr]
      go_wp2
      go_ret
      exact ⟨rfl, hkw.1⟩
theorem kp_var {w0 w : World} (t : TypeId) (v : Value) (h : Kp w0 [] w) : Kp w0 [(⟨w.heap.size, 0, none⟩, v)] (w.alloc (.cells #[v] t)) := by
  refine ⟨h.1.alloc h.1.size _, fun c hc => ?_⟩
  rw [List.mem_singleton] at hc
  subst hc
  simp [go_sem]
