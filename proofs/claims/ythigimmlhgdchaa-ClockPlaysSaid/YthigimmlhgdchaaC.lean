/- The heap's own functions over the clock's events. -/
import Derived.Test.YthigimmlhgdchaaB
namespace Go.Proofs.Ythigimmlhgdchaa
set_option linter.unusedVariables false
set_option linter.unusedSimpArgs false
open Go.RowKit

theorem info_method {P : Program} {t : TypeId} {name : String} {f : FuncId} {r : Bool} (h : (((P.info? t).bind fun i => i.methods.find? (·.name == name)).map fun m => (m.path.size, m.func)) = some (0, some (f, r))) :
    ∃ i m, P.info? t = some i ∧ i.methods.find? (·.name == name) = some m ∧ m.path = #[] ∧ m.func = some (f, r) := by
  cases hi : P.info? t with
  | none => rw [hi] at h; cases h
  | some i =>
    rw [hi] at h
    simp only [Option.bind_some] at h
    cases hm : i.methods.find? (·.name == name) with
    | none => rw [hm] at h; cases h
    | some m =>
      rw [hm] at h
      simp only [Option.map_some, Option.some.injEq, Prod.mk.injEq] at h
      exact ⟨i, m, rfl, hm, Array.eq_empty_of_size_eq_zero h.1, h.2⟩
/-- A method of the pointer itself. -/
theorem run_method_ptr {P : Program} {t e : TypeId} {name : String} {f : FuncId} (h : (((P.info? t).bind fun i => i.methods.find? (·.name == name)).map fun m => (m.path.size, m.func)) = some (0, some (f, true)))
    (ht : P.underlying t = some (.pointer e)) (k : Nat) (a : Addr) (w : World) : (method (k + 1) t (.pointer (some a)) name).run P w = .ok (f, .pointer (some a)) w := by
  obtain ⟨i, m, h1, h2, h3, h4⟩ := info_method h
  unfold method
  simp [typeInfo, h1, h2, h3, h4, follow, receiverAt, run_underlying ht, Place.get]
theorem run_asAddr_ {P : Program} (a : Addr) (w : World) : (asAddr (.pointer (some a))).run P w = .ok a w := rfl
theorem run_wrap {P : Program} (a : Addr) (s1 s2 : String) (T U : TypeId) (w : World) : (Builtin.ssaWrapNilChk_ #[T] U #[.pointer (some a), strVal s1, strVal s2]).run P w = .ok (.pointer (some a)) w := rfl
/-- A method of what is pointed to: one cell. -/
theorem run_method_val {P : Program} {t e : TypeId} {name : String} {f : FuncId} (h : (((P.info? t).bind fun i => i.methods.find? (·.name == name)).map fun m => (m.path.size, m.func)) = some (0, some (f, false)))
    (ht : P.underlying t = some (.pointer e)) (k : Nat) (a : Addr) (v : Value) (w : World) (hl : (loadVar e a).run P w = .ok v w) : (method (k + 1) t (.pointer (some a)) name).run P w = .ok (f, v) w := by
  obtain ⟨i, m, h1, h2, h3, h4⟩ := info_method h
  unfold method
  simp [typeInfo, h1, h2, h3, h4, follow, receiverAt, run_underlying ht, Place.get, run_wrap, run_asAddr_, hl]
theorem meth_len : (((Try.prog.info? 60).bind fun i => i.methods.find? (·.name == "Len")).map fun m => (m.path.size, m.func)) = some (0, some (52, false)) := by kernel_rfl
theorem meth_swap : (((Try.prog.info? 60).bind fun i => i.methods.find? (·.name == "Swap")).map fun m => (m.path.size, m.func)) = some (0, some (54, false)) := by kernel_rfl
theorem meth_less : (((Try.prog.info? 60).bind fun i => i.methods.find? (·.name == "Less")).map fun m => (m.path.size, m.func)) = some (0, some (53, false)) := by kernel_rfl
theorem meth_pop : (((Try.prog.info? 60).bind fun i => i.methods.find? (·.name == "Pop")).map fun m => (m.path.size, m.func)) = some (0, some (58, true)) := by kernel_rfl
theorem load_events (a : Addr) (v : Value) (w : World) (h : w.cell? a = some v) : (loadVar 52 a).run Try.prog w = .ok v w := by
  simp [loadVar, Try.isAgg52, h]
theorem run_len (a : Addr) (v : Value) (w : World) (h : w.cell? a = some v) : (method 191 60 (.pointer (some a)) "Len").run Try.prog w = .ok (52, v) w :=
  run_method_val meth_len Try.underlying60 190 a v w (load_events a v w h)
theorem run_swap (a : Addr) (v : Value) (w : World) (h : w.cell? a = some v) : (method 191 60 (.pointer (some a)) "Swap").run Try.prog w = .ok (54, v) w :=
  run_method_val meth_swap Try.underlying60 190 a v w (load_events a v w h)
theorem run_less (a : Addr) (v : Value) (w : World) (h : w.cell? a = some v) : (method 191 60 (.pointer (some a)) "Less").run Try.prog w = .ok (53, v) w :=
  run_method_val meth_less Try.underlying60 190 a v w (load_events a v w h)
theorem run_pop (a : Addr) (w : World) : (method 191 60 (.pointer (some a)) "Pop").run Try.prog w = .ok (58, .pointer (some a)) w :=
  run_method_ptr meth_pop Try.underlying60 190 a w
theorem len_c (a : Option Addr) (n c : Nat) (w : World) : Calls Try.prog 52 #[.slice a n c] w fun e w' => e = .returned (.int .i64 n) ∧ w = w' := by
  go_enter Try.func52, Try.ntmps52
  go_wp2
  go_ret
  exact ⟨rfl, rfl⟩
theorem init_c (b : Nat) (a : Option Addr) (n c : Nat) (w : World) (c2 : w.cell? ⟨b, 2, none⟩ = some (.slice a n c)) (hn : n = 0 ∨ n = 1) :
    Calls Try.prog 20 #[.iface 60 (.pointer (some ⟨b, 2, none⟩))] w fun e w' => e = .returned (.tuple #[]) ∧ w = w' := by
  have M := run_len _ _ _ c2
  have L := Lib.hid (len_c a n c w)
  rcases hn with rfl | rfl
  all_goals
    go_enter Try.func20, Try.ntmps20
    go_wp2_with (go_at_call 52; (with_reducible refine (L.out).mono ?_); rintro e w' ⟨rfl, rfl⟩)
    go_loop [3] (fun v3 => v3 = .int .i64 (-1)) (fun _ => 0)
    case atStart => rfl
    case round =>
      subst hrel
      go_wp2
      go_end0
      exact ⟨rfl, rfl⟩
end Go.Proofs.Ythigimmlhgdchaa
