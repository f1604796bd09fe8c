/- Clocks in memory; New, Wait, Now, Ready and Next where there is no event. -/
import Derived.Test.YthigimmlhgdchaaC
import Derived.BigQuiet
namespace Go.Proofs.Ythigimmlhgdchaa
set_option linter.unusedVariables false
set_option linter.unusedSimpArgs false
open Go.RowKit

/-- A clock: its beginning, the time, its events. -/
def Clk (T : TypeId) (w : World) (b : Nat) (s n : Int) (v : Value) : Prop := w.heap[b]? = some (.cells #[.int .i64 s, .int .i64 n, v] T (0, 0))
/-- Of what was there, one block alone may have turned. -/
structure Fb (b : Nat) (w w' : World) : Prop where
  os : w'.os = w.os
  tape : w'.tape = w.tape
  output : w'.output = w.output
  size : w.heap.size ≤ w'.heap.size
  block : ∀ k, k < w.heap.size → k ≠ b → w'.heap[k]? = w.heap[k]?
section
variable {T : TypeId} {w w' : World} {b : Nat} {s n : Int} {v : Value}
theorem Clk.lt (h : Clk T w b s n v) : b < w.heap.size := by
  rcases Nat.lt_or_ge b w.heap.size with hlt | hge
  · exact hlt
  · unfold Clk at h; rw [Array.getElem?_eq_none hge] at h; cases h
theorem Clk.c0 (h : Clk T w b s n v) : w.cell? ⟨b, 0, none⟩ = some (.int .i64 s) := by
  rw [cell_of_row w b _ _ T (0, 0) h]; rfl
theorem Clk.c1 (h : Clk T w b s n v) : w.cell? ⟨b, 1, none⟩ = some (.int .i64 n) := by
  rw [cell_of_row w b _ _ T (0, 0) h]; rfl
theorem Clk.c2 (h : Clk T w b s n v) : w.cell? ⟨b, 2, none⟩ = some v := by
  rw [cell_of_row w b _ _ T (0, 0) h]; rfl
theorem Clk.fz (h : Clk T w b s n v) (i : Nat) : w.frozen? ⟨b, i, none⟩ = false := by
  unfold Clk at h; simp [World.frozen?, h]
theorem Clk.same (h : Clk T w b s n v) (hb : w'.heap[b]? = w.heap[b]?) : Clk T w' b s n v := hb.trans h
theorem Clk.below (h : Clk T w b s n v) (hw : Below w.heap.size w w') : Clk T w' b s n v := h.same (hw.block b h.lt)
theorem Clk.fb {c : Nat} (h : Clk T w b s n v) (hw : Fb c w w') (hc : b ≠ c) : Clk T w' b s n v := h.same (hw.block b h.lt hc)
theorem Clk.set1 (h : Clk T w b s n v) (x : Int) : Clk T (w.setCell ⟨b, 1, none⟩ (.int .i64 x)) b s x v := by
  unfold Clk at h ⊢
  simp [World.setCell, Array.getElem?_modify, h]
theorem Clk.set2 (h : Clk T w b s n v) (x : Value) : Clk T (w.setCell ⟨b, 2, none⟩ x) b s n x := by
  unfold Clk at h ⊢
  simp [World.setCell, Array.getElem?_modify, h]
theorem Fb.below {B : Nat} (h : Fb b w w') (hb : B ≤ b) (hB : B ≤ w.heap.size) : Below B w w' := ⟨h.os, h.tape, h.output, h.size, fun k hk => h.block k (by omega) (by omega)⟩
theorem Fb.of_below (h : Below w.heap.size w w') : Fb b w w' := ⟨h.os, h.tape, h.output, h.size, fun k hk _ => h.block k hk⟩
theorem Fb.trans {w1 w2 : World} (h : Fb b w w1) (g : Fb b w1 w2) : Fb b w w2 := ⟨g.os.trans h.os, g.tape.trans h.tape, g.output.trans h.output, Nat.le_trans h.size g.size, fun k hk hn => (g.block k (Nat.lt_of_lt_of_le hk h.size) hn).trans (h.block k hk hn)⟩
theorem Fb.set (i : Nat) (x : Value) : Fb b w (w.setCell ⟨b, i, none⟩ x) := ⟨rfl, rfl, rfl, by simp [World.setCell], fun k hk hn => Below.heap_setCell _ _ _ _ hn⟩
end
theorem new_c (s : Int) (w : World) (s0 : 0 ≤ s) (s1 : s ≤ 8589934592) : Calls Try.prog 9 #[.int .i64 s, .slice none 0 0] w fun e w' =>
    e = .returned (.tuple #[.pointer (some ⟨w.heap.size, 0, none⟩), .int .i64 0]) ∧ Clk 54 w' w.heap.size s 0 (.slice none 0 0) ∧ Below w.heap.size w w' ∧ w.heap.size < w'.heap.size := by
  have hC : Clk 54 (w.alloc (.cells #[.int .i64 s, .int .i64 0, .slice none 0 0] 54 (0, 0))) w.heap.size s 0 (.slice none 0 0) := heap_alloc_new w _
  have IN := Lib.hid (init_c w.heap.size none 0 0 _ hC.c2 (.inl rfl))
  have c2 := hC.c2
  go_enter Try.func9, Try.ntmps9
  go_wp2_with fail
  go_loop [23] (fun v23 => v23 = .int .i64 0) (fun _ => 0)
  case atStart => rfl
  case round =>
    subst hrel
    go_wp2_with (go_at_call 20; (with_reducible refine (IN.out).mono ?_); rintro e w' ⟨rfl, rfl⟩)
    go_ret2
    exact ⟨rfl, hC, (Below.refl _ _).alloc (Nat.le_refl _) _, by simp⟩
theorem new_bad (s : Int) (w : World) (h : s < 0 ∨ 8589934592 < s) : Calls Try.prog 9 #[.int .i64 s, .slice none 0 0] w fun e w' =>
    e = .returned (.tuple #[.pointer none, .int .i64 1]) ∧ w = w' := by
  rcases h with h | h
  · go_enter Try.func9, Try.ntmps9
    go_wp2_with fail
    go_ret2
    exact ⟨rfl, rfl⟩
  · have h0 : ¬ s < 0 := by omega
    go_enter Try.func9, Try.ntmps9
    go_wp2_with fail
    go_ret2
    exact ⟨rfl, rfl⟩
theorem rnew_c (s : Int) (w : World) (s0 : 0 ≤ s) (s1 : s ≤ 8589934592) : Calls Try.prog 13 #[.int .i64 s, .slice none 0 0] w fun e w' =>
    e = .returned (.tuple #[.pointer (some ⟨w.heap.size, 0, none⟩), .int .i64 0]) ∧ Clk 49 w' w.heap.size s 0 (.slice none 0 0) ∧ Below w.heap.size w w' ∧ w.heap.size < w'.heap.size := by
  have hC : Clk 49 (w.alloc (.cells #[.int .i64 s, .int .i64 0, .slice none 0 0] 49 (0, 0))) w.heap.size s 0 (.slice none 0 0) := heap_alloc_new w _
  go_enter Try.func13, Try.ntmps13
  go_wp2_with fail
  go_loop [7] (fun v7 => v7 = .int .i64 0) (fun _ => 0)
  case atStart => rfl
  case round =>
    subst hrel
    go_wp2_with fail
    go_ret2
    exact ⟨rfl, hC, (Below.refl _ _).alloc (Nat.le_refl _) _, by simp⟩
theorem rnew_bad (s : Int) (w : World) (h : s < 0 ∨ 8589934592 < s) : Calls Try.prog 13 #[.int .i64 s, .slice none 0 0] w fun e w' =>
    e = .returned (.tuple #[.pointer none, .int .i64 1]) ∧ w = w' := by
  rcases h with h | h
  · go_enter Try.func13, Try.ntmps13
    go_wp2_with fail
    go_ret2
    exact ⟨rfl, rfl⟩
  · have h0 : ¬ s < 0 := by omega
    go_enter Try.func13, Try.ntmps13
    go_wp2_with fail
    go_ret2
    exact ⟨rfl, rfl⟩
theorem wait_c (b : Nat) (s n x : Int) (v : Value) (w : World) (h : Clk 54 w b s n v) (n0 : 0 ≤ n) (n1 : n ≤ 2199023255552) (x0 : 0 ≤ x) (x1 : x ≤ 1099511627776) (x2 : n + x ≤ 2199023255552) :
    Calls Try.prog 14 #[.pointer (some ⟨b, 0, none⟩), .int .i64 x] w fun e w' => e = .returned (.int .i64 0) ∧ Clk 54 w' b s (n + x) v ∧ Fb b w w' := by
  have c1 := h.c1
  have f1 := h.fz 1
  have i1 : IntKind.i64.wrap (2199023255552 - n) = 2199023255552 - n := by simp only [IntKind.wrap_i64]; omega
  have i2 : IntKind.i64.wrap (n + x) = n + x := by simp only [IntKind.wrap_i64]; omega
  have hx : ¬ 2199023255552 - n < x := by omega
  go_enter Try.func14, Try.ntmps14
  go_wp2_with fail
  go_ret
  exact ⟨rfl, h.set1 _, Fb.set _ _⟩
theorem wait_bad (b : Nat) (s n x : Int) (v : Value) (w : World) (h : Clk 54 w b s n v) (n0 : 0 ≤ n) (n1 : n ≤ 2199023255552) (hx : x < 0 ∨ 1099511627776 < x ∨ (0 ≤ x ∧ x ≤ 1099511627776 ∧ 2199023255552 < n + x)) :
    Calls Try.prog 14 #[.pointer (some ⟨b, 0, none⟩), .int .i64 x] w fun e w' => e = .returned (.int .i64 1) ∧ w = w' := by
  have c1 := h.c1
  have f1 := h.fz 1
  have i1 : IntKind.i64.wrap (2199023255552 - n) = 2199023255552 - n := by simp only [IntKind.wrap_i64]; omega
  rcases hx with hx | hx | ⟨x0, x1, hx⟩
  · go_enter Try.func14, Try.ntmps14
    go_wp2_with fail
    go_ret
    exact ⟨rfl, rfl⟩
  · have h0 : ¬ x < 0 := by omega
    go_enter Try.func14, Try.ntmps14
    go_wp2_with fail
    go_ret
    exact ⟨rfl, rfl⟩
  · have h2 : 2199023255552 - n < x := by omega
    go_enter Try.func14, Try.ntmps14
    go_wp2_with fail
    go_ret
    exact ⟨rfl, rfl⟩
theorem rwait_c (b : Nat) (s n x : Int) (v : Value) (w : World) (h : Clk 49 w b s n v) (n0 : 0 ≤ n) (n1 : n ≤ 2199023255552) (x0 : 0 ≤ x) (x1 : x ≤ 1099511627776) (x2 : n + x ≤ 2199023255552) :
    Calls Try.prog 15 #[.pointer (some ⟨b, 0, none⟩), .int .i64 x] w fun e w' => e = .returned (.int .i64 0) ∧ Clk 49 w' b s (n + x) v ∧ Fb b w w' := by
  have c1 := h.c1
  have f1 := h.fz 1
  have i2 : IntKind.i64.wrap (n + x) = n + x := by simp only [IntKind.wrap_i64]; omega
  have hx : ¬ 2199023255552 < n + x := by omega
  go_enter Try.func15, Try.ntmps15
  go_wp2_with fail
  go_ret
  exact ⟨rfl, h.set1 _, Fb.set _ _⟩
theorem rwait_bad (b : Nat) (s n x : Int) (v : Value) (w : World) (h : Clk 49 w b s n v) (n0 : 0 ≤ n) (n1 : n ≤ 2199023255552) (hx : x < 0 ∨ 1099511627776 < x ∨ (0 ≤ x ∧ x ≤ 1099511627776 ∧ 2199023255552 < n + x)) :
    Calls Try.prog 15 #[.pointer (some ⟨b, 0, none⟩), .int .i64 x] w fun e w' => e = .returned (.int .i64 1) ∧ w = w' := by
  have c1 := h.c1
  have f1 := h.fz 1
  rcases hx with hx | hx | ⟨x0, x1, hx⟩
  · go_enter Try.func15, Try.ntmps15
    go_wp2_with fail
    go_ret
    exact ⟨rfl, rfl⟩
  · have h0 : ¬ x < 0 := by omega
    go_enter Try.func15, Try.ntmps15
    go_wp2_with fail
    go_ret
    exact ⟨rfl, rfl⟩
  · have i2 : IntKind.i64.wrap (n + x) = n + x := by simp only [IntKind.wrap_i64]; omega
    go_enter Try.func15, Try.ntmps15
    go_wp2_with fail
    go_ret
    exact ⟨rfl, rfl⟩
theorem wait_nil (x : Int) (w : World) : Calls Try.prog 14 #[.pointer none, .int .i64 x] w fun e w' => e = .returned (.int .i64 1) ∧ w = w' := by
  go_enter Try.func14, Try.ntmps14
  go_wp2_with fail
  go_ret
  exact ⟨rfl, rfl⟩
theorem now_nil (w : World) : Calls Try.prog 11 #[.pointer none] w fun e w' => e = .returned (.int .i64 0) ∧ w = w' := by
  go_enter Try.func11, Try.ntmps11
  go_wp2_with fail
  go_ret
  exact ⟨rfl, rfl⟩
theorem now_c (b : Nat) (s n : Int) (v : Value) (w : World) (h : Clk 54 w b s n v) : Calls Try.prog 11 #[.pointer (some ⟨b, 0, none⟩)] w fun e w' => e = .returned (.int .i64 n) ∧ w = w' := by
  have c1 := h.c1
  go_enter Try.func11, Try.ntmps11
  go_wp2_with fail
  go_ret
  exact ⟨rfl, rfl⟩
theorem date_nil (w : World) : Calls Try.prog 12 #[.pointer none] w fun e w' => e = .returned (.tuple #[.int .i64 0, .int .i64 0, .int .i64 0, .int .i64 0, .int .i64 0, .int .i64 0]) ∧ w = w' := by
  go_enter Try.func12, Try.ntmps12
  go_wp2_with fail
  exact bodyPost_ret (v := .tuple #[.int .i64 0, .int .i64 0, .int .i64 0, .int .i64 0, .int .i64 0, .int .i64 0]) (by simp [results, Try.results12, go_sem]) rfl ⟨rfl, rfl⟩
theorem ready_nil (c : Bool) (w : World) : Calls Try.prog 18 #[.pointer none, .bool c] w fun e w' => e = .returned (.bool false) ∧ w = w' := by
  go_enter Try.func18, Try.ntmps18
  go_wp2_with fail
  go_ret
  exact ⟨rfl, rfl⟩
theorem next_nil (c : Bool) (w : World) : Calls Try.prog 10 #[.pointer none, .bool c] w fun e w' => e = .returned (.tuple #[.int .i64 0, .bool false]) ∧ w = w' := by
  go_enter Try.func10, Try.ntmps10
  go_wp2_with fail
  go_ret2
  exact ⟨rfl, rfl⟩
theorem due_none (b : Nat) (s n : Int) (w : World) (h : Clk 54 w b s n (.slice none 0 0)) : Calls Try.prog 27 #[.pointer (some ⟨b, 0, none⟩)] w fun e w' => e = .returned (.bool false) ∧ Below w.heap.size w w' := by
  have c2 := h.c2
  go_enter Try.func27, Try.ntmps27
  go_wp2_with fail
  go_quiet (fail)
  go_wp2_with fail
  go_ret
  exact ⟨rfl, below_drewN (Below.refl _ _) _⟩
theorem ready_none (b : Nat) (s n : Int) (c : Bool) (w : World) (h : Clk 54 w b s n (.slice none 0 0)) : Calls Try.prog 18 #[.pointer (some ⟨b, 0, none⟩), .bool c] w fun e w' => e = .returned (.bool false) ∧ Below w.heap.size w w' := by
  have D := Lib.hid (fun w' (hw : Below w.heap.size w w') => due_none b s n w' (h.below hw))
  cases c
  all_goals
    go_enter Try.func18, Try.ntmps18
    go_wp2_with fail
    go_loop [7] (fun v7 => True) (fun _ => 0)
    case atStart => trivial
    case round =>
      go_wp2_with (go_at_call 27; (with_reducible refine (D.out _ (by first | exact Below.refl _ _ | assumption)).mono ?_); rintro e w' ⟨rfl, hw⟩)
      go_ret
      exact ⟨rfl, by first | assumption | (rename_i h1 _; exact below_then h1 h1.size hw)⟩
theorem next_none (b : Nat) (s n : Int) (c : Bool) (w : World) (h : Clk 54 w b s n (.slice none 0 0)) : Calls Try.prog 10 #[.pointer (some ⟨b, 0, none⟩), .bool c] w fun e w' => e = .returned (.tuple #[.int .i64 0, .bool false]) ∧ w = w' := by
  have c2 := h.c2
  cases c
  all_goals
    go_enter Try.func10, Try.ntmps10
    go_wp2_with fail
    go_loop [9] (fun v9 => True) (fun _ => 0)
    case atStart => trivial
    case round =>
      go_wp2_with fail
      go_ret2
      exact ⟨rfl, rfl⟩
theorem rd_date {b b2 : Nat} {s n : Int} {v v2 : Value} {w : World} (h : Clk 54 w b s n v) (g : Clk 49 w b2 s n v2) (s0 : 0 ≤ s) (s1 : s ≤ 8589934592) (n0 : 0 ≤ n) (n1 : n ≤ 2199023255552) :
    Calls Try.prog 16 #[.pointer (some ⟨b, 0, none⟩), .pointer (some ⟨b2, 0, none⟩)] w fun e w' => e = .returned (.bool true) ∧ Below w.heap.size w w' := by
  obtain ⟨⟨d, m, y⟩, hR⟩ := dt_total ((s + n / 1000) / 86400).toNat ((s + n / 1000) / 86400) 0 2000 (Nat.le_refl _)
  obtain ⟨t, ht⟩ : ∃ t, t = s + n / 1000 := ⟨_, rfl⟩
  rw [← ht] at hR
  have A := Lib.hid (date_c b s n w h.c0 h.c1 s0 s1 n0 n1 t ht d m y hR)
  have B := Lib.hid (fun w' (hw : Below w.heap.size w w') => rdate_c b2 s n w' (g.below hw).c0 (g.below hw).c1 s0 s1 n0 n1 t ht d m y hR)
  obtain ⟨a1, e1⟩ : ∃ x, t % 60 = x := ⟨_, rfl⟩
  obtain ⟨a2, e2⟩ : ∃ x, t / 60 % 60 = x := ⟨_, rfl⟩
  obtain ⟨a3, e3⟩ : ∃ x, t / 3600 % 24 = x := ⟨_, rfl⟩
  obtain ⟨a4, e4⟩ : ∃ x, d + 1 = x := ⟨_, rfl⟩
  obtain ⟨a5, e5⟩ : ∃ x, m + 1 = x := ⟨_, rfl⟩
  rw [e1, e2, e3, e4, e5] at A
  simp only [e1, e2, e3, e4, e5] at B
  clear ht hR e1 e2 e3 e4 e5
  go_enter Try.func16, Try.ntmps16
  go_wp2_with (first
    | (go_at_call 12; (with_reducible refine (A.out).mono ?_); rintro e w1 ⟨rfl, hw⟩)
    | (go_at_call 24; (with_reducible refine (B.out _ (by assumption)).mono ?_); rintro e w2 ⟨rfl, hw2⟩))
  go_ret
  exact ⟨rfl, below_then hw hw.size hw2⟩
end Go.Proofs.Ythigimmlhgdchaa
