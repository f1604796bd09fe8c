/- Poke; what throws. -/
import Derived.Test.YticjepfcgfdmgaaJ
namespace Go.Proofs.Yticjepfcgfdmgaa
set_option linter.unusedVariables false
set_option linter.unusedSimpArgs false
open Go.RowKit

theorem poke_no (b : Nat) (v : Value) (xs : List Value) (most over under i x : Int) (B : Nat) (w : World) (h : IStk w B b v xs most over under) (hi : i < 0 ∨ (0 ≤ i ∧ (xs.length : Int) ≤ i)) :
    Calls Try.prog 23 #[.pointer (some ⟨b, 0, none⟩), .int .i64 i, .int .i64 x] w fun e w' => e = .returned (.int .i64 under) ∧ w = w' := by
  have A := Lib.hid (at_no b v xs most over under i B w h hi)
  have L := Lib.hid (low_c b v xs most over under B w h)
  clear h hi
  go_enter Try.func23, Try.ntmps23
  go_wp2_with (first
    | (go_at_call 30; (with_reducible refine (A.out).mono ?_); rintro e w' ⟨rfl, rfl⟩)
    | (go_at_call 31; (with_reducible refine (L.out).mono ?_); rintro e w' ⟨rfl, rfl⟩))
  go_ret
  exact ⟨rfl, rfl⟩
theorem roll_no (b : Nat) (v : Value) (xs : List Value) (most over under i : Int) (B : Nat) (w : World) (h : IStk w B b v xs most over under) (hi : i < 0 ∨ (0 ≤ i ∧ (xs.length : Int) ≤ i)) :
    Calls Try.prog 22 #[.pointer (some ⟨b, 0, none⟩), .int .i64 i] w fun e w' => e = .returned (.int .i64 under) ∧ w = w' := by
  have A := Lib.hid (at_no b v xs most over under i B w h hi)
  have L := Lib.hid (low_c b v xs most over under B w h)
  clear h hi
  go_enter Try.func22, Try.ntmps22
  go_wp2_with (first
    | (go_at_call 30; (with_reducible refine (A.out).mono ?_); rintro e w' ⟨rfl, rfl⟩)
    | (go_at_call 31; (with_reducible refine (L.out).mono ?_); rintro e w' ⟨rfl, rfl⟩))
  go_ret
  exact ⟨rfl, rfl⟩
theorem poke_yes (b : Nat) (v : Value) (xs : List Value) (most over under x : Int) (i : Nat) (B : Nat) (w : World) (h : IStk w B b v xs most over under) (hi : i < xs.length) (hl : xs.length ≤ 1000000) :
    Calls Try.prog 23 #[.pointer (some ⟨b, 0, none⟩), .int .i64 i, .int .i64 x] w fun e w' => e = .returned (.int .i64 0) ∧ IStk w' B b v (xs.set (xs.length - 1 - i) (.int .i64 x)) most over under ∧ Fr b v w w' := by
  have A := at_yes b v xs most over under i B w h (by omega) (by omega) hl
  have ho := h.2.2
  obtain ⟨a, c, rfl, hc, hg⟩ := own_form ho
  obtain ⟨g, rfl, hBg⟩ := hg (by omega)
  have c0 := h.cell.1
  have hne : g ≠ b := fun e => h.ne (by decide) (by simp [Value.ownBlock, e])
  obtain ⟨L, hL⟩ : ∃ L, xs.length = L := ⟨_, rfl⟩
  rw [hL] at A hi hl c0 hc ho ⊢
  obtain ⟨p, hp⟩ : ∃ p, L - 1 - i = p := ⟨_, rfl⟩
  rw [hp]
  rw [show (L : Int) - 1 - i = (p : Int) by omega] at A
  obtain ⟨⟨u, k0, _⟩, f0⟩ := ownsRow_cell ho (i := p) (by omega)
  have EN : Hid (IStk (w.setCell ⟨g, p, none⟩ (.int .i64 x)) B b (.slice (some ⟨g, 0, none⟩) L c) (xs.set p (.int .i64 x)) most over under ∧ Fr b (.slice (some ⟨g, 0, none⟩) L c) w (w.setCell ⟨g, p, none⟩ (.int .i64 x))) := by
    refine Lib.hid ⟨⟨?_, h.2.1, ?_⟩, ⟨rfl, rfl, rfl, by simp [World.setCell], fun k hk h1 h2 => Below.heap_setCell _ _ _ _ (fun e => h2 (by simp [Value.ownBlock, e]))⟩⟩
    · have := h.1
      rw [hL] at this
      exact (Below.heap_setCell _ _ _ _ (fun e => hne e.symm)).trans this
    · rw [List.length_set, hL]
      exact ownsRow_put ho p _
  have HA := Lib.hid A
  have hpL : (p : Int) < L := by omega
  clear A h ho hL hp hc hBg
  go_enter Try.func23, Try.ntmps23
  go_wp2_with (go_at_call 30; (with_reducible refine (HA.out).mono ?_); rintro e w' ⟨rfl, rfl⟩)
  go_ret
  exact ⟨rfl, EN.out.1, EN.out.2⟩
end Go.Proofs.Yticjepfcgfdmgaa
