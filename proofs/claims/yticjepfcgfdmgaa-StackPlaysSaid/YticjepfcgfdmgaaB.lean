/- Contracts of Push, All, same. -/
import Derived.Test.YticjepfcgfdmgaaA
import Derived.IntWalk
namespace Go.Proofs.Yticjepfcgfdmgaa
set_option linter.unusedVariables false
set_option linter.unusedSimpArgs false
open Go.RowKit

section
variable {w w' : World} {B b : Nat} {v : Value} {xs : List Value} {most over under : Int}
theorem Stk.form {T e : TypeId} (h : Stk T e w B b v xs most over under) : ∃ a c, v = .slice a xs.length c ∧ xs.length ≤ c := by
  rcases h.2.2.2 with ⟨rfl, h0⟩ | ⟨g, c, cur, rfl, _, _, hc, _⟩
  · rw [h0]; exact ⟨_, _, rfl, Nat.le_refl _⟩
  · exact ⟨_, _, rfl, hc⟩
end
def needV (L most over under t g : Int) : Int := if L < t then under else if most - (L - t) < g then over else 0
theorem needV_1 {L most over under t g : Int} (h : L < t) : needV L most over under t g = under := by unfold needV; rw [if_pos h]
theorem needV_2 {L most over under t g : Int} (h : ¬ L < t) (h2 : most - (L - t) < g) : needV L most over under t g = over := by unfold needV; rw [if_neg h, if_pos h2]
theorem needV_3 {L most over under t g : Int} (h : ¬ L < t) (h2 : ¬ most - (L - t) < g) : needV L most over under t g = 0 := by unfold needV; rw [if_neg h, if_neg h2]
set_option maxHeartbeats 1000000 in
theorem need_c (b : Nat) (v : Value) (xs : List Value) (most over under N V : Int) (B : Nat) (w : World) (h : IStk w B b v xs most over under) (hm : 0 ≤ most ∧ most ≤ 100000) (hl : xs.length ≤ 100000) :
    Calls Try.prog 21 #[.pointer (some ⟨b, 0, none⟩), .int .i64 N, .int .i64 V] w fun e w' =>
      e = .returned (.int .i64 (needV (xs.length : Int) most over under (max N 0) (max V 0))) ∧ Below w.heap.size w w' := by
  obtain ⟨a, c, rfl, hc⟩ := h.form
  obtain ⟨c0, c1, c2, c3⟩ := h.cell
  obtain ⟨L, hL⟩ : ∃ L, xs.length = L := ⟨_, rfl⟩
  rw [hL] at hl hc c0 ⊢
  obtain ⟨t, ht⟩ : ∃ t, max N 0 = t := ⟨_, rfl⟩
  obtain ⟨g, hg⟩ : ∃ g, max V 0 = g := ⟨_, rfl⟩
  rw [ht, hg]
  have t0 : 0 ≤ t := by omega
  have g0 : 0 ≤ g := by omega
  have hN : (0 ≤ N ∧ N = t) ∨ (N < 0 ∧ t = 0) := by omega
  have hV : (0 ≤ V ∧ V = g) ∨ (V < 0 ∧ g = 0) := by omega
  clear h hL ht hg
  by_cases h1 : (L : Int) < t
  · have H1 := Lib.hid (needV_1 (most := most) (over := over) (under := under) (g := g) h1)
    rcases hN with ⟨n1, rfl⟩ | ⟨n1, rfl⟩
    · rcases hV with ⟨n2, rfl⟩ | ⟨n2, rfl⟩ <;>
      · go_enter Try.func21, Try.ntmps21
        go_wp2
        go_ret
        exact ⟨ret1 H1.out.symm, Below.refl _ _⟩
    · omega
  · have t1 : t ≤ L := by omega
    have i1 : IntKind.i64.wrap ((L : Int) - t) = (L : Int) - t := IntWalk.i64_in _ (by omega)
    have i2 : IntKind.i64.wrap (most - ((L : Int) - t)) = most - ((L : Int) - t) := IntWalk.i64_in _ (by omega)
    by_cases h2 : most - ((L : Int) - t) < g
    · have H1 := Lib.hid (needV_2 (over := over) (under := under) h1 h2)
      rcases hN with ⟨n1, rfl⟩ | ⟨n1, rfl⟩ <;> rcases hV with ⟨n2, rfl⟩ | ⟨n2, rfl⟩ <;>
      · go_enter Try.func21, Try.ntmps21
        go_wp2
        go_quiet (fail)
        go_wp2
        go_ret
        exact ⟨ret1 H1.out.symm, below_drewN (Below.refl _ _) _⟩
    · have H1 := Lib.hid (needV_3 (over := over) (under := under) h1 h2)
      rcases hN with ⟨n1, rfl⟩ | ⟨n1, rfl⟩ <;> rcases hV with ⟨n2, rfl⟩ | ⟨n2, rfl⟩ <;>
      · go_enter Try.func21, Try.ntmps21
        go_wp2
        go_quiet (fail)
        go_wp2
        go_ret
        exact ⟨ret1 H1.out.symm, below_drewN (Below.refl _ _) _⟩
theorem push_full (b : Nat) (v : Value) (xs : List Value) (most over under : Int) (x : Value) (B : Nat) (w : World) (h : IStk w B b v xs most over under) (hm : 0 ≤ most ∧ most ≤ 100000) (hl : xs.length ≤ 100000) (hf : most ≤ xs.length) :
    Calls Try.prog 9 #[.pointer (some ⟨b, 0, none⟩), x] w fun e w' => e = .returned (.int .i64 over) ∧ Below w.heap.size w w' := by
  have N : ∀ n, Calls Try.prog 21 #[.pointer (some ⟨b, 0, none⟩), .int .i64 0, .int .i64 1] (w.drewN n) fun e w' => e = .returned (.int .i64 over) ∧ Below w.heap.size w w' := by
    intro n
    have := need_c b v xs most over under 0 1 B (w.drewN n) (h.below (below_drewN (Below.refl _ _) n)) hm hl
    rw [show max (0 : Int) 0 = 0 by rfl, show max (1 : Int) 0 = 1 by rfl, needV_2 (by omega) (by omega)] at this
    refine this.mono ?_
    rintro e w' ⟨h1, h2⟩
    exact ⟨h1, (below_drewN (Below.refl _ _) n).trans h2⟩
  obtain ⟨a, c, rfl, hc⟩ := h.form
  obtain ⟨c0, c1, c2, c3⟩ := h.cell
  obtain ⟨L, hL⟩ : ∃ L, xs.length = L := ⟨_, rfl⟩
  rw [hL] at hl hc c0 hf
  have HN := Lib.hid N
  clear h hL N c2 c3
  go_enter Try.func9, Try.ntmps9
  go_wp2
  go_quiet (fail)
  go_wp2_with (go_at_call 21; refine (HN.out _).mono ?_; rintro e w' ⟨rfl, hb⟩)
  go_ret
  exact ⟨rfl, hb⟩
theorem push_room (b : Nat) (v : Value) (xs : List Value) (most over under q : Int) (B : Nat) (w : World) (h : IStk w B b v xs most over under) (hB : B ≤ w.heap.size) (hm : 0 ≤ most ∧ most ≤ 100000) (hf : (xs.length : Int) < most) :
    Calls Try.prog 9 #[.pointer (some ⟨b, 0, none⟩), .int .i64 q] w fun e w' => e = .returned (.int .i64 0) ∧ ∃ v', IStk w' B b v' (xs ++ [.int .i64 q]) most over under ∧ Fr b v w w' ∧ Old w v v' := by
  have hs := Lib.hid h
  obtain ⟨a, c, rfl, hc⟩ := h.form
  obtain ⟨c0, c1, c2, c3⟩ := h.cell
  obtain ⟨L, hL⟩ : ∃ L, xs.length = L := ⟨_, rfl⟩
  rw [hL] at hc c0 hf
  have hS : Hid (IStk w B b (.slice a L c) xs most over under) := by have := hs.out; rw [hL] at this; exact this
  have hO : Hid (w.ownsRow B 3 1 (.slice a L c) L xs) := by have := hs.out.2.2; rw [hL] at this; exact this
  have HL := Lib.hid hL
  rw [hL]
  clear h hL hs c2 c3
  have fin : ∀ n v' w1, w1.ownsRow B 3 1 v' (L + 1) (xs ++ [.int .i64 q]) → (w.drewN n).grownBy w1 (Value.slice a L c).ownBlock → (v'.ownBlock = (Value.slice a L c).ownBlock ∨ ∀ g, v'.ownBlock = some g → (w.drewN n).heap.size ≤ g) →
      w1.cell? ⟨b, 0, none⟩ = some (.slice a L c) ∧ w1.frozen? ⟨b, 0, none⟩ = false ∧ Hid (∃ v'', IStk (w1.setCell ⟨b, 0, none⟩ v') B b v'' (xs ++ [.int .i64 q]) most over under ∧ Fr b (.slice a L c) w (w1.setCell ⟨b, 0, none⟩ v') ∧ Old w (.slice a L c) v'') := by
    intro n v' w1 ho hg hat
    have hne := hS.out.ne (by decide)
    have hb : w1.heap[b]? = w.heap[b]? := hg.block b hS.out.lt (fun g => hne g.symm)
    have hg2 : w.grownBy w1 (Value.slice a L c).ownBlock := ⟨hg.os, hg.tape, hg.output, hg.size, hg.block⟩
    have hp := Stk.put (ys := xs ++ [.int .i64 q]) hS.out hg2 (by have := HL.out; rw [List.length_append, this]; exact ho) hat (by decide)
    refine ⟨?_, ?_, Lib.hid ⟨v', hp.1, hp.2.1, hp.2.2⟩⟩
    · exact (World.cell?_of_block (w := w) hb).trans hS.out.cell.1
    · exact (World.frozen?_of_block (w := w) hb).trans (hS.out.frozen 0)
  have FIN := Lib.hid fin
  clear fin
  go_enter Try.func9, Try.ntmps9
  go_wp2
  go_quiet (fail)
  go_wp2_with (at_builtin; go_loud (refine wp_app1 22 3 (.int .i64 0) 8 Try.underlying22 info_int rfl B (.slice a L c) L xs (.int .i64 q) _ _ rfl (by rfl) (.tmp 25) (.tmp 27) (by rfl) (by rfl) (by rfl) hO.out (by assumption) rfl (by omega) (by decide) ?_); intro v' w1 hown hg hat; obtain ⟨a1, d1, rfl⟩ := ownsRow_slice hown; obtain ⟨hc1, hf1, hend⟩ := FIN.out _ _ _ hown hg hat; clear hown hg hat)
  go_ret
  exact ⟨rfl, hend.out⟩
end Go.Proofs.Yticjepfcgfdmgaa
