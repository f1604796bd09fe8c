/- Contracts of same and All. -/
import Derived.Test.YticjepfcgfdmgaaB
import Derived.Lib.SliceRun
namespace Go.Proofs.Yticjepfcgfdmgaa
set_option linter.unusedVariables false
set_option linter.unusedSimpArgs false
open Go.RowKit

theorem Rd.at_ {w : World} {k : IntKind} {a : Option Addr} {n c : Nat} {l : List Int} (h : Rd w k (.slice a n c) l) {i : Nat} (hi : i < l.length) : ∃ g off, a = some ⟨g, off, none⟩ ∧ w.cell? ⟨g, off + i, none⟩ = some (.int k (l.getD i 0)) := by
  obtain ⟨_, _, e, _, h⟩ := h
  injection e with e1 e2 e3
  rcases h with h | ⟨g, off, ea, hcl⟩
  · rw [h] at hi; simp at hi
  · exact ⟨g, off, e1.trans ea, hcl i hi⟩
set_option maxHeartbeats 1000000 in
theorem same_c (v0 v1 : Value) (l : List Int) (w : World) (h0 : Rd w .i64 v0 l) (h1 : Rd w .i64 v1 l) (hs : l.length ≤ 1000000) : Calls Try.prog 11 #[v0, v1] w fun e w' => e = .returned (.bool true) ∧ Below w.heap.size w w' := by
  have H0 := Lib.hid h0
  have H1 := Lib.hid h1
  obtain ⟨a0, c0, rfl, _⟩ := h0
  obtain ⟨a1, c1, rfl, _⟩ := h1
  obtain ⟨L, hL⟩ : ∃ L, l.length = L := ⟨_, rfl⟩
  have HL := Lib.hid hL
  have G0 := Lib.hid (fun (i : Nat) (hi : i < l.length) => H0.out.at_ hi)
  have G1 := Lib.hid (fun (i : Nat) (hi : i < l.length) => H1.out.at_ hi)
  rw [hL] at hs ⊢
  rw [hL] at G0 G1
  clear hL H0 H1
  go_enter Try.func11, Try.ntmps11
  go_wp2
  go_loopw [5] (fun v wr => ∃ i d : Nat, i ≤ L ∧ v = .int .i64 i ∧ wr = w.drewN d) (fun v _ => L - (intOf v).toNat)
  case atStart => exact ⟨0, 0, Nat.zero_le _, rfl, rfl⟩
  case round =>
    obtain ⟨i, d, hi, rfl, rfl⟩ := hrel
    by_cases hlt : i < L
    · obtain ⟨g0, o0, rfl, q0⟩ := G0.out i hlt
      obtain ⟨g1, o1, rfl, q1⟩ := G1.out i hlt
      obtain ⟨x, hx⟩ : ∃ x, l.getD i 0 = x := ⟨_, rfl⟩
      rw [hx] at q0 q1
      clear hx G0 G1
      go_wp2
      go_quiet (fail)
      go_wp2
      go_roundw
      case rel => exact ⟨i + 1, _, by omega, by go_num, rfl⟩
      case measure => simp [intOf]; omega
    · clear G0 G1
      go_wp2
      go_ret
      exact ⟨rfl, below_drewN (Below.refl _ _) _⟩
set_option maxHeartbeats 1000000 in
theorem clone_c (a : Option Addr) (n c : Nat) (l : List Int) (w : World) (h : Rd w .i64 (.slice a n c) l) (hs : l.length ≤ 1000000) : Calls Try.prog 24 #[.slice a n c] w fun e w' => ∃ u, e = .returned u ∧ w'.ownsRow w.heap.size 3 1 u l.length (l.map (.int .i64)) ∧ Below w.heap.size w w' := by
  cases a with
  | none =>
    have hl : l = [] := by
      obtain ⟨_, _, e, _, h⟩ := h
      rcases h with h | ⟨g, off, ea, _⟩
      · exact h
      · injection e with e1; rw [ea] at e1; cases e1
    have HL := Lib.hid hl
    have E := fun W => Lib.run_eql_slice_nil (P := Try.prog) W 22 3 none n c 0 0 Try.underlying22
    clear h hl
    go_enter Try.func24, Try.ntmps24
    go_wp2
    go_ret
    exact ⟨_, rfl, by rw [HL.out]; exact World.ownsRow_nil _ _ _ _, Below.refl _ _⟩
  | some ad =>
    have HR := Lib.hid h
    have own0 : (w.alloc (.cells #[] 3)).ownsRow w.heap.size 3 1 (.slice (some ⟨w.heap.size, 0, none⟩) 0 0) 0 [] := World.ownsRow_made w #[] 0 (Nat.le_refl _) (Nat.zero_le _) rfl
    have H0 := Lib.hid own0
    have b0 := (Below.refl w.heap.size w).alloc (Nat.le_refl _) (.cells #[] 3)
    have E := fun W => Lib.run_eql_slice_nil (P := Try.prog) W 22 3 (some ad) n c 0 0 Try.underlying22
    clear own0 h
    go_enter Try.func24, Try.ntmps24
    go_wp2_with (at_builtin; go_loud (refine wp_apps 22 3 (.int .i64 0) 8 Try.underlying22 info_int rfl w.heap.size (.slice (some ⟨w.heap.size, 0, none⟩) 0 0) 0 [] rfl (.tmp 5) (.tmp 6) (by rfl) (by rfl) H0.out (by simp) .i64 _ l (by rfl) (HR.out.below b0) (by omega) (by decide) ?_); intro v2 w2 hown2 hg2 _; have hO := Lib.hid hown2; have hb2 := b0.trans (grown_below hg2 H0.out (by simp)); clear hown2 hg2)
    go_ret
    exact ⟨_, rfl, by have := hO.out; rwa [Nat.zero_add, List.nil_append] at this, hb2⟩
theorem all_c (b : Nat) (v : Value) (l : List Int) (most over under : Int) (B : Nat) (w : World) (h : IStk w B b v (l.map (.int .i64)) most over under) (hs : l.length ≤ 1000000) :
    Calls Try.prog 10 #[.pointer (some ⟨b, 0, none⟩)] w fun e w' => ∃ u, e = .returned u ∧ w'.ownsRow w.heap.size 3 1 u l.length (l.map (.int .i64)) ∧ Below w.heap.size w w' := by
  have hr : Rd w .i64 v l := Rd.of_own h.2.2
  obtain ⟨a, c, rfl, _⟩ := hr.len
  have C := clone_c a l.length c l w hr hs
  have HC := Lib.hid C
  have c0 := h.cell.1
  clear h hr C
  go_enter Try.func10, Try.ntmps10
  go_wp2_with (go_at_call 24; (with_reducible refine (HC.out).mono ?_); rintro e w1 ⟨u, rfl, ho, hb⟩; obtain ⟨a1, d1, rfl⟩ := ownsRow_slice ho)
  go_ret
  exact ⟨_, rfl, ho, hb⟩
end Go.Proofs.Yticjepfcgfdmgaa
