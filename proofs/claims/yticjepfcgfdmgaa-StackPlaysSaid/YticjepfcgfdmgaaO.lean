/- Cut to less; Pop. -/
import Derived.Test.YticjepfcgfdmgaaN
namespace Go.Proofs.Yticjepfcgfdmgaa
set_option linter.unusedVariables false
set_option linter.unusedSimpArgs false
open Go.RowKit

set_option maxHeartbeats 4000000 in
theorem cut_less (b : Nat) (v : Value) (xs : List Value) (most over under i : Int) (D B : Nat) (w : World) (h : IStk w B b v xs most over under) (hD : D < xs.length) (hi : max i 0 = D) (hl : xs.length ≤ 1000000) :
    Calls Try.prog 20 #[.pointer (some ⟨b, 0, none⟩), .int .i64 i] w fun e w' => e = .returned (.tuple #[]) ∧ ∃ v', IStk w' B b v' (xs.take D) most over under ∧ Fr b v w w' ∧ Old w v v' := by
  have HS := Lib.hid h
  have ho := h.2.2
  obtain ⟨a, c, rfl, hc, hg⟩ := own_form ho
  obtain ⟨g, rfl, hBg⟩ := hg (by omega)
  clear hg
  have hb : b < w.heap.size := h.lt
  have c0 := h.cell.1
  have hne : g ≠ b := fun e => h.ne (by decide) (by simp [Value.ownBlock, e])
  obtain ⟨L, hL⟩ : ∃ L, xs.length = L := ⟨_, rfl⟩
  rw [hL] at hc c0 ho hD hl
  have CL := fun c' ty => clear_run 22 ty Try.underlying22 ho hD c'
  have RW := cleared ho (Nat.le_of_lt hD)
  have GB := grown_cells g (List.replicate (L - D) (.int .i64 0)) D w
  obtain ⟨W1, hW1⟩ : ∃ W1, w.setCells g D (List.replicate (L - D) (.int .i64 0)) = W1 := ⟨_, rfl⟩
  rw [hW1] at CL RW GB
  have hbb : W1.heap[b]? = w.heap[b]? := GB.block b hb (fun e => hne (Option.some.inj e.symm))
  have k0 : W1.cell? ⟨b, 0, none⟩ = some (.slice (some ⟨g, 0, none⟩) L c) := (World.cell?_of_block (w := w) hbb).trans c0
  have f0 : W1.frozen? ⟨b, 0, none⟩ = false := (World.frozen?_of_block (w := w) hbb).trans (h.frozen 0)
  have FIN : Hid (∃ v'', IStk (W1.setCell ⟨b, 0, none⟩ (.slice (some ⟨g, 0, none⟩) D c)) B b v'' (xs.take D) most over under ∧ Fr b (.slice (some ⟨g, 0, none⟩) L c) w (W1.setCell ⟨b, 0, none⟩ (.slice (some ⟨g, 0, none⟩) D c)) ∧ Old w (.slice (some ⟨g, 0, none⟩) L c) v'') := by
    have hs : IStk w B b (.slice (some ⟨g, 0, none⟩) L c) xs most over under := by have := HS.out; rw [hL] at this; exact this
    have hp := Stk.put (ys := xs.take D) hs GB (v1 := .slice (some ⟨g, 0, none⟩) D c) (by rw [List.length_take, hL, show min D L = D by omega]; exact RW) (.inl rfl) (by decide)
    exact Lib.hid ⟨_, hp.1, hp.2.1, hp.2.2⟩
  rw [hL]
  have hDc : D < c := by omega
  have HD : (D : Int) < L := by omega
  have hiD : i = D ∨ (i < 0 ∧ D = 0) := by omega
  clear h HS ho RW GB hL hW1 hbb hi
  rcases hiD with rfl | ⟨hi, rfl⟩
  all_goals
    (try simp only [Nat.sub_zero] at CL)
    go_enter Try.func20, Try.ntmps20
    go_wp2_with (simp only [CL])
    exact bodyPost_ret (v := .tuple #[]) (by simp [results, Try.results20, go_sem]) rfl ⟨rfl, FIN.out⟩
theorem pop_no (b : Nat) (v : Value) (most over under : Int) (B : Nat) (w : World) (h : IStk w B b v [] most over under) (hm : 0 ≤ most ∧ most ≤ 100000) :
    Calls Try.prog 18 #[.pointer (some ⟨b, 0, none⟩)] w fun e w' => e = .returned (.tuple #[.int .i64 0, .int .i64 under]) ∧ Below w.heap.size w w' := by
  have A := Lib.hid (at_no b v [] most over under 0 B w h (.inr (by simp)))
  have N : Hid (Calls Try.prog 21 #[.pointer (some ⟨b, 0, none⟩), .int .i64 1, .int .i64 0] w fun e w' => e = .returned (.int .i64 under) ∧ Below w.heap.size w w') := by
    have := need_c b v [] most over under 1 0 B w h hm (by decide)
    rw [show max (1 : Int) 0 = 1 by rfl, show max (0 : Int) 0 = 0 by rfl, needV_1 (by decide)] at this
    exact Lib.hid this
  clear h
  go_enter Try.func18, Try.ntmps18
  go_wp2_with (first
    | (go_at_call 30; (with_reducible refine (A.out).mono ?_); rintro e w' ⟨rfl, rfl⟩)
    | (go_at_call 21; (with_reducible refine (N.out).mono ?_); rintro e w' ⟨rfl, hb⟩))
  go_ret2
  exact ⟨rfl, hb⟩
theorem pop_yes (b : Nat) (v : Value) (l : List Int) (most over under : Int) (B : Nat) (w : World) (h : IStk w B b v (l.map (.int .i64)) most over under) (h0 : 0 < l.length) (hl : l.length ≤ 1000000) :
    Calls Try.prog 18 #[.pointer (some ⟨b, 0, none⟩)] w fun e w' => e = .returned (.tuple #[.int .i64 (l.getD (l.length - 1) 0), .int .i64 0]) ∧ ∃ v', IStk w' B b v' ((l.take (l.length - 1)).map (.int .i64)) most over under ∧ Fr b v w w' ∧ Old w v v' := by
  have A := at_yes b v (l.map (.int .i64)) most over under 0 B w h (by omega) (by simpa using h0) (by simpa using hl)
  have C := cut_less b v (l.map (.int .i64)) most over under ((l.length : Int) - 1) (l.length - 1) B w h (by simp; omega) (by omega) (by simpa using hl)
  have hr : Rd w .i64 v l := Rd.of_own h.2.2
  obtain ⟨a, c, rfl, _⟩ := hr.len
  obtain ⟨g, off, rfl, k0⟩ := hr.at_ (i := l.length - 1) (by omega)
  have c0 := h.cell.1
  rw [List.length_map] at A
  rw [← List.map_take] at C
  obtain ⟨ys, hys⟩ : ∃ ys, (l.take (l.length - 1)).map (Value.int .i64) = ys := ⟨_, rfl⟩
  rw [hys] at C ⊢
  obtain ⟨L, hL⟩ : ∃ L, l.length = L := ⟨_, rfl⟩
  rw [hL] at A C h0 hl k0 c0 ⊢
  obtain ⟨p, hp⟩ : ∃ p, L - 1 = p := ⟨_, rfl⟩
  rw [hp] at k0 ⊢
  rw [show (L : Int) - 1 - 0 = (p : Int) by omega] at A
  rw [show (L : Int) - 1 = (p : Int) by omega] at C
  obtain ⟨y, hy⟩ : ∃ y, l.getD p 0 = y := ⟨_, rfl⟩
  rw [hy] at k0 ⊢
  have HA := Lib.hid A
  have HC := Lib.hid C
  have hpL : (p : Int) < L := by omega
  clear A C h hr hL hy hp hys
  go_enter Try.func18, Try.ntmps18
  go_wp2_with (first
    | (go_at_call 30; (with_reducible refine (HA.out).mono ?_); rintro e w' ⟨rfl, rfl⟩)
    | (go_at_call 20; (with_reducible refine (HC.out).mono ?_); rintro e w1 ⟨rfl, hend⟩; have HE := Lib.hid hend; clear hend))
  go_ret2
  exact ⟨rfl, HE.out⟩
end Go.Proofs.Yticjepfcgfdmgaa
