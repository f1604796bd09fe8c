/- Next of any heap, characters or not asked for. -/
import Derived.Test.YthigimmlhgdchaaV
namespace Go.Proofs.Ythigimmlhgdchaa
set_option linter.unusedVariables false
set_option linter.unusedSimpArgs false
open Go.RowKit

theorem next_empty (b : Nat) (s t : Int) (a : Option Addr) (c : Nat) (w : World) (h : Clk 54 w b s t (.slice a 0 c)) : Calls Try.prog 10 #[.pointer (some ⟨b, 0, none⟩), .bool false] w fun e w' => e = .returned (.tuple #[.int .i64 0, .bool false]) ∧ w = w' := by
  have c2 := h.c2
  go_enter Try.func10, Try.ntmps10
  go_wp2_with fail
  go_loop [9] (fun v9 => True) (fun _ => 0)
  case atStart => trivial
  case round =>
    go_wp2_with fail
    go_ret2
    exact ⟨rfl, rfl⟩
set_option maxRecDepth 100000 in
set_option maxHeartbeats 8000000 in
theorem next_gen (b B g c n : Nat) (s t : Int) (l : List Ev) (w : World) (hC : Clk 54 w b s t (.slice (some ⟨g, 0, none⟩) (n + 1) c)) (h : Rw w B (.slice (some ⟨g, 0, none⟩) (n + 1) c) l) (hN : l.length = n + 1) (hb : b < B) (hs : n + 1 ≤ 100000) (hp : Hp l 0 (n + 1)) :
    Calls Try.prog 10 #[.pointer (some ⟨b, 0, none⟩), .bool false] w fun e w' => e = .returned (.tuple #[.int .i64 (ix l 0).2.1, .bool true]) ∧ Clk 54 w' b s (max t (ix l 0).1) (.slice (some ⟨g, 0, none⟩) n c) ∧ (∃ l', Rw w' B (.slice (some ⟨g, 0, none⟩) n c) l' ∧ (l' ++ [ix l 0]).Perm l ∧ l'.length = n ∧ Hp l' 0 n) ∧ F2 b g w w' := by
  have hg : b ≠ g := by have := (row_blk (h.own hN)).1; omega
  have hgB : B ≤ g := (row_blk (h.own hN)).1
  have c2 := hC.c2
  have hlt := hC.lt
  have hT := take_gen b B g c n s t l w hC h hN hb hs hp
  obtain ⟨⟨x0, x1, x2⟩, hx⟩ : ∃ x, ix l 0 = x := ⟨_, rfl⟩
  rw [hx] at hT ⊢
  have TK : Hid (Calls Try.prog 21 #[.pointer (some ⟨b, 0, none⟩)] w fun e w' => e = .returned (.agg #[.int .i64 x0, .int .i64 x1, .int .i64 x2]) ∧
      (w'.cell? ⟨b, 1, none⟩ = some (.int .i64 t) ∧ w'.frozen? ⟨b, 1, none⟩ = false) ∧ ((w'.alloc (.cells #[.int .i64 x0, .int .i64 x1, .int .i64 x2] 58)).cell? ⟨b, 1, none⟩ = some (.int .i64 t) ∧ (w'.alloc (.cells #[.int .i64 x0, .int .i64 x1, .int .i64 x2] 58)).frozen? ⟨b, 1, none⟩ = false) ∧ b < w'.heap.size ∧ Hid (Clk 54 w' b s t (.slice (some ⟨g, 0, none⟩) n c) ∧ (∃ l', Rw w' B (.slice (some ⟨g, 0, none⟩) n c) l' ∧ (l' ++ [(x0, x1, x2)]).Perm l ∧ l'.length = n ∧ Hp l' 0 n) ∧ F2 b g w w')) := by
    refine Lib.hid (hT.mono ?_)
    rintro e w' ⟨rfl, h1, hl, h2⟩
    have bA : Below w'.heap.size w' (w'.alloc (.cells #[.int .i64 x0, .int .i64 x1, .int .i64 x2] 58)) := (Below.refl _ _).alloc (Nat.le_refl _) _
    exact ⟨rfl, ⟨h1.c1, h1.fz 1⟩, ⟨(h1.below bA).c1, (h1.below bA).fz 1⟩, h1.lt, Lib.hid ⟨h1, hl, h2⟩⟩
  have FIN : Hid (∀ (w2 : World) (m : Int), (Clk 54 w2 b s t (.slice (some ⟨g, 0, none⟩) n c) ∧ (∃ l', Rw w2 B (.slice (some ⟨g, 0, none⟩) n c) l' ∧ (l' ++ [(x0, x1, x2)]).Perm l ∧ l'.length = n ∧ Hp l' 0 n) ∧ F2 b g w w2) →
      Clk 54 ((w2.setCell ⟨b, 1, none⟩ (.int .i64 m)).alloc (.cells #[.int .i64 x0, .int .i64 x1, .int .i64 x2] 58)).drew b s m (.slice (some ⟨g, 0, none⟩) n c) ∧ (∃ l', Rw ((w2.setCell ⟨b, 1, none⟩ (.int .i64 m)).alloc (.cells #[.int .i64 x0, .int .i64 x1, .int .i64 x2] 58)).drew B (.slice (some ⟨g, 0, none⟩) n c) l' ∧ (l' ++ [(x0, x1, x2)]).Perm l ∧ l'.length = n ∧ Hp l' 0 n) ∧ F2 b g w ((w2.setCell ⟨b, 1, none⟩ (.int .i64 m)).alloc (.cells #[.int .i64 x0, .int .i64 x1, .int .i64 x2] 58)).drew) := by
    refine Lib.hid fun w2 m hh => ?_
    obtain ⟨E1, ⟨l', E2, E3⟩, E4⟩ := hh
    have bX : Below (w2.setCell ⟨b, 1, none⟩ (.int .i64 m)).heap.size (w2.setCell ⟨b, 1, none⟩ (.int .i64 m)) ((w2.setCell ⟨b, 1, none⟩ (.int .i64 m)).alloc (.cells #[.int .i64 x0, .int .i64 x1, .int .i64 x2] 58)).drew := below_drewN ((Below.refl _ _).alloc (Nat.le_refl _) _) 1
    refine ⟨(E1.set1 m).below bX, ⟨l', Rw.below (w := w2.setCell ⟨b, 1, none⟩ (.int .i64 m)) ?_ bX, E3⟩, (E4.trans (F2.of_b (Fb.set _ _))).trans (F2.of_below bX)⟩
    exact ownsRow_same E2 (fun g' hg' => Below.heap_setCell _ _ _ _ (by simp [Value.ownBlock] at hg'; subst hg'; exact fun h => hg h.symm))
  have hm : (t < x0 ∧ max t x0 = x0) ∨ (x0 ≤ t ∧ max t x0 = t) := by omega
  clear hC h hN hp hT hx
  rcases hm with ⟨m1, m2⟩ | ⟨m1, m2⟩
  all_goals
    rw [m2]
    clear m2
    go_enter Try.func10, Try.ntmps10
    go_wp2_with fail
    go_loop [9] (fun v9 => True) (fun _ => 0)
    case atStart => trivial
    case round =>
      go_wp2_with (first
        | (go_at_call 21; (with_reducible refine (TK.out).mono ?_); rintro e w2 ⟨rfl, ⟨q1, q2⟩, ⟨q3, q4⟩, q5, EN⟩))
      go_big_region
      all_goals
        go_wp2_with fail
        go_ret2
        exact ⟨rfl, FIN.out _ _ EN.out⟩
end Go.Proofs.Ythigimmlhgdchaa
