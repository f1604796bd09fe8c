/- A step, any; what it leaves. -/
import Derived.Test.YticjepfcgfdmgaaZ
namespace Go.Proofs.Yticjepfcgfdmgaa
set_option linter.unusedVariables false
set_option linter.unusedSimpArgs false
open Go.RowKit

theorem does_c (K N V : Int) (b mb : Nat) (v u : Value) (l : List Int) (most over under : Int) (B : Nat) (w : World) (h : Both w B b v mb u l most over under) (hm : most ≤ 100000) (hBw : B ≤ w.heap.size) :
    Calls Try.prog 13 #[.pointer (some ⟨b, 0, none⟩), .pointer (some ⟨mb, 0, none⟩), .agg #[.int .i64 K, .int .i64 N, .int .i64 V]] w fun e w' => e = .returned (.bool true) ∧ Went w w' B b v mb u most over under := by
  by_cases h0 : K < 1 ∨ 7 < K
  · exact does_0 K N V b mb v u l most over under B w h h0
  · have hk : K = 1 ∨ K = 2 ∨ K = 3 ∨ K = 4 ∨ K = 5 ∨ K = 6 ∨ K = 7 := by omega
    rcases hk with rfl | rfl | rfl | rfl | rfl | rfl | rfl
    · exact does_1 N V b mb v u l most over under B w h hm hBw
    · exact does_2 N V b mb v u l most over under B w h hm
    · exact does_3 N V b mb v u l most over under B w h hm
    · exact does_4 N V b mb v u l most over under B w h hm
    · exact does_5 N V b mb v u l most over under B w h hm
    · exact does_6 N V b mb v u l most over under B w h hm hBw
    · have lim := h.lim
      obtain ⟨D, hD⟩ := Int.eq_ofNat_of_zero_le (show 0 ≤ max N 0 by omega)
      by_cases hl : D < l.length
      · exact does_7a N V b mb v u l most over under B D w h hm hD hl
      · obtain ⟨E, hE⟩ := Int.eq_ofNat_of_zero_le (show 0 ≤ min (max N 0) most by omega)
        exact does_7b N V b mb v u l most over under B E w h hm hBw hE (by omega)
theorem Went.below {w w1 : World} {B b mb : Nat} {v u : Value} {l : List Int} {most over under : Int} (h : Both w B b v mb u l most over under) (g : Went w w1 B b v mb u most over under) (hB : B ≤ w.heap.size) : Below B w w1 := by
  obtain ⟨v', u', l', _, _, _, f⟩ := g
  refine f.below (fun k hk => ?_) hB
  rcases hk with (rfl | hk) | (rfl | hk)
  · exact h.s.2.1
  · exact (h.s.row_lt k hk).1
  · exact h.m.2.1
  · exact (h.m.row_lt k hk).1
theorem new_bad (most over under : Int) (w : World) (h : most < 0 ∨ (0 ≤ most ∧ 100000 < most)) : Calls Try.prog 8 #[.int .i64 most, .int .i64 over, .int .i64 under] w fun e w' => e = .returned (.tuple #[.pointer none, .int .i64 1]) ∧ w = w' := by
  rcases h with h | ⟨h0, h⟩
  all_goals
    go_enter Try.func8, Try.ntmps8
    go_wp2
    go_ret2
    exact ⟨rfl, rfl⟩
/-- What the law asks behind a step. -/
theorem after_step {W w2 : World} {B b mb : Nat} {v u : Value} {l : List Int} {most over under : Int} (h : Both W B b v mb u l most over under) (g : Went W w2 B b v mb u most over under) (hB : B ≤ W.heap.size) (hm : most ≤ 100000) :
    ∃ (v' : Value) (a' : Option Addr) (n c' : Nat) (l' : List Int), w2.cell? ⟨mb, 0, none⟩ = some (.slice a' n c') ∧ Below B W w2 ∧ Hid (Both w2 B b v' mb (.slice a' n c') l' most over under ∧ l'.length = n) ∧
      Hid (Calls Try.prog 17 #[.pointer (some ⟨b, 0, none⟩)] w2 fun e w' => e = .returned (.int .i64 n) ∧ w2 = w') ∧
      Hid (Calls Try.prog 10 #[.pointer (some ⟨b, 0, none⟩)] w2 fun e w' => ∃ a3 c3, e = .returned (.slice a3 n c3) ∧ w'.cell? ⟨mb, 0, none⟩ = some (.slice a' n c') ∧ Hid (Below w2.heap.size w2 w') ∧
        Hid (Calls Try.prog 11 #[.slice a3 n c3, .slice a' n c'] w' fun e w4 => e = .returned (.bool true) ∧ Below w'.heap.size w' w4)) := by
  have bw := g.below h hB
  obtain ⟨v', u', l', hb, _, _, _⟩ := g
  obtain ⟨a', c', rfl, hc⟩ := hb.m.form
  rw [List.length_map] at hb
  have lim := hb.lim
  have m0 := hb.m.cell.1
  have D := depth_c b v' _ most over under B w2 hb.s
  rw [List.length_map] at D
  have A := all_c b v' l' most over under B w2 hb.s (by omega)
  refine ⟨v', a', l'.length, c', l', m0, bw, Lib.hid ⟨hb, rfl⟩, Lib.hid D, Lib.hid (A.mono ?_)⟩
  rintro e w' ⟨r, rfl, ho, hb2⟩
  have hr : Rd w' .i64 r l' := Rd.of_own ho
  obtain ⟨a3, c3, rfl⟩ := ownsRow_slice ho
  have hr2 : Rd w' .i64 (.slice a' l'.length c') l' := (Rd.of_own hb.m.2.2 : Rd w2 .i64 _ l').below hb2
  exact ⟨a3, c3, rfl, cell_below hb2 m0, Lib.hid hb2, Lib.hid (same_c _ _ l' w' hr hr2 (by omega))⟩
end Go.Proofs.Yticjepfcgfdmgaa
