/- The law of order: its walk. -/
import Derived.Test.YthigimmlhgdchaaY
namespace Go.Proofs.Ythigimmlhgdchaa
set_option linter.unusedVariables false
set_option linter.unusedSimpArgs false
open Go.RowKit

theorem Evs.at_ {w : World} {a : Option Addr} {n c : Nat} {l : List (Int × Int)} (h : Evs w (.slice a n c) l) {i : Nat} (hi : i < l.length) : ∃ g off, a = some ⟨g, off, none⟩ ∧ w.cell? ⟨g, off + i * 2, none⟩ = some (.int .i64 (l.getD i (0, 0)).1) ∧ w.cell? ⟨g, off + i * 2 + 1, none⟩ = some (.int .i64 (l.getD i (0, 0)).2) := by
  obtain ⟨a', c', e, hc, hr⟩ := h
  injection e with e1 e2 e3
  subst e1
  rcases hr with h | ⟨g, off, ea, hcell⟩
  · rw [h] at hi; simp at hi
  · exact ⟨g, off, ea, hcell i hi⟩
theorem lt_step {q j : Nat} (h : q < j + 1) (n : ¬ j = q) : q < j := by omega
set_option maxRecDepth 100000 in
set_option maxHeartbeats 8000000 in
theorem lorder_walk (v : Value) (l : List (Int × Int)) (w : World) (hv : Evs w v l) : Calls Try.prog 3 #[v] w fun e w' => e = .returned (.bool true) ∧ Below w.heap.size w w' := by
  have HE := Lib.hid hv
  have AW := Lib.hid (fun w => awake_c w)
  obtain ⟨a, c, rfl, hc, _⟩ := hv
  obtain ⟨L, hL⟩ : ∃ L, l.length = L := ⟨_, rfl⟩
  have HL := Lib.hid hL
  rw [hL] at HE hc ⊢
  clear hL
  by_cases h4 : (200 : Int) < L
  · go_enter Try.func3, Try.ntmps3
    go_wp2_with (go_at_call 8; (with_reducible refine (AW.out _).mono ?_); rintro e w3 ⟨rfl, hb3⟩)
    go_ret
    exact ⟨rfl, hb3⟩
  · have hl3 : L ≤ 200 := by omega
    by_cases hok : ∀ i, i < L → okE (l.getD i (0, 0))
    · have NS : Hid (Calls Try.prog 9 #[.int .i64 0, .slice a L c] w fun e w' => e = .returned (.tuple #[.pointer (some ⟨w.heap.size, 0, none⟩), .int .i64 0]) ∧ St w w' w.heap.size 0 L l) := by
        have := new_st l (.slice a L c) w HE.out (by have := HL.out; omega) (fun e he => by
          obtain ⟨i, hi, rfl⟩ := List.getElem_of_mem he
          have := hok i (by have := HL.out; omega)
          rwa [List.getD_eq_getElem?_getD, List.getElem?_eq_getElem hi] at this)
        rw [HL.out] at this
        exact Lib.hid this
      clear hok
      go_enter Try.func3, Try.ntmps3
      go_wp2_with (go_at_call 9; (with_reducible refine (NS.out).mono ?_); rintro e w1 ⟨rfl, s1⟩; have S1 := Lib.hid s1; clear s1)
      go_loopw [5, 6] (fun v5 v6 wx => ∃ (i : Nat) (t : Int), i ≤ L ∧ v6 = .int .i64 i ∧ v5 = .int .i64 t ∧ Hid (St w wx w.heap.size t (L - i) l)) (fun _ v6 _ => L - (intOf v6).toNat)
      case atStart => exact ⟨0, 0, Nat.zero_le _, rfl, rfl, S1⟩
      case round =>
        obtain ⟨i, t, hi, rfl, rfl, HS⟩ := hrel
        by_cases hlt : i < L
        · obtain ⟨m, hm⟩ : ∃ m, L - i = m + 1 := ⟨L - i - 1, by omega⟩
          have hs := HS.out
          rw [hm] at hs
          obtain ⟨T, K, hT, ⟨q, hq, hx⟩, nx⟩ := hs.next (by omega)
          have NX := Lib.hid nx
          have HX := Lib.hid hx
          have hqL : q < L := by have := HL.out; omega
          have hT' : ¬ T < t := by omega
          clear hs hx nx hq
          go_wp2_with (first
            | (go_at_call 10; (with_reducible refine (NX.out).mono ?_); rintro e w2 ⟨rfl, s2⟩; have NW := Lib.hid s2.now; have S2 := Lib.hid s2; clear s2)
            | (go_at_call 11; (with_reducible refine (NW.out).mono ?_); rintro e w' ⟨rfl, rfl⟩))
          go_loop [9, 10] (fun v9 v10 => ∃ (j : Nat) (k : Int), j ≤ L ∧ v10 = .int .i64 j ∧ v9 = .int .i64 k ∧ 0 ≤ k ∧ k ≤ j ∧ Hid (q < j → 0 < k)) (fun _ v10 => L - (intOf v10).toNat)
          case atStart => exact ⟨0, 0, Nat.zero_le _, rfl, rfl, by decide, by decide, Lib.hid (fun h => by omega)⟩
          case round =>
            obtain ⟨j, k, hj, rfl, rfl, k0, kj, HQ⟩ := hrel
            by_cases hjL : j < L
            · obtain ⟨g, off, rfl, c0, c1⟩ := (HE.out.below S2.out.below).at_ (i := j) (by have := HL.out; omega)
              obtain ⟨⟨X, Y⟩, hXY⟩ : ∃ x, l.getD j (0, 0) = x := ⟨_, rfl⟩
              have HJ : Hid (j = q → X = T ∧ Y = K) := Lib.hid (fun e => by
                have := HX.out; rw [← e, hXY] at this; simpa using this)
              rw [hXY] at c0 c1
              clear hXY
              have i1 : IntKind.i64.wrap (k + 1) = k + 1 := by simp only [IntKind.wrap_i64]; omega
              by_cases e1 : X = T
              · by_cases e2 : Y = K
                · subst e1 e2
                  go_wp2_with fail
                  go_round
                  case rel => exact ⟨j + 1, k + 1, by omega, by go_num, rfl, by omega, by omega, Lib.hid (fun h => by omega)⟩
                  case measure => simp [intOf]; omega
                · subst e1
                  go_wp2_with fail
                  go_round
                  case rel => exact ⟨j + 1, k, by omega, by go_num, rfl, by omega, by omega, Lib.hid (fun h => HQ.out (lt_step h (fun e => e2 (HJ.out e).2)))⟩
                  case measure => simp [intOf]; omega
              · go_wp2_with fail
                go_round
                case rel => exact ⟨j + 1, k, by omega, by go_num, rfl, by omega, by omega, Lib.hid (fun h => HQ.out (lt_step h (fun e => e1 (HJ.out e).1)))⟩
                case measure => simp [intOf]; omega
            · have kp : 0 < k := HQ.out (by omega)
              have kn : ¬ k = 0 := by omega
              clear HQ
              go_wp2_with fail
              go_roundw
              case rel => exact ⟨i + 1, T, by omega, by go_num, rfl, by have := S2.out; rw [show L - (i + 1) = m by omega]; exact S2⟩
              case measure => simp [intOf]; omega
        · have FN : Hid (Calls Try.prog 10 #[.pointer (some ⟨w.heap.size, 0, none⟩), .bool false] wr fun e w' => e = .returned (.tuple #[.int .i64 0, .bool false]) ∧ wr = w') := by
            have := HS.out
            rw [show L - i = 0 by omega] at this
            exact Lib.hid this.fin
          have hbw := HS.out.below
          go_wp2_with (first
            | (go_at_call 10; (with_reducible refine (FN.out).mono ?_); rintro e w' ⟨rfl, rfl⟩)
            | (go_at_call 8; (with_reducible refine (AW.out _).mono ?_); rintro e w3 ⟨rfl, hb3⟩))
          go_ret
          exact ⟨rfl, below_then hbw hbw.size hb3⟩
    · obtain ⟨j, h1, h2, h3⟩ := first_bad (P := fun i => okE (l.getD i (0, 0))) L (Classical.byContradiction fun hn => hok fun i hi => Classical.byContradiction fun hno => hn ⟨i, hi, hno⟩)
      have NE := Lib.hid (new_evil l (.slice a L c) 0 w HE.out (by have := HL.out; omega) j (by have := HL.out; omega) h3 h2 (by decide) (by decide))
      clear hok h1 h2 h3
      go_enter Try.func3, Try.ntmps3
      go_wp2_with (first
        | (go_at_call 9; (with_reducible refine (NE.out).mono ?_); rintro e w1 ⟨rfl, hb1⟩)
        | (go_at_call 8; (with_reducible refine (AW.out _).mono ?_); rintro e w3 ⟨rfl, hb3⟩))
      go_ret
      exact ⟨rfl, below_then hb1 hb1.size hb3⟩
end Go.Proofs.Ythigimmlhgdchaa
