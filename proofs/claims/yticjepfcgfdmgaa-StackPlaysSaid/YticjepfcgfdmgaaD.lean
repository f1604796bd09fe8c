/- awake, and the law StackOwn. -/
import Derived.Test.YticjepfcgfdmgaaC
namespace Go.Proofs.Yticjepfcgfdmgaa
set_option linter.unusedVariables false
set_option linter.unusedSimpArgs false
open Go.RowKit

theorem Rd.of_alloc (w : World) (k : IntKind) (cs : List Int) (T : TypeId) : Rd (w.alloc (.cells (cs.map (Value.int k)).toArray T)) k (.slice (some ⟨w.heap.size, 0, none⟩) cs.length cs.length) cs := by
  refine ⟨_, _, rfl, Nat.le_refl _, .inr ⟨_, _, rfl, fun i hi => ?_⟩⟩
  simp [List.getElem?_eq_getElem hi, List.getD_eq_getElem?_getD, go_sem, hi]
theorem ownsRow_put {w : World} {B e g n c : Nat} {xs : List Value} (h : w.ownsRow B e 1 (.slice (some ⟨g, 0, none⟩) n c) n xs) (i : Nat) (x : Value) : (w.setCell ⟨g, i, none⟩ x).ownsRow B e 1 (.slice (some ⟨g, 0, none⟩) n c) n (xs.set i x) := by
  obtain ⟨h1, h2⟩ := h
  refine ⟨by rw [List.length_set]; exact h1, .inr ?_⟩
  rcases h2 with ⟨h2, _⟩ | ⟨g', cap, cur, hv, hb, hh, hn, hm, hs, ht⟩
  · cases h2
  · injection hv with e1 e2 e3
    injection e1 with e1
    injection e1 with e1
    subst e1 e3
    refine ⟨g, c, cur.setIfInBounds i x, rfl, hb, ?_, hn, hm, by simpa using hs, ?_⟩
    · simp [World.setCell, Array.getElem?_modify, hh]
    · rw [Array.toList_setIfInBounds, List.take_set, ht]
theorem ownsRow_cell {w : World} {B e g n c : Nat} {xs : List Value} (h : w.ownsRow B e 1 (.slice (some ⟨g, 0, none⟩) n c) n xs) {i : Nat} (hi : i < n) : (∃ u, w.cell? ⟨g, i, none⟩ = some u ∧ u ∈ xs) ∧ w.frozen? ⟨g, i, none⟩ = false := by
  have hc := h.cells (g := g) rfl
  have hl : xs.length = n := by simpa using h.1
  have := hc i xs[i] (List.getElem?_eq_getElem (by omega))
  have e1 : (⟨g, 0, none⟩ : Addr).add i = ⟨g, i, none⟩ := by
    unfold Addr.add
    by_cases hj0 : i = 0
    · subst hj0; simp
    · simp [hj0]
  rw [e1] at this
  refine ⟨⟨_, this, List.getElem_mem (by omega)⟩, ?_⟩
  rcases h.2 with ⟨h2, _⟩ | ⟨g', cap, cur, hv, hb, hh, _⟩
  · cases h2
  · injection hv with e1 e2 e3
    injection e1 with e1
    injection e1 with e1
    subst e1
    simp [World.frozen?, hh]
set_option maxHeartbeats 1000000 in
theorem awake_c (w : World) : Calls Try.prog 7 #[] w fun e w' => e = .returned (.bool true) ∧ Below w.heap.size w w' := by
  have N0 := Lib.hid (new_c 2 (-3) (-4) w (by decide) (by decide))
  have P1 := Lib.hid (fun (b : Nat) v B w (h : IStk w B b v [] 2 (-3) (-4)) hB => push_room b v [] 2 (-3) (-4) 1 B w h hB (by decide) (by decide))
  have P2 := Lib.hid (fun (b : Nat) v B w (h : IStk w B b v [.int .i64 1] 2 (-3) (-4)) hB => push_room b v [.int .i64 1] 2 (-3) (-4) 2 B w h hB (by decide) (by decide))
  have P3 := Lib.hid (fun (b : Nat) v B w (h : IStk w B b v [.int .i64 1, .int .i64 2] 2 (-3) (-4)) => push_full b v [.int .i64 1, .int .i64 2] 2 (-3) (-4) (.int .i64 3) B w h (by decide) (by decide) (by decide))
  have A1 := Lib.hid (fun (b : Nat) v B w (h : IStk w B b v [.int .i64 1, .int .i64 2] 2 (-3) (-4)) => all_c b v [1, 2] 2 (-3) (-4) B w h (by decide))
  have E1 := Lib.hid (fun v0 v1 w (h0 : Rd w .i64 v0 [1, 2]) (h1 : Rd w .i64 v1 [1, 2]) => same_c v0 v1 [1, 2] w h0 h1 (by decide))
  have AL := Lib.hid (fun w => Rd.of_alloc w .i64 [1, 2] 3)
  go_enter Try.func7, Try.ntmps7
  go_wp2_with (first
    | (go_at_call 8; (with_reducible refine (N0.out).mono ?_); rintro e w1 ⟨rfl, hs, hb1⟩; have S1 := Lib.hid (hs w.heap.size (Nat.le_refl _)); clear hs)
    | (go_at_call 9; (with_reducible refine (P1.out _ _ _ _ S1.out hb1.size).mono ?_); rintro e w2 ⟨rfl, v2, s2, f2, o2⟩; have hb2 := hb1.trans (f2.below S1.out hb1.size); have S2 : Hid (IStk w2 w.heap.size w.heap.size v2 [.int .i64 1] 2 (-3) (-4)) := Lib.hid s2; clear s2 f2 o2)
    | (go_at_call 9; (with_reducible refine (P2.out _ _ _ _ S2.out hb2.size).mono ?_); rintro e w3 ⟨rfl, v3, s3, f3, o3⟩; have hb3 := hb2.trans (f3.below S2.out hb2.size); have S3 : Hid (IStk w3 w.heap.size w.heap.size v3 [.int .i64 1, .int .i64 2] 2 (-3) (-4)) := Lib.hid s3; clear s3 f3 o3)
    | (go_at_call 9; (with_reducible refine (P3.out _ _ _ _ S3.out).mono ?_); rintro e w4 ⟨rfl, hb34⟩; have hb4 := below_then hb3 hb3.size hb34; have S4 := Lib.hid (Stk.below (S3.out) hb34))
    | (go_at_call 10; refine (A1.out _ _ _ _ S4.out).mono ?_; rintro e w5 ⟨u, rfl, ho5, hb45⟩; have hb5 := below_then hb4 hb4.size hb45; have R5 := Lib.hid (Rd.of_own ho5); clear ho5)
    | (go_at_call 11; refine (E1.out _ _ _ (R5.out.below ((Below.refl _ _).alloc (Nat.le_refl _) _)) (AL.out _)).mono ?_; rintro e w6 ⟨rfl, hb6⟩))
  go_ret
  exact ⟨rfl, below_then hb5 hb5.size (below_then ((Below.refl _ _).alloc (Nat.le_refl _) _) (by simp) hb6)⟩
theorem own_form {w : World} {B e : Nat} {v : Value} {n : Nat} {xs : List Value} (h : w.ownsRow B e 1 v n xs) : ∃ a c, v = .slice a n c ∧ n ≤ c ∧ (0 < n → ∃ g, a = some ⟨g, 0, none⟩ ∧ B ≤ g) := by
  rcases h.2 with ⟨rfl, rfl⟩ | ⟨g, c, cur, rfl, hb, _, hc, _⟩
  · exact ⟨_, _, rfl, Nat.le_refl _, fun h => absurd h (Nat.lt_irrefl _)⟩
  · exact ⟨_, _, rfl, hc, fun _ => ⟨g, rfl, hb⟩⟩
theorem take_map_succ (l : List Int) (i : Nat) (h : i < l.length) : (l.take i).map (Value.int .i64) ++ [.int .i64 (l.getD i 0)] = (l.take (i + 1)).map (Value.int .i64) := by
  rw [List.take_succ_eq_append_getElem h, List.map_append]
  simp [List.getD_eq_getElem?_getD, List.getElem?_eq_getElem h]
set_option maxHeartbeats 4000000 in
theorem lown_walk (v : Value) (l : List Int) (w : World) (hr : Rd w .i64 v l) : Calls Try.prog 3 #[v] w fun e w' => e = .returned (.bool true) ∧ Below w.heap.size w w' := by
  have HR := Lib.hid hr
  obtain ⟨a, c, rfl, hc, _⟩ := hr
  obtain ⟨L, hL⟩ : ∃ L, l.length = L := ⟨_, rfl⟩
  have HL := Lib.hid hL
  rw [hL] at HR hc ⊢
  clear hL
  by_cases h4 : (300 : Int) < L
  · go_enter Try.func3, Try.ntmps3
    go_wp2_with (go_at_call 7; refine (awake_c _).mono ?_; rintro e w3 ⟨rfl, hb3⟩)
    go_ret
    exact ⟨rfl, hb3⟩
  · have hl3 : L ≤ 300 := by omega
    have N0 := Lib.hid (new_c 1000 (-3) (-4) w (by decide) (by decide))
    have P1 := Lib.hid (fun (i : Nat) (hi : i < L) (B b : Nat) v w (h : IStk w B b v ((l.take i).map (.int .i64)) 1000 (-3) (-4)) (hB : B ≤ w.heap.size) => push_room b v ((l.take i).map (.int .i64)) 1000 (-3) (-4) (l.getD i 0) B w h hB (by decide) (by rw [List.length_map, List.length_take]; omega))
    have T1 := Lib.hid (fun i (h : i < L) => take_map_succ l i (by have := HL.out; omega))
    have T2 : Hid ((l.take L).map (Value.int .i64) = l.map (Value.int .i64)) := Lib.hid (by rw [← HL.out, List.take_length])
    have C1 := Lib.hid (fun i (hi : i < L) w1 (hw : Below w.heap.size w w1) => (HR.out.below hw).at_ (i := i) (by have := HL.out; omega))
    have A1 := Lib.hid (fun (B b : Nat) v w (h : IStk w B b v (l.map (.int .i64)) 1000 (-3) (-4)) => all_c b v l 1000 (-3) (-4) B w h (by have := HL.out; omega))
    have E1 := Lib.hid (fun v0 v1 w (h0 : Rd w .i64 v0 l) (h1 : Rd w .i64 v1 l) => same_c v0 v1 l w h0 h1 (by have := HL.out; omega))
    have AL := Lib.hid (fun w => Rd.of_alloc w .i64 [5, 5] 3)
    go_enter Try.func3, Try.ntmps3
    go_wp2_with (go_at_call 8; (with_reducible refine (N0.out).mono ?_); rintro e w1 ⟨rfl, hs, hb1⟩; have S1 := Lib.hid (hs w.heap.size (Nat.le_refl _)); clear hs)
    go_loopw [5] (fun x wr => ∃ (i : Nat) (u : Value), i ≤ L ∧ x = .int .i64 i ∧ Below w.heap.size w wr ∧ Hid (IStk wr w.heap.size w.heap.size u ((l.take i).map (.int .i64)) 1000 (-3) (-4))) (fun x _ => L - (intOf x).toNat)
    case atStart => exact ⟨0, _, Nat.zero_le _, rfl, hb1, S1⟩
    case round =>
      obtain ⟨i, u, hi, rfl, hbw, HS⟩ := hrel
      by_cases hlt : i < L
      · obtain ⟨g, off, rfl, hcell⟩ := C1.out i hlt _ hbw
        have PP := Lib.hid (P1.out i hlt _ _ _ _ HS.out hbw.size)
        have TT := Lib.hid (T1.out i hlt)
        obtain ⟨q, hq⟩ : ∃ q, l.getD i 0 = q := ⟨_, rfl⟩
        rw [hq] at hcell PP TT
        clear hq
        go_wp2_with (go_at_call 9; (with_reducible refine (PP.out).mono ?_); rintro e w2 ⟨rfl, v2, s2, f2, o2⟩; have hb2 := hbw.trans (f2.below HS.out hbw.size); have S2 := Lib.hid s2; clear s2 f2 o2)
        go_roundw
        case rel => exact ⟨i + 1, v2, by omega, by go_num, hb2, Lib.hid (by have := S2.out; rwa [TT.out] at this)⟩
        case measure => simp [intOf]; omega
      · have S3 : Hid (IStk wr w.heap.size w.heap.size u (l.map (.int .i64)) 1000 (-3) (-4)) := Lib.hid (by have := HS.out; rwa [show i = L by omega, T2.out] at this)
        have AA := Lib.hid (A1.out _ _ _ _ S3.out)
        obtain ⟨N, hN⟩ : ∃ N, wr.heap.size = N := ⟨_, rfl⟩
        have HN := Lib.hid hN
        rw [hN] at AA
        have hNB : w.heap.size ≤ N := by have := hbw.size; omega
        have HS4 := Lib.hid (fun w' (h : Below N wr w') => S3.out.below (by rw [HN.out]; exact h))
        have HR4 := Lib.hid (fun w' (h : Below N wr w') => HR.out.below (hbw.trans (h.mono hNB)))
        have HB4 := Lib.hid (fun w' (h : Below N wr w') => hbw.trans (h.mono hNB))
        clear HS hN
        go_wp2_with (go_at_call 10; refine (AA.out).mono ?_; rintro e w4 ⟨u4, rfl, ho4, hb4⟩; rw [HL.out] at ho4; obtain ⟨a4, c4, rfl, hc4, hg4⟩ := own_form ho4; have O4 := Lib.hid ho4; clear ho4)
        go_loopw [7] (fun x wz => ∃ (j : Nat) (xs : List Value), j ≤ L ∧ x = .int .i64 j ∧ Below N wr wz ∧ Hid (wz.ownsRow N 3 1 (.slice a4 L c4) L xs)) (fun x _ => L - (intOf x).toNat)
        case atStart => exact ⟨0, _, Nat.zero_le _, rfl, hb4, O4⟩
        case round =>
          obtain ⟨j, xs, hj, rfl, hbz, OZ⟩ := hrel
          by_cases hjl : j < L
          · obtain ⟨g, rfl, hgN⟩ := hg4 (by omega)
            obtain ⟨⟨y, hcell, _⟩, hfz⟩ := ownsRow_cell OZ.out hjl
            have OP := Lib.hid (ownsRow_put OZ.out j (.int .i64 (-7)))
            go_wp2
            go_roundw
            case rel => exact ⟨j + 1, _, by omega, by go_num, hbz.setCell hgN _, OP⟩
            case measure => simp [intOf]; omega
          · have hNz : N ≤ wr.heap.size := by have := hbz.size; have := HN.out; omega
            go_wp2_with (first
              | (at_builtin; go_loud (refine wp_apps 22 3 (.int .i64 0) 8 Try.underlying22 info_int rfl N (.slice a4 L c4) L xs rfl (.tmp 45) (.tmp 46) (by rfl) (by rfl) (OZ.out.alloc _) (by simp; omega) .i64 _ [5, 5] (by rfl) (AL.out _) (by simp; omega) (by decide) ?_); intro v5 w5 hown5 hg5 _; obtain ⟨a5, c5, rfl, hc5, _⟩ := own_form hown5; have hbz5 := (hbz.alloc hNz (.cells #[.int .i64 5, .int .i64 5] 3)).trans (grown_below hg5 (OZ.out.alloc _) (by simp; omega)); clear hown5 hg5)
              | (go_at_call 10; refine (A1.out _ _ _ _ (HS4.out _ hbz5)).mono ?_; rintro e w6 ⟨u6, rfl, ho6, hb6⟩; have R6 := Lib.hid (Rd.of_own ho6); have hb56 := hbz5.trans (hb6.mono (by have := hbz5.size; have := HN.out; omega)); clear ho6)
              | (go_at_call 11; refine (E1.out _ _ _ R6.out (HR4.out _ hb56)).mono ?_; rintro e w7 ⟨rfl, hb7⟩)
              | (go_at_call 7; refine (awake_c _).mono ?_; rintro e w8 ⟨rfl, hb8⟩))
            go_ret
            exact ⟨rfl, below_then (HB4.out _ hb56) (HB4.out _ hb56).size (below_then hb7 hb7.size hb8)⟩
end Go.Proofs.Yticjepfcgfdmgaa
