/- The walks of XcharEnds, XcharGarbage, XcharBack. -/
import Derived.Test.YtpkfkipnagajkaaDoorJ
namespace Go.Proofs.YtpkfkipnagajkaaDoor
set_option linter.unusedVariables false
set_option linter.unusedSimpArgs false
open Go.RowKit Go.Shelf

set_option maxHeartbeats 1000000 in
theorem lends_walk (v : Value) (l : List Int) (w : World) (hr : Rd w .u8 v l) (hb : Byt l) (hs : l.length ≤ 9223372036854775807) (hT : Tabs w) : Calls Tryd.prog 4 #[v] w fun e w' => e = .returned (.bool true) ∧ Below w.heap.size w w' := by
  have B := back_c v l w hr hb hs hT
  have R := fun w1 (h : Rd w1 .u8 v l) => rback_c v l w1 h hb hs
  have G := fun w1 (h : Rd w1 .u8 v l) (hT : Tabs w1) => pgar_c v l w1 h hb hs hT
  have GR := fun w1 (h : Rd w1 .u8 v l) => rgar_c v l w1 h hb hs
  have C := fun w1 (h : Rd w1 .u8 v l) => pcol_c v l w1 h hb hs
  have CR := fun w1 (h : Rd w1 .u8 v l) => rcol_c v l w1 h hb hs
  obtain ⟨n, hn⟩ : ∃ u, bkN l = u := ⟨_, rfl⟩
  obtain ⟨t, ht⟩ : ∃ u, bkT l = u := ⟨_, rfl⟩
  obtain ⟨g, hg⟩ : ∃ u : Int, (gar l l.length : Int) = u := ⟨_, rfl⟩
  obtain ⟨k, hk⟩ : ∃ u : Int, (colF l.length l : Int) = u := ⟨_, rfl⟩
  rw [hn, ht] at B R
  rw [hg] at G GR
  rw [hk] at C CR
  have hr0 := hr
  obtain ⟨a, c, rfl, hc, hcell⟩ := hr
  have HB := Lib.hid B
  have HR := Lib.hid R
  have HG := Lib.hid G
  have HGR := Lib.hid GR
  have HC := Lib.hid C
  have HCR := Lib.hid CR
  have H0 := Lib.hid hr0
  have HT := Lib.hid hT
  clear B R G GR C CR hn ht hg hk hcell hr0 hb hT
  go_enter Tryd.func4, Tryd.ntmps4
  by_cases h4 : (300 : Int) < l.length
  · go_wp2_with (go_at_call 7; refine (awake_c _).mono ?_; rintro e w3 ⟨rfl, hb3⟩)
    go_ret
    exact ⟨rfl, hb3⟩
  · go_wp2_with (first
      | (go_at_call 10; refine (HB.out).mono ?_; rintro e w1 ⟨rfl, hb1⟩)
      | (go_at_call 11; refine (HR.out _ (H0.out.below hb1)).mono ?_; rintro e w2 ⟨rfl, rfl⟩)
      | (go_at_call 12; refine (HG.out _ (H0.out.below hb1) (HT.out.below hb1)).mono ?_; rintro e w2 ⟨rfl, hb2⟩; have hb12 := below_then hb1 hb1.size hb2)
      | (go_at_call 13; refine (HGR.out _ (H0.out.below hb12)).mono ?_; rintro e w2 ⟨rfl, rfl⟩)
      | (go_at_call 14; refine (HC.out _ (H0.out.below hb12)).mono ?_; rintro e w3 ⟨rfl, hb3⟩; have hb13 := below_then hb12 hb12.size hb3)
      | (go_at_call 15; refine (HCR.out _ (H0.out.below hb13)).mono ?_; rintro e w2 ⟨rfl, rfl⟩)
      | (go_at_call 7; refine (awake_c _).mono ?_; rintro e w4 ⟨rfl, hb4⟩))
    go_ret
    exact ⟨rfl, below_then hb13 hb13.size hb4⟩
set_option maxHeartbeats 1000000 in
theorem lgarbage_walk (v : Value) (l : List Int) (w : World) (hr : Rd w .u8 v l) (hb : Byt l) (hs : l.length ≤ 9223372036854775807) (hT : Tabs w) : Calls Tryd.prog 5 #[v] w fun e w' => e = .returned (.bool true) ∧ Below w.heap.size w w' := by
  have G := pgar_c v l w hr hb hs hT
  have C := fun w1 (h : Rd w1 .u8 v l) => pcol_c v l w1 h hb hs
  have gl := gar_le l l.length
  have cl := colF_le l.length l
  have ga := gar_above l l.length
  have gt := gar_at l l.length
  obtain ⟨g, hg⟩ : ∃ u, gar l l.length = u := ⟨_, rfl⟩
  obtain ⟨k, hk⟩ : ∃ u, colF l.length l = u := ⟨_, rfl⟩
  rw [hg] at G gl ga gt
  rw [hk] at C cl
  have H0 := Lib.hid hr
  obtain ⟨a, c, rfl, hc, hcell⟩ := hr
  have B := fun (i : Nat) (h : i ≤ l.length) (w1 : World) (hw : Below w.heap.size w w1) => back_c (.slice a i c) (l.take i) w1 ((H0.out.below hw).take h) (fun x hx => hb x (List.mem_of_mem_take hx)) (by rw [List.length_take]; omega) (hT.below hw)
  have HB := Lib.hid B
  have HG := Lib.hid G
  have HC := Lib.hid C
  have HA := Lib.hid ga
  have HT := Lib.hid gt
  obtain ⟨L, hL⟩ : ∃ L, l.length = L := ⟨_, rfl⟩
  rw [hL] at hs hc gl cl
  have HL := Lib.hid hL
  clear B G C hg hk hcell hb hT ga gt
  rw [hL]
  clear hL
  go_enter Tryd.func5, Tryd.ntmps5
  by_cases h4 : (300 : Int) < L
  · go_wp2_with (go_at_call 7; refine (awake_c _).mono ?_; rintro e w3 ⟨rfl, hb3⟩)
    go_ret
    exact ⟨rfl, hb3⟩
  · have hGH : Hid (Calls Tryd.prog 12 #[.slice a L c] w fun e w' => e = .returned (.int .i64 g) ∧ Below w.heap.size w w') := by have := HG.out; rwa [HL.out] at this
    clear HG
    have g0 : ¬ ((g : Int) < 0) := by omega
    have g1 : ¬ ((L : Int) < (g : Int)) := by omega
    have d0 : decide ((g : Int) < 0) = false := decide_eq_false g0
    have d1 : decide (L < g) = false := decide_eq_false (by omega)
    go_wp2_with (go_at_call 12; with_reducible refine (hGH.out).mono ?_; rintro e w1 ⟨rfl, hb1⟩)
    go_loopw [4] (fun v wr => ∃ i : Nat, g + 1 ≤ i ∧ i ≤ L + 1 ∧ v = .int .i64 i ∧ Below w.heap.size w wr) (fun v _ => L + 1 - (intOf v).toNat)
    case atStart => exact ⟨g + 1, Nat.le_refl _, by omega, by go_num, hb1⟩
    case round =>
      obtain ⟨i, hi1, hi2, rfl, hbw⟩ := hrel
      by_cases hi : i ≤ L
      · have D := HB.out i (by have := HL.out; omega) wr hbw
        obtain ⟨n, hn⟩ : ∃ u, bkN (l.take i) = u := ⟨_, rfl⟩
        obtain ⟨t, ht⟩ : ∃ u, bkT (l.take i) = u := ⟨_, rfl⟩
        have htz : ¬ t = 0 := by rw [← ht]; exact HA.out i (by omega) (by have := HL.out; omega)
        rw [hn, ht] at D
        have HD := Lib.hid D
        have hB := beq_no htz
        clear D hn ht htz
        go_wp2_with (go_at_call 10; with_reducible refine (HD.out).mono ?_; rintro e w2 ⟨rfl, hb2⟩)
        go_roundw
        case rel => exact ⟨i + 1, by omega, by omega, by go_num, below_then hbw hbw.size hb2⟩
        case measure => simp [intOf]; omega
      · have D := HB.out g (by have := HL.out; omega) wr hbw
        obtain ⟨n, hn⟩ : ∃ u, bkN (l.take g) = u := ⟨_, rfl⟩
        obtain ⟨t, ht⟩ : ∃ u, bkT (l.take g) = u := ⟨_, rfl⟩
        have hC2 : Hid (∀ w1, Rd w1 .u8 (.slice a L c) l → Calls Tryd.prog 14 #[.slice a L c] w1 fun e w' => e = .returned (.int .i64 k) ∧ Below w1.heap.size w1 w') := by have := HC.out; rwa [HL.out] at this
        have hR2 : Hid (Rd w .u8 (.slice a L c) l) := by have := H0.out; rwa [HL.out] at this
        rw [hn, ht] at D
        have HD := Lib.hid D
        have ck : ¬ ((L : Int) < (k : Int)) := by omega
        by_cases hg : g = 0
        · subst hg
          have htz : t = -77 := by rw [← ht, List.take_zero]; exact bkT_nil
          subst htz
          clear D hn ht HC H0
          go_wp2_with (first
            | (go_at_call 10; with_reducible refine (HD.out).mono ?_; rintro e w2 ⟨rfl, hb2⟩; have hb12 := below_then hbw hbw.size hb2)
            | (go_at_call 14; refine (hC2.out _ (hR2.out.below hb12)).mono ?_; rintro e w3 ⟨rfl, hb3⟩; have hb13 := below_then hb12 hb12.size hb3)
            | (go_at_call 7; refine (awake_c _).mono ?_; rintro e w4 ⟨rfl, hb4⟩))
          go_ret
          exact ⟨rfl, below_then hb13 hb13.size hb4⟩
        · have htz : t = 0 := by rw [← ht]; exact HT.out hg
          subst htz
          have hg2 : (0 : Int) < (g : Int) := by omega
          clear D hn ht HC H0
          go_wp2_with (first
            | (go_at_call 10; with_reducible refine (HD.out).mono ?_; rintro e w2 ⟨rfl, hb2⟩; have hb12 := below_then hbw hbw.size hb2)
            | (go_at_call 14; refine (hC2.out _ (hR2.out.below hb12)).mono ?_; rintro e w3 ⟨rfl, hb3⟩; have hb13 := below_then hb12 hb12.size hb3)
            | (go_at_call 7; refine (awake_c _).mono ?_; rintro e w4 ⟨rfl, hb4⟩))
          go_ret
          exact ⟨rfl, below_then hb13 hb13.size hb4⟩
theorem info_u8 : (Tryd.prog.info? 5).map (fun i => (i.zero, i.size, i.bytes)) = some (some (.int .u8 0), 1, 1) := by kernel_rfl
theorem rd_form {w : World} {k : IntKind} {v : Value} {l : List Int} (h : Hid (Rd w k v l)) : ∃ a m c, v = .slice a m c ∧ Hid (l.length = m) := by
  obtain ⟨a, c, e, _, _⟩ := h.out
  exact ⟨a, _, c, e, Lib.hid rfl⟩
set_option maxHeartbeats 2000000 in
theorem lback_walk (u : Int) (v0 : Value) (l0 : List Int) (v1 : Value) (l1 : List Int) (w : World) (hr0 : Rd w .u8 v0 l0) (hb0 : Byt l0) (hr1 : Rd w .u8 v1 l1) (hb1 : Byt l1) (hs0 : l0.length ≤ 9223372036854775807) (hs1 : l1.length ≤ 9223372036854775807) (hT : Tabs w) : Calls Tryd.prog 6 #[.int .i64 u, v0, v1] w fun e w' => e = .returned (.bool true) ∧ Below w.heap.size w w' := by
  have E := encode_c u w
  have Wd := fun w => width_c u w
  have R0 := Lib.hid hr0
  have R1 := Lib.hid hr1
  have HB0 := Lib.hid hb0
  have HB1 := Lib.hid hb1
  have HT := Lib.hid hT
  obtain ⟨a0, c0, rfl, hc0, _⟩ := hr0
  obtain ⟨a1, c1, rfl, hc1, _⟩ := hr1
  by_cases h4 : (300 : Int) < l0.length ∨ (300 : Int) < l1.length
  · clear E Wd hb0 hb1 hT
    go_enter Tryd.func6, Tryd.ntmps6
    by_cases h5 : (300 : Int) < l0.length
    · go_wp2_with (go_at_call 7; refine (awake_c _).mono ?_; rintro e w3 ⟨rfl, hb3⟩)
      go_ret
      exact ⟨rfl, hb3⟩
    · have h6 : (300 : Int) < l1.length := by omega
      clear h4
      go_wp2_with (go_at_call 7; refine (awake_c _).mono ?_; rintro e w3 ⟨rfl, hb3⟩)
      go_ret
      exact ⟨rfl, hb3⟩
  · have k0 : ¬ (300 : Int) < l0.length := fun h => h4 (.inl h)
    have k1 : ¬ (300 : Int) < l1.length := fun h => h4 (.inr h)
    clear h4
    cases hc : isC u
    · have e1 : thr u = -77 := by unfold thr; rw [hc]; rfl
      have e2 : enc u = [] := by unfold enc; rw [hc]; rfl
      have e3 : wd u = 0 := by unfold wd; rw [hc]; rfl
      rw [e1, e2] at E
      rw [e3] at Wd
      have HE := Lib.hid E
      have HW := Lib.hid Wd
      clear E Wd hb0 hb1 hT e1 e2 e3 hc
      go_enter Tryd.func6, Tryd.ntmps6
      go_wp2_with (first
        | (go_at_call 16; with_reducible refine (HE.out).mono ?_; rintro e w1 ⟨x, rfl, hx, hbw1⟩; obtain ⟨ax, cx, rfl⟩ := hx.len)
        | (go_at_call 17; with_reducible refine (HW.out _).mono ?_; rintro e w2 ⟨rfl, rfl⟩)
        | (go_at_call 7; refine (awake_c _).mono ?_; rintro e w4 ⟨rfl, hb4⟩))
      go_ret
      exact ⟨rfl, below_then hbw1 hbw1.size hb4⟩
    · obtain ⟨n1, n4, m1, m2, m3, m4, m5, m6, m7⟩ := enc_all hc l0 l1
      have e1 : thr u = 0 := by unfold thr; rw [hc]; rfl
      have hE := enc_byt u
      rw [e1] at E
      rw [m7] at Wd
      obtain ⟨b, hb⟩ : ∃ b, enc u = b := ⟨_, rfl⟩
      rw [hb] at E n1 n4 m1 m2 m3 m4 m5 m6 Wd hE
      obtain ⟨n, hn⟩ : ∃ n, b.length = n := ⟨_, rfl⟩
      obtain ⟨y0, hy0⟩ : ∃ y, b.getD 0 0 = y := ⟨_, rfl⟩
      have hy : 0 ≤ y0 ∧ y0 < 256 := by rw [← hy0]; exact getD_byte b hE 0
      have bx : Byt (b ++ l1) := fun x hx => by
        rw [List.mem_append] at hx
        rcases hx with h | h
        · exact hE x h
        · exact hb1 x h
      have by0 : Byt (l0 ++ b) := fun x hx => by
        rw [List.mem_append] at hx
        rcases hx with h | h
        · exact hb0 x h
        · exact hE x h
      have D := fun v w (h : Rd w .u8 v (b ++ l1)) (hT : Tabs w) => decode_c v (b ++ l1) w h bx hT
      have K := fun v w (h : Rd w .u8 v (l0 ++ b)) (hT : Tabs w) => back_c v (l0 ++ b) w h by0 (by rw [List.length_append]; omega) hT
      have Gq := fun v w (h : Rd w .u8 v (l0 ++ b)) (hT : Tabs w) => pgar_c v (l0 ++ b) w h by0 (by rw [List.length_append]; omega) hT
      have S := fun w => size_c y0 hy.1 hy.2 w
      have Gm : ∀ (m : Nat), (l0 ++ b).length = m → ∀ v w, Rd w .u8 v (l0 ++ b) → Tabs w → Calls Tryd.prog 12 #[v] w fun e w' => e = .returned (.int .i64 (m : Int)) ∧ Below w.heap.size w w' := by
        intro m hm v w h hT
        have := Gq v w h hT
        rw [gar_whole _ m4, hm] at this
        exact this
      rw [m1, m2] at D
      rw [m3, m4] at K
      rw [hy0] at m5 m6
      rw [m5, m6] at S
      rw [hn] at D K S Wd n1 n4
      have HE := Lib.hid E
      have HD := Lib.hid D
      have HK := Lib.hid K
      have HG := Lib.hid Gm
      have HS := Lib.hid S
      have HW := Lib.hid Wd
      have HN := Lib.hid hn
      have HY := Lib.hid hy0
      have n1' : 0 < n := n1
      have nz : ¬ n = 0 := by omega
      have hl0 : l0.length ≤ 300 := by omega
      have hl1 : l1.length ≤ 300 := by omega
      have HBY := Lib.hid hE
      clear E D K Gq Gm S Wd hb hy0 hb0 hb1 hT e1 m1 m2 m3 m4 m5 m6 m7 bx by0 hc hE n1
      have FORM : ∀ (w1 : World) (x : Value), Rd w1 .u8 x b → ∃ g off cx, x = .slice (some ⟨g, off, none⟩) n cx ∧ Hid (Rd w1 .u8 (.slice (some ⟨g, off, none⟩) n cx) b) ∧ Hid (w1.cell? ⟨g, off, none⟩ = some (.int .u8 y0)) := by
        intro w1 x hx
        have hx2 := hx
        obtain ⟨a, c, e, _, h⟩ := hx
        rw [HN.out] at e
        rcases h with h | ⟨g, off, ea, hcl⟩
        · have := HN.out; rw [h] at this; simp at this; omega
        · subst ea
          subst e
          exact ⟨g, off, c, rfl, Lib.hid hx2, Lib.hid (by have := hcl 0 (by have := HN.out; omega); rwa [HY.out, Nat.add_zero] at this)⟩
      have HF := Lib.hid FORM
      clear FORM hn
      have g300 : n ≤ 4 := by omega
      go_enter Tryd.func6, Tryd.ntmps6
      go_wp2_with (first
        | (go_at_call 16; with_reducible refine (HE.out).mono ?_; rintro e w1 ⟨x, rfl, hx, hbw1⟩; obtain ⟨g, off, cx, rfl, hX2, HCB⟩ := HF.out _ _ hx; clear hx)
        | (at_builtin; refine wp_apps 22 5 (.int .u8 0) 1 Tryd.underlying22 info_u8 rfl w1.heap.size (.slice none 0 0) 0 [] rfl (.tmp 52) (.tmp 53) (by rfl) (by rfl) (World.ownsRow_nil _ _ _ _) (Nat.le_refl _) .u8 _ b (by rfl) hX2.out (by have := HN.out; omega) (by decide) ?_; intro v2 w2 hown2 hg2 _; have ho2 := Lib.hid hown2; have hb12 := grown_below hg2 (World.ownsRow_nil w1 w1.heap.size 5 1) (Nat.le_refl _); have hbw2 := below_then hbw1 hbw1.size hb12; clear hown2 hg2)
        | (at_builtin; refine wp_apps 22 5 (.int .u8 0) 1 Tryd.underlying22 info_u8 rfl w1.heap.size v2 (0 + b.length) ([] ++ b.map (.int .u8)) rfl (.tmp 54) (.tmp 55) (by rfl) (by rfl) ho2.out hb12.size .u8 _ l1 (by rfl) (R1.out.below hbw2) (by have := HN.out; omega) (by decide) ?_; intro v3 w3 hown3 hg3 _; have hb13 := hb12.trans (grown_below hg3 ho2.out hb12.size); have hbw3 := below_then hbw1 hbw1.size hb13; have hrx : Hid (Rd w3 .u8 v3 (b ++ l1)) := Lib.hid (by have := hown3; rw [List.nil_append, ← List.map_append] at this; exact Rd.of_own this); clear hown3 hg3)
        | (go_at_call 8; refine (HD.out _ _ hrx.out (HT.out.below hbw3)).mono ?_; rintro e w4 ⟨rfl, hb34⟩; have hbw4 := below_then hbw3 hbw3.size hb34; have hb14 := below_then hb13 hb13.size hb34)
        | (at_builtin; refine wp_apps 22 5 (.int .u8 0) 1 Tryd.underlying22 info_u8 rfl w4.heap.size (.slice none 0 0) 0 [] rfl (.tmp 63) (.tmp 64) (by rfl) (by rfl) (World.ownsRow_nil _ _ _ _) (Nat.le_refl _) .u8 _ l0 (by rfl) (R0.out.below hbw4) (by omega) (by decide) ?_; intro v5 w5 hown5 hg5 _; have hb45 := grown_below hg5 (World.ownsRow_nil w4 w4.heap.size 5 1) (Nat.le_refl _); have ho5 := Lib.hid hown5; clear hown5 hg5)
        | (at_builtin; refine wp_apps 22 5 (.int .u8 0) 1 Tryd.underlying22 info_u8 rfl w4.heap.size v5 (0 + l0.length) ([] ++ l0.map (.int .u8)) rfl (.tmp 65) (.tmp 66) (by rfl) (by rfl) ho5.out hb45.size .u8 _ b (by rfl) (hX2.out.below (below_then hb14 hb14.size hb45)) (by have := HN.out; omega) (by decide) ?_; intro v6 w6 hown6 hg6 _; have hb46 := hb45.trans (grown_below hg6 ho5.out hb45.size); have hbw6 := below_then hbw4 hbw4.size hb46; have hb16 := below_then hb14 hb14.size hb46; have hry : Hid (Rd w6 .u8 v6 (l0 ++ b)) := Lib.hid (by have := hown6; rw [List.nil_append, ← List.map_append] at this; exact Rd.of_own this); obtain ⟨a6, m6, c6, rfl, hm6⟩ := rd_form hry; clear hown6 hg6)
        | (go_at_call 10; refine (HK.out _ _ hry.out (HT.out.below hbw6)).mono ?_; rintro e w7 ⟨rfl, hb67⟩; have hbw7 := below_then hbw6 hbw6.size hb67; have hb17 := below_then hb16 hb16.size hb67; have hcell := cell_below hb17 HCB.out)
        | (go_at_call 18; refine (HS.out _).mono ?_; rintro e w8 ⟨rfl, rfl⟩)
        | (go_at_call 12; refine (HG.out _ hm6.out _ _ (hry.out.below hb67) (HT.out.below hbw7)).mono ?_; rintro e w9 ⟨rfl, hb79⟩; have hbw9 := below_then hbw7 hbw7.size hb79)
        | (go_at_call 17; with_reducible refine (HW.out _).mono ?_; rintro e w10 ⟨rfl, rfl⟩)
        | (go_at_call 7; refine (awake_c _).mono ?_; rintro e w11 ⟨rfl, hb11⟩))
      go_ret
      exact ⟨rfl, below_then hbw9 hbw9.size hb11⟩
end Go.Proofs.YtpkfkipnagajkaaDoor
