/- The words of numbers: Compare, Add, Sub of the reference. -/
import Derived.Test.YtecgkhijiogggaaU0
namespace Go.Proofs.Ytecgkhijiogggaa
set_option linter.unusedVariables false
set_option linter.unusedSimpArgs false
open Go.RowKit Go.ChangeShapes Go.WideShapes SF

theorem cmpN_lt {A B : Nat} (h : A < B) : cmpI (A : Int) (B : Int) = -1 := by unfold cmpI; rw [if_pos (by omega)]
theorem cmpN_gt {A B : Nat} (h : B < A) : cmpI (A : Int) (B : Int) = 1 := by unfold cmpI; rw [if_neg (by omega), if_pos (by omega)]
theorem cmpN_eq {A B : Nat} (h : A = B) : cmpI (A : Int) (B : Int) = 0 := by unfold cmpI; rw [if_neg (by omega), if_neg (by omega)]
theorem ws_len_nw {l : List Int} (hw : Words l) {n : Nat} (h : n = l.length) (hn : n ≤ 100000000) : (ws (wv l)).length ≤ 100000000 := by
  have := ws_len_le (len_bound hw); omega
set_option maxRecDepth 100000 in
set_option maxHeartbeats 1000000 in
theorem rncmp_c (a : Option Addr) (n c : Nat) (la : List Int) (b : Option Addr) (m d : Nat) (lb : List Int) (w : World) (ha : Rd w .u32 (.slice a n c) la) (wa : Words la) (hn : n ≤ 100000000) (hb : Rd w .u32 (.slice b m d) lb) (wb : Words lb) (hm : m ≤ 100000000) :
    Calls Try.prog 81 #[.slice a n c, .slice b m d] w fun e w' => e = .returned (.int .i64 (cmpI (wv la : Int) (wv lb : Int))) ∧ Below w.heap.size w w' := by
  have HA := Lib.hid (rtrim_c a n c la w ha wa (by omega))
  have HB := Lib.hid (rtrim_c b m d lb w hb wb (by omega))
  have ka := ws_len_nw wa ha.parts.1 hn
  have kb := ws_len_nw wb hb.parts.1 hm
  obtain ⟨A, hA⟩ : ∃ A, wv la = A := ⟨_, rfl⟩
  obtain ⟨B, hB⟩ : ∃ B, wv lb = B := ⟨_, rfl⟩
  rw [hA] at HA ka ⊢
  rw [hB] at HB kb ⊢
  clear hA hB ha hb wa wb
  obtain ⟨LA, hLA⟩ : ∃ x, (ws A).length = x := ⟨_, rfl⟩
  obtain ⟨LB, hLB⟩ : ∃ x, (ws B).length = x := ⟨_, rfl⟩
  rw [hLA] at HA ka
  rw [hLB] at HB kb
  by_cases hl : LA = LB
  · subst hl
    have HD := Lib.hid (fun p (h : p < LA) (e : (ws A).drop (p + 1) = (ws B).drop (p + 1)) (g : (ws A).getD p 0 < (ws B).getD p 0) => by
      have := cmp_lt (words_ws A) (words_ws B) (by omega) (by omega) e g
      rw [wv_ws, wv_ws] at this; exact cmpN_lt this)
    have HE := Lib.hid (fun p (h : p < LA) (e : (ws A).drop (p + 1) = (ws B).drop (p + 1)) (g : (ws B).getD p 0 < (ws A).getD p 0) => by
      have := cmp_lt (words_ws B) (words_ws A) (by omega) (by omega) e.symm g
      rw [wv_ws, wv_ws] at this; exact cmpN_gt this)
    have HS := Lib.hid (fun p (h : p < LA) (e : (ws A).drop (p + 1) = (ws B).drop (p + 1)) (g : (ws A).getD p 0 = (ws B).getD p 0) => cmp_step (by omega) (by omega) e g)
    have HZ := Lib.hid (show (ws A).drop LA = (ws B).drop LA by rw [List.drop_of_length_le (by omega), List.drop_of_length_le (by omega)])
    have HQ := Lib.hid (show (ws A).drop 0 = (ws B).drop 0 → cmpI (A : Int) (B : Int) = 0 from fun h => by
      rw [List.drop_zero, List.drop_zero] at h
      have := congrArg wv h
      rw [wv_ws, wv_ws] at this; exact cmpN_eq this)
    obtain ⟨R, hR⟩ : ∃ R, cmpI (A : Int) (B : Int) = R := ⟨_, rfl⟩
    rw [hR] at HD HE HQ ⊢
    clear hLA hLB hR
    go_enter Try.func81, Try.ntmps81
    go_wp2_with (first
      | (go_at_call 110; (with_reducible refine (HA.out).mono ?_); rintro e1 w1 ⟨rfl, hva, rfl⟩)
      | (go_at_call 110; (with_reducible refine (HB.out).mono ?_); rintro e1 w1 ⟨rfl, hvb, rfl⟩))
    go_loopw [5] (fun v5 wr => ∃ p k : Nat, p ≤ LA ∧ v5 = .int .i64 ((p : Int) - 1) ∧ Hid ((ws A).drop p = (ws B).drop p) ∧ wr = w.drewN k) (fun v5 _ => (intOf v5 + 1).toNat)
    case atStart => exact ⟨LA, 0, Nat.le_refl _, rfl, HZ, rfl⟩
    case round =>
      obtain ⟨p, k, hp, rfl, HP, rfl⟩ := hrel
      cases p with
      | zero =>
        have e := HQ.out HP.out
        subst e
        clear HD HE HS HQ
        go_wp2
        go_ret
        exact ⟨rfl, below_drewN (Below.refl _ _) _⟩
      | succ q =>
        obtain ⟨g, off, rfl, hca⟩ := hva.addr (by omega)
        obtain ⟨g', off', rfl, hcb⟩ := hvb.addr (by omega)
        have hqa : q < LA := by omega
        have pa := hca q (by omega)
        have pb := hcb q (by omega)
        have hD := HD.out q (by omega) HP.out
        have hE := HE.out q (by omega) HP.out
        have hS := HS.out q (by omega) HP.out
        clear hca hcb
        obtain ⟨x, hx⟩ : ∃ x, (ws A).getD q 0 = x := ⟨_, rfl⟩
        obtain ⟨y, hy⟩ : ∃ y, (ws B).getD q 0 = y := ⟨_, rfl⟩
        rw [hx] at pa hD hE hS
        rw [hy] at pb hD hE hS
        clear hx hy
        by_cases exy : x = y
        · have z := bne_of exy
          have H := Lib.hid (hS exy)
          clear hD hE hS exy
          go_wp2
          go_quiet (fail)
          go_wp2
          go_roundw
          case rel => exact ⟨q, _, by omega, by go_num, H, rfl⟩
          case measure => simp [intOf]
        · have z := bne_no exy
          by_cases lt : x < y
          · have t : decide (x < y) = true := by simpa using lt
            have e := hD lt
            subst e
            clear hD hE hS exy
            go_wp2
            go_quiet (fail)
            go_wp2
            go_quiet (fail)
            go_wp2
            go_ret
            exact ⟨rfl, below_drewN (below_drewN (below_drewN (Below.refl _ _) _) _) _⟩
          · have t : decide (x < y) = false := by simpa using lt
            have e := hE (by omega)
            subst e
            clear hD hE hS exy
            go_wp2
            go_quiet (fail)
            go_wp2
            go_quiet (fail)
            go_wp2
            go_ret
            exact ⟨rfl, below_drewN (below_drewN (below_drewN (Below.refl _ _) _) _) _⟩
  · have HR : Hid (cmpI (A : Int) (B : Int) = if LA < LB then -1 else 1) := by
      by_cases h : LA < LB
      · rw [if_pos h]; exact cmpN_lt (len_lt (by omega))
      · rw [if_neg h]; exact cmpN_gt (len_lt (by omega))
    clear hLA hLB
    by_cases h : LA < LB
    · rw [if_pos h] at HR
      rw [HR.out]
      go_enter Try.func81, Try.ntmps81
      go_wp2_with (first
        | (go_at_call 110; (with_reducible refine (HA.out).mono ?_); rintro e1 w1 ⟨rfl, hva, rfl⟩)
        | (go_at_call 110; (with_reducible refine (HB.out).mono ?_); rintro e1 w1 ⟨rfl, hvb, rfl⟩))
      go_ret
      exact ⟨rfl, Below.refl _ _⟩
    · rw [if_neg h] at HR
      rw [HR.out]
      go_enter Try.func81, Try.ntmps81
      go_wp2_with (first
        | (go_at_call 110; (with_reducible refine (HA.out).mono ?_); rintro e1 w1 ⟨rfl, hva, rfl⟩)
        | (go_at_call 110; (with_reducible refine (HB.out).mono ?_); rintro e1 w1 ⟨rfl, hvb, rfl⟩))
      go_ret
      exact ⟨rfl, Below.refl _ _⟩
/-- A sum on its way. -/
def AddInv (la lb : List Int) (k : Nat) (o : List Int) (c : Int) : Prop := o.length = k ∧ Words o ∧ 0 ≤ c ∧ c ≤ 1 ∧ (wv o : Int) + Q k * c = wv (la.take k) + wv (lb.take k)
theorem addInv_zero (la lb : List Int) : AddInv la lb 0 [] 0 := ⟨rfl, words_nil, by decide, by decide, by rw [List.take_zero, List.take_zero, wi_nil]; simp⟩
theorem addInv_next {la lb o : List Int} {k : Nat} {c t : Int} (wa : Words la) (wb : Words lb) (I : AddInv la lb k o c) (ht : t = c + la.getD k 0 + lb.getD k 0) : AddInv la lb (k + 1) (o ++ [t % 4294967296]) (t / 4294967296) := by
  obtain ⟨h1, h2, h3, h4, h5⟩ := I
  have g0 := getD_word wa k
  have g1 := getD_word wb k
  exact ⟨by simp [h1], words_snoc h2 (by omega) (by omega), by omega, by omega, add_step wa wb h1 h5 ht h3⟩
theorem addInv_end {la lb o : List Int} {k : Nat} {c : Int} (I : AddInv la lb k o c) (ha : la.length ≤ k) (hb : lb.length ≤ k) : Words (o ++ [c]) ∧ wv (o ++ [c]) = wv la + wv lb := by
  obtain ⟨h1, h2, h3, h4, h5⟩ := I
  refine ⟨words_snoc h2 h3 (by omega), ?_⟩
  have e := wi_snoc h3 o
  rw [h1] at e
  rw [List.take_of_length_le ha, List.take_of_length_le hb] at h5
  omega
theorem own_rd {w : World} {B : Nat} {v : Value} {n : Nat} {l : List Int} (h : w.ownsRow B 35 1 v n (l.map (Value.int .u32))) : Rd w .u32 v l := Rd.of_own h
set_option maxRecDepth 100000 in
set_option maxHeartbeats 2000000 in
theorem radd_c (a : Option Addr) (n c : Nat) (la : List Int) (b : Option Addr) (m d : Nat) (lb : List Int) (w : World) (ha : Rd w .u32 (.slice a n c) la) (wa : Words la) (hn : n ≤ 1000000) (hb : Rd w .u32 (.slice b m d) lb) (wb : Words lb) (hm : m ≤ 1000000) :
    Calls Try.prog 82 #[.slice a n c, .slice b m d] w fun e w' => ∃ v, e = .returned v ∧ Nw w' v (wv la + wv lb) ∧ Below w.heap.size w w' := by
  have na := ha.parts.1
  have nb := hb.parts.1
  have HN := Lib.hid (fun (k : Nat) (o : List Int) (c t : Int) (I : AddInv la lb k o c) => addInv_next (t := t) wa wb I)
  have HE := Lib.hid (fun (k : Nat) (o : List Int) (c : Int) (I : AddInv la lb k o c) (h1 : n ≤ k) (h2 : m ≤ k) => addInv_end I (by omega) (by omega))
  have GA := Lib.hid (fun k => getD_word wa k)
  have GB := Lib.hid (fun k => getD_word wb k)
  have ZA := Lib.hid (fun (k : Nat) (h : n ≤ k) => @getD0 la k (by omega))
  have ZB := Lib.hid (fun (k : Nat) (h : m ≤ k) => @getD0 lb k (by omega))
  have HA := Lib.hid (fun (k : Nat) (h : k < n) => show ∃ g off, a = some ⟨g, off, none⟩ ∧ w.cell? ⟨g, off + k, none⟩ = some (.int .u32 (la.getD k 0)) by
    obtain ⟨g, off, e, hc⟩ := ha.addr (by omega); exact ⟨g, off, e, hc k h⟩)
  have HB := Lib.hid (fun (k : Nat) (h : k < m) => show ∃ g off, b = some ⟨g, off, none⟩ ∧ w.cell? ⟨g, off + k, none⟩ = some (.int .u32 (lb.getD k 0)) by
    obtain ⟨g, off, e, hc⟩ := hb.addr (by omega); exact ⟨g, off, e, hc k h⟩)
  have I0 := Lib.hid (addInv_zero la lb)
  have wcap := ha.parts.2.1
  have wcap2 := hb.parts.2.1
  clear na nb ha hb wa wb
  go_enter Try.func82, Try.ntmps82
  go_wp2
  go_loopw [5, 6, 7] (fun v5 v6 v7 wr => ∃ (k : Nat) (z : Int) (o : List Int) (a2 : Option Addr) (c2 : Nat), k ≤ 1000000 ∧ 0 ≤ z ∧ z ≤ 1 ∧ v5 = .slice a2 k c2 ∧ v6 = .int .u64 z ∧ v7 = .int .i64 k ∧ Below w.heap.size w wr ∧ Hid (wr.ownsRow w.heap.size 35 1 (.slice a2 k c2) k (o.map (Value.int .u32)) ∧ AddInv la lb k o z))
    (fun _ _ v7 _ => 1000000 - (intOf v7).toNat)
  case atStart => exact ⟨0, 0, [], none, 0, by omega, by decide, by decide, rfl, rfl, rfl, Below.refl _ _, World.ownsRow_nil _ _ _ _, I0.out⟩
  case round =>
    obtain ⟨k, z, o, a2, c2, hk, z0, z1, rfl, rfl, rfl, hbw, HO⟩ := hrel
    have ga := GA.out k
    have gb := GB.out k
    have za := ZA.out k
    have zb := ZB.out k
    have HX := Lib.hid (fun t => HN.out k o z t HO.out.2)
    by_cases ka : k < n
    · obtain ⟨g, off, rfl, ca⟩ := HA.out k ka
      have ca' := cell_below hbw ca
      obtain ⟨x, hx⟩ : ∃ x, la.getD k 0 = x := ⟨_, rfl⟩
      rw [hx] at ca' ga HX
      clear hx ca za
      by_cases kb : k < m
      · obtain ⟨g', off', rfl, cb⟩ := HB.out k kb
        have cb' := cell_below hbw cb
        obtain ⟨y, hy⟩ : ∃ y, lb.getD k 0 = y := ⟨_, rfl⟩
        rw [hy] at cb' gb HX
        clear hy cb zb
        go_wp2_with (at_builtin; go_loud (refine wp_app 41 35 (.int .u32 0) 4 Try.underlying41 info_u32 rfl w.heap.size (.slice a2 k c2) k _ (.int .u32 ((z + x + y) % 4294967296)) wr _ rfl (by rfl) (.tmp 42) (.tmp 45) (by rfl) (by rfl) (by rfl) HO.out.1 hbw.size rfl (by omega) (by decide) ?_); intro v' w' hown hbel)
        obtain ⟨a', c', rfl⟩ := ownsRow_slice hown
        have H := Lib.hid hown
        clear hown
        go_wp2
        go_roundw
        case rel =>
          have N := HX.out _ rfl
          refine ⟨k + 1, _, o ++ [(z + x + y) % 4294967296], a', c', by omega, N.2.2.1, N.2.2.2.1, rfl, rfl, by go_num, hbw.trans hbel, ?_, N⟩
          have := H.out
          rw [List.map_append]
          exact this
        case measure => simp [intOf]; omega
      · have zb := zb (by omega)
        rw [zb] at HX
        clear gb zb
        go_wp2_with (at_builtin; go_loud (refine wp_app 41 35 (.int .u32 0) 4 Try.underlying41 info_u32 rfl w.heap.size (.slice a2 k c2) k _ (.int .u32 ((z + x) % 4294967296)) wr _ rfl (by rfl) (.tmp 42) (.tmp 45) (by rfl) (by rfl) (by rfl) HO.out.1 hbw.size rfl (by omega) (by decide) ?_); intro v' w' hown hbel)
        obtain ⟨a', c', rfl⟩ := ownsRow_slice hown
        have H := Lib.hid hown
        clear hown
        go_wp2
        go_roundw
        case rel =>
          have N := HX.out (z + x) (by omega)
          refine ⟨k + 1, _, o ++ [(z + x) % 4294967296], a', c', by omega, N.2.2.1, N.2.2.2.1, rfl, rfl, by go_num, hbw.trans hbel, ?_, N⟩
          have := H.out
          rw [List.map_append]
          exact this
        case measure => simp [intOf]; omega
    · have za := za (by omega)
      rw [za] at HX
      clear ga za
      by_cases kb : k < m
      · obtain ⟨g', off', rfl, cb⟩ := HB.out k kb
        have cb' := cell_below hbw cb
        obtain ⟨y, hy⟩ : ∃ y, lb.getD k 0 = y := ⟨_, rfl⟩
        rw [hy] at cb' gb HX
        clear hy cb zb
        go_wp2_with (at_builtin; go_loud (refine wp_app 41 35 (.int .u32 0) 4 Try.underlying41 info_u32 rfl w.heap.size (.slice a2 k c2) k _ (.int .u32 ((z + y) % 4294967296)) wr _ rfl (by rfl) (.tmp 42) (.tmp 45) (by rfl) (by rfl) (by rfl) HO.out.1 hbw.size rfl (by omega) (by decide) ?_); intro v' w' hown hbel)
        obtain ⟨a', c', rfl⟩ := ownsRow_slice hown
        have H := Lib.hid hown
        clear hown
        go_wp2
        go_roundw
        case rel =>
          have N := HX.out (z + y) (by omega)
          refine ⟨k + 1, _, o ++ [(z + y) % 4294967296], a', c', by omega, N.2.2.1, N.2.2.2.1, rfl, rfl, by go_num, hbw.trans hbel, ?_, N⟩
          have := H.out
          rw [List.map_append]
          exact this
        case measure => simp [intOf]; omega
      · have E := HE.out k o z HO.out.2 (by omega) (by omega)
        have HW := Lib.hid E
        clear gb zb E HX
        go_wp2_with (first
          | (at_builtin; go_loud (refine wp_app 41 35 (.int .u32 0) 4 Try.underlying41 info_u32 rfl w.heap.size (.slice a2 k c2) k _ (.int .u32 z) wr _ rfl (by rfl) (.tmp 49) (.tmp 52) (by rfl) (by rfl) (by rfl) HO.out.1 hbw.size rfl (by omega) (by decide) ?_); intro v' w' hown hbel; obtain ⟨a', c', rfl⟩ := ownsRow_slice hown; have H := Lib.hid hown; clear hown)
          | (go_at_call 106; refine (rnorm_c _ _ _ (o ++ [z]) _ (own_rd (by rw [List.map_append]; exact H.out)) HW.out.1 (by omega)).mono ?_; rintro e1 w1 ⟨v, rfl, hv, hb1⟩))
        go_ret
        exact ⟨v, rfl, by rw [HW.out.2] at hv; exact hv, below_then (hbw.trans hbel) (hbw.trans hbel).size hb1⟩
end Go.Proofs.Ytecgkhijiogggaa
