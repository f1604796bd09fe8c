/- The reference's New, any good list. -/
import Derived.Test.YthigimmlhgdchaaAA
namespace Go.Proofs.Ythigimmlhgdchaa
set_option linter.unusedVariables false
set_option linter.unusedSimpArgs false
open Go.RowKit

theorem clk_grown2 {T : TypeId} {e b : Nat} {s n : Int} {w0 W w1 : World} {v v' : Value} {m k : Nat} {xs ys : List Value} (hC : Clk T w0 b s n v) (hR : w0.ownsRow (b + 1) e 2 v m xs) (hW : Below w0.heap.size w0 W)
    (h1 : w1.ownsRow (b + 1) e 2 v' k ys) (hg : W.grownBy w1 v.ownBlock) :
    w1.cell? ⟨b, 2, none⟩ = some v ∧ w1.frozen? ⟨b, 2, none⟩ = false ∧ Clk T (w1.setCell ⟨b, 2, none⟩ v') b s n v' ∧ (w1.setCell ⟨b, 2, none⟩ v').ownsRow (b + 1) e 2 v' k ys ∧ (∀ w, w.heap.size ≤ b → Below w.heap.size w w0 → Below w.heap.size w (w1.setCell ⟨b, 2, none⟩ v')) := by
  have hCW := hC.below hW
  have hne : v.ownBlock ≠ some b := fun h => by have := (ownsRow_base hR b h).1; omega
  have hC1 : Clk T w1 b s n v := hCW.same (hg.block b hCW.lt (fun h => hne h.symm))
  refine ⟨hC1.c2, hC1.fz 2, hC1.set2 v', ?_, ?_⟩
  · exact ownsRow_same h1 (fun g hg' => Below.heap_setCell _ _ _ _ (by have := (ownsRow_base h1 g hg').1; show g ≠ b; omega))
  · intro w hw hb
    have hs : w.heap.size ≤ w0.heap.size := hb.size
    have b1 : Below w.heap.size w W := below_then hb hs hW
    have b2 : Below w.heap.size w w1 := b1.grown hg (Nat.le_trans hs hW.size) (fun k hk => by have := (ownsRow_base hR k hk).1; omega)
    exact b2.setCell hw _
theorem row_form2 {w : World} {B e k n : Nat} {v : Value} {xs : List Value} (h : w.ownsRow B e k v (n + 1) xs) : ∃ g c, v = .slice (some ⟨g, 0, none⟩) (n + 1) c ∧ B ≤ g ∧ g < w.heap.size := by
  rcases h.2 with ⟨_, h0⟩ | ⟨g, c, cur, rfl, hb, hh, _⟩
  · omega
  · refine ⟨g, c, rfl, hb, ?_⟩
    rcases Nat.lt_or_ge g w.heap.size with hlt | hge
    · exact hlt
    · rw [Array.getElem?_eq_none hge] at hh; cases hh
/-- Where the new event stands among the others. -/
def Ins (R C : List Ev) (x : Ev) (k : Nat) : Prop := ∃ A B, C = A ++ x :: B ∧ R = A ++ B ∧ A.length = k ∧ ∀ y ∈ B, x.1 < y.1
/-- What New answers: all taken, or refused. -/
def RNew (w : World) (s : Int) (l : List (Int × Int)) (j : Nat) (e : Ending) (w' : World) : Prop :=
  (j = l.length ∧ e = .returned (.tuple #[.pointer (some ⟨w.heap.size, 0, none⟩), .int .i64 0]) ∧ ∃ v' R, Clk 49 w' w.heap.size s 0 v' ∧ Rx w' (w.heap.size + 1) v' R ∧ SortedE R ∧ R.Perm (ev3 l) ∧ Below w.heap.size w w') ∨ (j < l.length ∧ e = .returned (.tuple #[.pointer none, .int .i64 1]) ∧ Below w.heap.size w w')
set_option maxRecDepth 100000 in
set_option maxHeartbeats 16000000 in
theorem rnew_any (l : List (Int × Int)) (v : Value) (s : Int) (w : World) (hv : Evs w v l) (hl : l.length ≤ 2000) (j : Nat) (hj : j ≤ l.length) (hok : ∀ i, i < j → okE (l.getD i (0, 0))) (hno : j < l.length → ¬ okE (l.getD j (0, 0))) (s0 : 0 ≤ s) (s1 : s ≤ 8589934592) :
    Calls Try.prog 13 #[.int .i64 s, v] w (RNew w s l j) := by
  have HE := Lib.hid hv
  obtain ⟨a, c, rfl, hc, hr⟩ := hv
  obtain ⟨L, hL⟩ : ∃ L, l.length = L := ⟨_, rfl⟩
  rw [hL] at hc hl hj hno
  have HL := Lib.hid hL
  have HO := Lib.hid hok
  have HX := Lib.hid hno
  have HR := Lib.hid hr
  rw [hL]
  clear hL hr hok hno
  go_enter Try.func13, Try.ntmps13
  go_wp2_with fail
  go_loopw [7] (fun x7 wx => ∃ i : Nat, i ≤ j ∧ x7 = .int .i64 i ∧ ∃ v' R, Clk 49 wx w.heap.size s 0 v' ∧ Hid (Rx wx (w.heap.size + 1) v' R ∧ SortedE R ∧ R.Perm (ev3 (l.take i))) ∧ Below w.heap.size w wx) (fun x7 _ => L - (intOf x7).toNat)
  case atStart => exact ⟨0, Nat.zero_le _, rfl, .slice none 0 0, [], heap_alloc_new w _, Lib.hid ⟨World.ownsRow_nil _ _ _ _, List.Pairwise.nil, by simp [ev3]⟩, (Below.refl _ _).alloc (Nat.le_refl _) _⟩
  case round =>
    obtain ⟨i, hi, rfl, v', R, hC, hR, hB⟩ := hrel
    by_cases hij : i < j
    · have hiL : i < L := by omega
      obtain ⟨g, off, rfl, hcell⟩ : ∃ g off, a = some ⟨g, off, none⟩ ∧ ∀ i, i < l.length → w.cell? ⟨g, off + i * 2, none⟩ = some (.int .i64 (l.getD i (0, 0)).1) ∧ w.cell? ⟨g, off + i * 2 + 1, none⟩ = some (.int .i64 (l.getD i (0, 0)).2) := by
        rcases HR.out with h | h
        · have := HL.out; rw [h] at this; simp at this; omega
        · exact h
      obtain ⟨T, hT⟩ : ∃ T, (l.getD i (0, 0)).1 = T := ⟨_, rfl⟩
      obtain ⟨C, hCC⟩ : ∃ C, (l.getD i (0, 0)).2 = C := ⟨_, rfl⟩
      have k := hcell i (by have := HL.out; omega)
      have k0 := cell_below hB k.1
      have k1 := cell_below hB k.2
      rw [hT] at k0
      rw [hCC] at k1
      clear hcell k
      have hk : okE (T, C) := by
        have := HO.out i hij
        rw [← hT, ← hCC]; exact this
      have ET : Hid (ev3 (l.take (i + 1)) = ev3 (l.take i) ++ [(T, C, (i : Int))]) := Lib.hid (by rw [ev3_take (by have := HL.out; omega), hT, hCC])
      have RL : Hid (R.length = i) := Lib.hid (by rw [hR.out.2.2.length_eq]; simp [ev3]; have := HL.out; omega)
      have t0 : 0 ≤ T := hk.1
      have t1 : T ≤ 1099511627776 := hk.2.1
      have IS := Lib.hid (fun w => rchar_c C w)
      have c2' := hC.c2
      have bA : Below wr.heap.size wr (wr.alloc (.cells #[.int .i64 T, .int .i64 C] 32)) := (Below.refl _ _).alloc (Nat.le_refl _) _
      have bB : Below wr.heap.size wr ((wr.alloc (.cells #[.int .i64 T, .int .i64 C] 32)).alloc (.cells #[.int .i64 T, .int .i64 C] 32)) := bA.alloc (by simp) _
      have c2a := (hC.below bA).c2
      have c2b := (hC.below bB).c2
      obtain ⟨i0, z0, hi0, hz0, hz1, hz2, hz3⟩ := info_api
      have hRx := hR.out.1
      unfold Rx at hRx
      rw [RL.out] at hRx
      have OW : Hid ((((wr.alloc (.cells #[.int .i64 T, .int .i64 C] 32)).alloc (.cells #[.int .i64 T, .int .i64 C] 32)).drew).ownsRow (w.heap.size + 1) 32 2 v' i (c2 R)) :=
        Lib.hid ((hRx.alloc _).alloc _)
      have FIN : Hid (∀ v'' w1, w1.ownsRow (w.heap.size + 1) 32 2 v'' (i + 1) (c2 R ++ [.int .i64 T, .int .i64 C]) → (((wr.alloc (.cells #[.int .i64 T, .int .i64 C] 32)).alloc (.cells #[.int .i64 T, .int .i64 C] 32)).drew).grownBy w1 v'.ownBlock →
          w1.cell? ⟨w.heap.size, 2, none⟩ = some v' ∧ w1.frozen? ⟨w.heap.size, 2, none⟩ = false ∧ ((w1.setCell ⟨w.heap.size, 2, none⟩ v'').cell? ⟨w.heap.size, 2, none⟩ = some v'') ∧ Hid (Clk 49 (w1.setCell ⟨w.heap.size, 2, none⟩ v'') w.heap.size s 0 v'' ∧ (w1.setCell ⟨w.heap.size, 2, none⟩ v'').ownsRow (w.heap.size + 1) 32 2 v'' (i + 1) (c2 (R ++ [(T, C, (i : Int))])) ∧ Below w.heap.size w (w1.setCell ⟨w.heap.size, 2, none⟩ v''))) := by
        refine Lib.hid fun v'' w1 h1 hg => ?_
        have := clk_grown2 hC hRx (below_drewN bB 1) h1 hg
        refine ⟨this.1, this.2.1, this.2.2.1.c2, Lib.hid ⟨this.2.2.1, ?_, this.2.2.2.2 w (Nat.le_refl _) hB⟩⟩
        rw [c2_concat]
        exact this.2.2.2.1
      have AT : Hid (∀ j u, [Value.int .i64 T, .int .i64 C][j]? = some u → (((wr.alloc (.cells #[.int .i64 T, .int .i64 C] 32)).alloc (.cells #[.int .i64 T, .int .i64 C] 32)).drew).cell? ((⟨wr.heap.size + 1, 0, none⟩ : Addr).add j) = some u) := by
        refine Lib.hid fun j u hj => ?_
        have e : ((((wr.alloc (.cells #[.int .i64 T, .int .i64 C] 32)).alloc (.cells #[.int .i64 T, .int .i64 C] 32)).drew)).heap[wr.heap.size + 1]? = some (.cells #[.int .i64 T, .int .i64 C] 32) := by
          have := heap_alloc_new (wr.alloc (.cells #[.int .i64 T, .int .i64 C] 32)) (.cells #[.int .i64 T, .int .i64 C] 32)
          rw [show (wr.alloc (.cells #[.int .i64 T, .int .i64 C] 32)).heap.size = wr.heap.size + 1 by simp] at this
          exact this
        have ha : (⟨wr.heap.size + 1, 0, none⟩ : Addr).add j = ⟨wr.heap.size + 1, j, none⟩ := by unfold Addr.add; split <;> simp_all
        rw [ha, cell_of_row _ _ _ _ _ _ e]
        simpa using hj
      have hs0 : w.heap.size + 1 ≤ wr.heap.size := hC.lt
      have hkk := hk.2.2
      have HS := Lib.hid hR.out.2.1
      have HP := Lib.hid hR.out.2.2
      clear hk
      have hk2 : (i : Int) < L := by omega
      clear HE HO HX
      obtain ⟨wo, hwo⟩ : ∃ wo, wo = wr := ⟨_, rfl⟩
      subst hwo
      rcases hkk with hc1 | ⟨hc1, hc2, hc3⟩
      all_goals
        rw [hc1] at IS
        clear hc1
        clear hC hR hB bA bB hT hCC hRx
        go_wp2_with (go_at_call 23; (with_reducible refine (IS.out _).mono ?_); rintro e w' ⟨rfl, rfl⟩)
        go_region_law (refine step_append_row rfl (.tmp 61) (.tmp 63) 22 rfl (w.heap.size + 1) 32 i0 z0 2 16 Try.underlying22 hi0 hz0 hz1 hz2 hz3 (by decide) v' i (c2 R) (by simp [Act.eval, Act.put]) OW.out ⟨wo.heap.size + 1, 0, none⟩ 1 1 [.int .i64 T, .int .i64 C] (by simp [Act.eval, Act.put]) rfl AT.out (by simp [Value.oneCell']) (by unfold maxLen; omega) (by omega) (by simp; omega) ?_; intro v'' w1 hown hg hat; obtain ⟨g1, d1, rfl, hbg, hgl⟩ := row_form2 hown; obtain ⟨hc1, hf1, hc2, hend⟩ := FIN.out _ _ hown hg; clear hown hg hat)
        all_goals
          go_wp2_with fail
          go_loopw [9] (fun x9 wi => ∃ (k : Nat) (D : List Ev), k ≤ i ∧ x9 = .int .i64 k ∧ Hid (Clk 49 wi w.heap.size s 0 (.slice (some ⟨g1, 0, none⟩) (i + 1) d1) ∧ wi.ownsRow (w.heap.size + 1) 32 2 (.slice (some ⟨g1, 0, none⟩) (i + 1) d1) (i + 1) (c2 D) ∧ Below w.heap.size w wi ∧ D.length = i + 1) ∧ Hid (Ins R D (T, C, (i : Int)) k)) (fun x9 _ => (intOf x9).toNat)
          case atStart => exact ⟨i, R ++ [(T, C, (i : Int))], Nat.le_refl _, by go_num, Lib.hid ⟨hend.out.1, hend.out.2.1, hend.out.2.2, by rw [List.length_append, RL.out]; rfl⟩, Lib.hid ⟨R, [], rfl, by rw [List.append_nil], RL.out, fun y hy => by cases hy⟩⟩
          case round =>
            obtain ⟨k, D, hki, rfl, HI, HJ⟩ := hrel
            have EXIT : Hid ((k = 0 ∨ ∃ A z B, D = A ++ z :: (T, C, (i : Int)) :: B ∧ A.length + 1 = k ∧ z.1 ≤ T) → ∃ v' R', Clk 49 wr w.heap.size s 0 v' ∧ Hid (Rx wr (w.heap.size + 1) v' R' ∧ SortedE R' ∧ R'.Perm (ev3 (l.take (i + 1)))) ∧ Below w.heap.size w wr) := by
              refine Lib.hid fun hx => ⟨_, D, HI.out.1, Lib.hid ⟨?_, ?_, ?_⟩, HI.out.2.2.1⟩
              · unfold Rx; rw [HI.out.2.2.2]; exact HI.out.2.1
              · obtain ⟨A, B, rfl, hRe, hAk, hBx⟩ := HJ.out
                have hs := HS.out
                rw [hRe] at hs
                refine sorted_ins hs hBx ?_ (fun y hy => ?_)
                · rcases hx with rfl | ⟨A2, z, B2, he, hl2, hz⟩
                  · exact .inl (List.eq_nil_of_length_eq_zero hAk)
                  · right
                    have e1 : A = A2 ++ [z] := by
                      have h1 := congrArg (List.take k) he
                      rw [List.take_left' hAk, show A2 ++ z :: (T, C, (i : Int)) :: B2 = (A2 ++ [z]) ++ (T, C, (i : Int)) :: B2 by simp, List.take_left' (by simp; omega)] at h1
                      exact h1
                    exact ⟨A2, z, e1, hz⟩
                · have hm : y ∈ ev3 (l.take i) := HP.out.subset (by rw [hRe]; exact List.mem_append_left _ hy)
                  exact ev3_num hm
              · obtain ⟨A, B, rfl, hRe, hAk, hBx⟩ := HJ.out
                rw [ET.out]
                exact perm_ins (by rw [← hRe]; exact HP.out)
            have hclt := HI.out.1.lt
            by_cases hk0 : k = 0
            · subst hk0
              have EX := EXIT.out (.inl rfl)
              have q0 := HI.out.1.c2
              clear EXIT HI HJ
              go_wp2_with fail
              go_big_region
              all_goals
                go_wp2_with fail
                go_roundw
                case rel =>
                  obtain ⟨v2, R2, h1, h2, h3⟩ := EX
                  exact ⟨i + 1, by omega, by go_num, v2, R2, h1, h2, below_drewN h3 1⟩
                case measure => simp [intOf]; omega
            · obtain ⟨A, B, hD, hRe, hAk, hBx⟩ := HJ.out
              rcases List.eq_nil_or_concat A with hA | ⟨A', y, hA⟩
              · rw [hA] at hAk; simp at hAk; omega
              · rw [List.concat_eq_append] at hA
                subst hA
                obtain ⟨k', hk'⟩ : ∃ k', A'.length = k' := ⟨_, rfl⟩
                have hkk' : k' + 1 = k := by rw [← hAk, List.length_append, hk']; rfl
                have hD2 : D = A' ++ y :: (T, C, (i : Int)) :: B := by rw [hD]; simp
                have gy : D[k']? = some y := by rw [hD2, List.getElem?_append_right (by omega), hk', Nat.sub_self]; rfl
                have gx : D[k]? = some (T, C, (i : Int)) := by rw [hD2, List.getElem?_append_right (by omega), hk', show k - k' = 1 by omega]; rfl
                have cy := c2_get D k' y gy
                have cx := c2_get D k _ gx
                have hrow := HI.out.2.1
                have b0 := row_get hrow cy.1
                have b1 := row_get hrow cy.2
                have a0 := row_get hrow cx.1
                have a1 := row_get hrow cx.2
                have q0 := HI.out.1.c2
                have i9 : IntKind.i64.wrap ((k : Int) - 1) = (k' : Int) := by rw [IntWalk.i64_in _ (by omega)]; omega
                have hk1 : (k : Int) < (i : Int) + 1 := by omega
                have hk2' : (k' : Int) < (i : Int) + 1 := by omega
                have hk3 : (0 : Int) < k := by omega
                have hk4 : 0 < k := by omega
                have hk5 : ((0 : Int) < k) = True := eq_true hk3
                by_cases hyT : y.1 ≤ T
                · have EX := EXIT.out (.inr ⟨A', y, B, hD2, by rw [hk']; exact hkk', hyT⟩)
                  obtain ⟨y0, y1, y2⟩ := y
                  simp only at b0 b1 a0 a1 hyT
                  clear EXIT HI HJ hD hRe hAk hBx hD2 gy gx cy cx hrow hk' hkk'
                  go_wp2_with fail
                  go_big_region
                  all_goals
                    go_wp2_with fail
                    go_roundw
                    case rel =>
                      obtain ⟨v2, R2, h1, h2, h3⟩ := EX
                      exact ⟨i + 1, by omega, by go_num, v2, R2, h1, h2, below_drewN h3 1⟩
                    case measure => simp [intOf]; omega
                · have hyT2 : T < y.1 := by omega
                  obtain ⟨y0, y1, y2⟩ := y
                  simp only at b0 b1 a0 a1 hyT hyT2
                  have hne : w.heap.size ≠ g1 := by omega
                  have hgl' : g1 < wr.heap.size := (ownsRow_base hrow g1 rfl).2
                  have q2 : ((wr.setCell ⟨g1, k * 2, none⟩ (.int .i64 y0)).setCell ⟨g1, k * 2 + 1, none⟩ (.int .i64 y1)).cell? ⟨w.heap.size, 2, none⟩ = some (.slice (some ⟨g1, 0, none⟩) (i + 1) d1) :=
                    (World.cell?_setCell_other _ _ _ _ (fun e => hne (congrArg Addr.block e).symm)).trans ((World.cell?_setCell_other _ _ _ _ (fun e => hne (congrArg Addr.block e).symm)).trans q0)
                  obtain ⟨u1, p1⟩ := setCell_some (p := ⟨g1, k * 2, none⟩) (x := .int .i64 y0) a1
                  obtain ⟨u2, p2⟩ := setCell_some (p := ⟨g1, k * 2, none⟩) (x := .int .i64 y0) b0
                  obtain ⟨u2, p2⟩ := setCell_some (p := ⟨g1, k * 2 + 1, none⟩) (x := .int .i64 y1) p2
                  obtain ⟨u3, p3⟩ := setCell_some (p := ⟨g1, k * 2, none⟩) (x := .int .i64 y0) b1
                  obtain ⟨u3, p3⟩ := setCell_some (p := ⟨g1, k * 2 + 1, none⟩) (x := .int .i64 y1) p3
                  obtain ⟨u3, p3⟩ := setCell_some (p := ⟨g1, k' * 2, none⟩) (x := .int .i64 T) p3
                  have z0 := row_fz hrow (k * 2)
                  have z1 := row_fz hrow (k * 2 + 1)
                  have z2 := row_fz hrow (k' * 2)
                  have z3 := row_fz hrow (k' * 2 + 1)
                  have FIN2 : Hid (∀ n, ∃ D', Hid (Clk 49 ((((((wr.setCell ⟨g1, k * 2, none⟩ (.int .i64 y0)).setCell ⟨g1, k * 2 + 1, none⟩ (.int .i64 y1)).setCell ⟨g1, k' * 2, none⟩ (.int .i64 T)).setCell ⟨g1, k' * 2 + 1, none⟩ (.int .i64 C)).alloc (.cells #[.int .i64 T, .int .i64 C] 32)).drewN n) w.heap.size s 0 (.slice (some ⟨g1, 0, none⟩) (i + 1) d1) ∧ ((((((wr.setCell ⟨g1, k * 2, none⟩ (.int .i64 y0)).setCell ⟨g1, k * 2 + 1, none⟩ (.int .i64 y1)).setCell ⟨g1, k' * 2, none⟩ (.int .i64 T)).setCell ⟨g1, k' * 2 + 1, none⟩ (.int .i64 C)).alloc (.cells #[.int .i64 T, .int .i64 C] 32)).drewN n).ownsRow (w.heap.size + 1) 32 2 (.slice (some ⟨g1, 0, none⟩) (i + 1) d1) (i + 1) (c2 D') ∧ Below w.heap.size w ((((((wr.setCell ⟨g1, k * 2, none⟩ (.int .i64 y0)).setCell ⟨g1, k * 2 + 1, none⟩ (.int .i64 y1)).setCell ⟨g1, k' * 2, none⟩ (.int .i64 T)).setCell ⟨g1, k' * 2 + 1, none⟩ (.int .i64 C)).alloc (.cells #[.int .i64 T, .int .i64 C] 32)).drewN n) ∧ D'.length = i + 1) ∧ Hid (Ins R D' (T, C, (i : Int)) k')) := by
                    refine Lib.hid fun n => ⟨A' ++ (T, C, (i : Int)) :: (y0, y1, y2) :: B, Lib.hid ⟨?_, ?_, ?_, ?_⟩, Lib.hid ⟨A', (y0, y1, y2) :: B, rfl, by rw [hRe]; simp, hk', fun z hz => ?_⟩⟩
                    · exact (HI.out.1.fb ((((Fb.set _ _).trans (Fb.set _ _)).trans (Fb.set _ _)).trans (Fb.set _ _)) hne).below (below_drewN ((Below.refl _ _).alloc (Nat.le_refl _) _) n)
                    · have h4 := row_set (row_set (row_set (row_set hrow (k * 2) (.int .i64 y0)) (k * 2 + 1) (.int .i64 y1)) (k' * 2) (.int .i64 T)) (k' * 2 + 1) (.int .i64 C)
                      have e1 := c2_set D k (y0, y1, y2)
                      have e2 := c2_set (D.set k (y0, y1, y2)) k' (T, C, (i : Int))
                      rw [e1] at e2
                      rw [← e2] at h4
                      have e3 : (D.set k (y0, y1, y2)).set k' (T, C, (i : Int)) = A' ++ (T, C, (i : Int)) :: (y0, y1, y2) :: B := by
                        have := swp_at A' B (T, C, (i : Int)) (y0, y1, y2)
                        unfold swp at this
                        rw [← hD2, hk', hkk'] at this
                        rw [show D.getD k e0 = (T, C, (i : Int)) by rw [List.getD_eq_getElem?_getD, gx]; rfl, show D.getD k' e0 = (y0, y1, y2) by rw [List.getD_eq_getElem?_getD, gy]; rfl] at this
                        exact this
                      rw [e3] at h4
                      exact h4.alloc _
                    · have h1 : w.heap.size ≤ g1 := by omega
                      exact below_drewN (((((HI.out.2.2.1.setCell h1 _).setCell h1 _).setCell h1 _).setCell h1 _).alloc (by have := HI.out.2.2.1.size; simpa [World.setCell] using this) _) n
                    · have := HI.out.2.2.2
                      rw [hD2] at this
                      simp only [List.length_append, List.length_cons] at this ⊢
                      exact this
                    · rcases List.mem_cons.1 hz with rfl | hz
                      · exact hyT2
                      · exact hBx z hz
                  have HK : Hid (k' + 1 = k) := Lib.hid hkk'
                  clear EXIT HI HJ hD hRe hAk hBx hD2 gy gx cy cx hrow hk' hkk' HS HP ET
                  go_wp2_with fail
                  go_big_region
                  all_goals
                    go_wp2_with fail
                    go_big_region
                    all_goals
                      go_wp2_with fail
                      go_big_region
                      all_goals
                        go_wp2_with fail
                        go_roundw
                        case rel =>
                          obtain ⟨D', h1, h2⟩ := FIN2.out 3
                          exact ⟨k', D', by have := HK.out; omega, by go_num, h1, h2⟩
                        case measure => simp [intOf]; have := HK.out; omega
    · have hi2 : i = j := by omega
      subst hi2
      by_cases hjL : i < L
      · obtain ⟨g, off, rfl, hcell⟩ : ∃ g off, a = some ⟨g, off, none⟩ ∧ ∀ i, i < l.length → w.cell? ⟨g, off + i * 2, none⟩ = some (.int .i64 (l.getD i (0, 0)).1) ∧ w.cell? ⟨g, off + i * 2 + 1, none⟩ = some (.int .i64 (l.getD i (0, 0)).2) := by
          rcases HR.out with h | h
          · have := HL.out; rw [h] at this; simp at this; omega
          · exact h
        have hx := HX.out hjL
        obtain ⟨⟨T, C⟩, hT⟩ : ∃ T, l.getD i (0, 0) = T := ⟨_, rfl⟩
        have k := hcell i (by have := HL.out; omega)
        have k0 := cell_below hB k.1
        have k1 := cell_below hB k.2
        rw [hT] at k0 k1 hx
        have IS := Lib.hid (fun w => rchar_c C w)
        have hk2 : (i : Int) < L := by omega
        have hbz : Below w.heap.size w (wr.alloc (.cells #[.int .i64 T, .int .i64 C] 32)) := hB.alloc hB.size _
        have BZ := Lib.hid hbz
        clear HE HO HX hcell k hT hC hR hB hbz
        by_cases t0 : T < 0
        · clear hx
          go_wp2_with fail
          go_ret2
          exact Or.inr ⟨by rw [HL.out]; exact hjL, rfl, BZ.out⟩
        · by_cases t1 : 1099511627776 < T
          · clear hx
            go_wp2_with fail
            go_ret2
            exact Or.inr ⟨by rw [HL.out]; exact hjL, rfl, BZ.out⟩
          · cases hc : isC C
            · have hx2 : C < 16777216 ∨ (¬ C < 16777216 ∧ 285212672 ≤ C) := by
                by_cases c0 : C < 16777216
                · exact .inl c0
                · by_cases c1 : 285212672 ≤ C
                  · exact .inr ⟨c0, c1⟩
                  · exact absurd ⟨by omega, by omega, .inr ⟨hc, by omega, by omega⟩⟩ hx
              rw [hc] at IS
              clear hx hc
              rcases hx2 with c0 | ⟨c0, c1⟩
              all_goals
                go_wp2_with (go_at_call 23; (with_reducible refine (IS.out _).mono ?_); rintro e w' ⟨rfl, rfl⟩)
                go_ret2
                exact Or.inr ⟨by rw [HL.out]; exact hjL, rfl, BZ.out⟩
            · exact absurd ⟨by omega, by omega, .inl hc⟩ hx
      · have hi3 : i = L := by omega
        subst hi3
        have FE : Hid (Rx wr (w.heap.size + 1) v' R ∧ SortedE R ∧ R.Perm (ev3 l)) := Lib.hid (by have := hR.out; rw [← HL.out, List.take_length] at this; exact this)
        clear HE HO HR HX
        go_wp2_with fail
        go_ret2
        exact Or.inl ⟨HL.out.symm, rfl, v', R, hC, FE.out.1, FE.out.2.1, FE.out.2.2, hB⟩
theorem rnew_gen (l : List (Int × Int)) (v : Value) (s : Int) (w : World) (hv : Evs w v l) (hl : l.length ≤ 2000) (hok : ∀ e ∈ l, okE e) (s0 : 0 ≤ s) (s1 : s ≤ 8589934592) :
    Calls Try.prog 13 #[.int .i64 s, v] w fun e w' =>
    e = .returned (.tuple #[.pointer (some ⟨w.heap.size, 0, none⟩), .int .i64 0]) ∧ ∃ v' R, Clk 49 w' w.heap.size s 0 v' ∧ Rx w' (w.heap.size + 1) v' R ∧ SortedE R ∧ R.Perm (ev3 l) ∧ Below w.heap.size w w' := by
  refine (rnew_any l v s w hv hl l.length (Nat.le_refl _) (fun i hi => hok _ (by rw [List.getD_eq_getElem?_getD, List.getElem?_eq_getElem hi]; simp)) (fun h => by omega) s0 s1).mono ?_
  rintro e w' (⟨_, h⟩ | ⟨h, _⟩)
  · exact h
  · omega
theorem rnew_evil (l : List (Int × Int)) (v : Value) (s : Int) (w : World) (hv : Evs w v l) (hl : l.length ≤ 2000) (j : Nat) (hj : j < l.length) (hok : ∀ i, i < j → okE (l.getD i (0, 0))) (hno : ¬ okE (l.getD j (0, 0))) (s0 : 0 ≤ s) (s1 : s ≤ 8589934592) :
    Calls Try.prog 13 #[.int .i64 s, v] w fun e w' => e = .returned (.tuple #[.pointer none, .int .i64 1]) ∧ Below w.heap.size w w' := by
  refine (rnew_any l v s w hv hl j (by omega) hok (fun _ => hno) s0 s1).mono ?_
  rintro e w' (⟨h, _⟩ | ⟨_, h⟩)
  · omega
  · exact h
end Go.Proofs.Ythigimmlhgdchaa
