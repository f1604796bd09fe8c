/- The reference's Ready and Next, any events. -/
import Derived.Test.YthigimmlhgdchaaAA
namespace Go.Proofs.Ythigimmlhgdchaa
set_option linter.unusedVariables false
set_option linter.unusedSimpArgs false
open Go.RowKit

def two (R : List Ev) : List (Int × Int) := R.map fun e => (e.1, e.2.1)
/-- The reference's clock: its events are read, in blocks behind its own. -/
def Rc (w : World) (b : Nat) (s t : Int) (R : List Ev) : Prop := ∃ a c, Clk 49 w b s t (.slice a R.length c) ∧ Evs w (.slice a R.length c) (two R) ∧ (∀ g o, a = some ⟨g, o, none⟩ → b < g)
/-- What Ready(true), Next(true) drop. -/
def dropR (t : Int) : List Ev → List Ev
  | [] => []
  | e :: R => if e.1 ≤ t ∧ isC e.2.1 = false then dropR t R else e :: R
def dropN : List Ev → List Ev
  | [] => []
  | e :: R => if isC e.2.1 = false then dropN R else e :: R
def dueV (t : Int) : List Ev → Bool
  | [] => false
  | e :: _ => decide (e.1 ≤ t)
theorem quiet_left {P : Program} {f : FuncId} {args : Array Value} {w : World} {n : Nat} {v : Value}
    (h : Calls P f args (w.drewN n) fun e w' => e = .returned v ∧ w.drewN n = w') : Calls P f args (w.drewN n) fun e w' => e = .returned v ∧ ∃ m, w' = w.drewN m :=
  h.mono fun _ _ ⟨h1, h2⟩ => ⟨h1, n, h2.symm⟩
theorem evs_head {w : World} {a : Option Addr} {n c : Nat} {x : Int × Int} {l : List (Int × Int)} (h : Evs w (.slice a n c) (x :: l)) : n = l.length + 1 ∧ n ≤ c ∧ ∃ g o, a = some ⟨g, o, none⟩ ∧ w.cell? ⟨g, o, none⟩ = some (.int .i64 x.1) ∧ w.cell? ⟨g, o + 1, none⟩ = some (.int .i64 x.2) ∧ Evs w (.slice (some ⟨g, o + 2, none⟩) (n - 1) (c - 1)) l := by
  obtain ⟨a', c', e, hc, hr⟩ := h
  injection e with e1 e2 e3
  subst e1 e2 e3
  refine ⟨rfl, hc, ?_⟩
  rcases hr with h | ⟨g, o, rfl, hcl⟩
  · cases h
  · have h0 := hcl 0 (by simp)
    refine ⟨g, o, rfl, by simpa using h0.1, by simpa using h0.2, ⟨_, c - 1, by simp, by simp at hc ⊢; omega, .inr ⟨g, o + 2, rfl, fun i hi => ?_⟩⟩⟩
    have := hcl (i + 1) (by simp; omega)
    rw [List.getD_cons_succ] at this
    rw [show o + 2 + i * 2 = o + (i + 1) * 2 by omega]
    exact this
theorem Evs.fb {w w' : World} {b n c : Nat} {a : Option Addr} {l : List (Int × Int)} (h : Evs w (.slice a n c) l) (hf : Fb b w w') (ha : ∀ g o, a = some ⟨g, o, none⟩ → b < g) : Evs w' (.slice a n c) l := by
  obtain ⟨a', c', e, hc, hr⟩ := h
  injection e with e1 e2 e3
  subst e1 e2 e3
  refine ⟨_, _, rfl, hc, ?_⟩
  rcases hr with h | ⟨g, o, rfl, hcl⟩
  · exact .inl h
  · refine .inr ⟨g, o, rfl, fun i hi => ?_⟩
    have hg := ha g o rfl
    have key : ∀ k v, w.cell? ⟨g, k, none⟩ = some v → w'.cell? ⟨g, k, none⟩ = some v := fun k v hv => (World.cell?_of_block (w := w) (hf.block g (World.block_lt_of_cell? w _ hv) (by omega))).trans hv
    exact ⟨key _ _ (hcl i hi).1, key _ _ (hcl i hi).2⟩
theorem Rc.below {w w' : World} {b : Nat} {s t : Int} {R : List Ev} (h : Rc w b s t R) (hb : Below w.heap.size w w') : Rc w' b s t R := by
  obtain ⟨a, c, h1, h2, h3⟩ := h
  exact ⟨a, c, h1.below hb, h2.below hb, h3⟩
/-- The first event is taken off. -/
theorem Rc.tail {w : World} {b : Nat} {s t t2 : Int} {x : Ev} {R : List Ev} {g o c : Nat} (h : Clk 49 w b s t (.slice (some ⟨g, o, none⟩) (R.length + 1) c)) (he : Evs w (.slice (some ⟨g, o + 2, none⟩) R.length (c - 1)) (two R)) (hg : b < g) :
    Rc (w.setCell ⟨b, 2, none⟩ (.slice (some ⟨g, o + 2, none⟩) R.length (c - 1))) b s t R :=
  ⟨_, _, h.set2 _, he.fb (Fb.set _ _) (fun g' o' e => by injection e with e; injection e with e; omega), fun g' o' e => by injection e with e; injection e with e; omega⟩
theorem Rc.tail0 {w : World} {b : Nat} {s t : Int} {x : Ev} {g o : Nat} (h : Clk 49 w b s t (.slice (some ⟨g, o, none⟩) 1 1)) (hg : b < g) :
    Rc (w.setCell ⟨b, 2, none⟩ (.slice (some ⟨g, o, none⟩) 0 0)) b s t [] :=
  ⟨_, _, h.set2 _, ⟨_, _, rfl, Nat.le_refl _, .inl rfl⟩, fun g' o' e => by injection e with e; injection e with e; omega⟩
theorem rc_dd {w : World} {b n m : Nat} {s t : Int} {R : List Ev} (h : Rc w b s t R) : Rc ((w.drewN n).drewN m) b s t R := (h.below (below_drewN (Below.refl _ _) _)).below (below_drewN (Below.refl _ _) _)
theorem fb_dd {w w' : World} {b n m : Nat} (h : Fb b w w') : Fb b w ((w'.drewN n).drewN m) := ⟨h.os, h.tape, h.output, h.size, h.block⟩
def evLen (b : Nat) (w : World) : Nat := match w.cell? ⟨b, 2, none⟩ with | some (.slice _ n _) => n | _ => 0
theorem Rc.len {w : World} {b : Nat} {s t : Int} {R : List Ev} (h : Rc w b s t R) : evLen b w = R.length := by
  obtain ⟨a, c, h1, _⟩ := h
  unfold evLen
  rw [h1.c2]
set_option maxRecDepth 100000 in
set_option maxHeartbeats 16000000 in
theorem rready_c (b : Nat) (s t : Int) (R : List Ev) (ch : Bool) (w : World) (h : Rc w b s t R) (hl : R.length ≤ 1000) :
    Calls Try.prog 25 #[.pointer (some ⟨b, 0, none⟩), .bool ch] w fun e w' => e = .returned (.bool (dueV t (if ch = true then dropR t R else R))) ∧ Rc w' b s t (if ch = true then dropR t R else R) ∧ Fb b w w' := by
  have H0 := Lib.hid h
  have HLN := Lib.hid hl
  obtain ⟨Z, hZ⟩ : ∃ Z, (if ch = true then dropR t R else R) = Z := ⟨_, rfl⟩
  have HZ := Lib.hid hZ
  rw [hZ]
  clear h hl hZ
  cases ch with
  | false =>
    obtain rfl : R = Z := HZ.out
    go_enter Try.func25, Try.ntmps25
    go_wp2_with fail
    go_loopw [] (fun wr => wr = w) (fun wr => 0)
    case atStart => rfl
    case round =>
      subst hrel
      obtain ⟨a, c, hC, hE, hgb⟩ := H0.out
      have q0 := hC.c2
      have q1 := hC.c1
      have hbl := hC.lt
      cases R with
      | nil =>
        simp only [List.length_nil] at q0
        clear hC hE hgb
        go_wp2_with fail
        go_quiet (fail)
        go_wp2_with fail
        go_quiet (fail)
        go_wp2_with fail
        go_ret
        exact ⟨rfl, rc_dd H0.out, fb_dd (Fb.of_below (Below.refl _ _))⟩
      | cons x R2 =>
        obtain ⟨hn, hcn, g, o, rfl, k0, k1, hE2⟩ := evs_head hE
        have hm1 : 0 < (x :: R2).length := by simp
        obtain ⟨n, hn⟩ : ∃ n, (x :: R2).length = n := ⟨_, rfl⟩
        rw [hn] at q0 hm1
        have DV : Hid (dueV t (x :: R2) = decide (x.1 ≤ t)) := Lib.hid rfl
        obtain ⟨x0, x1, x2⟩ := x
        simp only at k0 k1
        have hm2 : (0 : Int) < n := by omega
        clear hC hE hgb hE2 hn
        by_cases ht : x0 ≤ t
        · have DV2 : Hid (dueV t ((x0, x1, x2) :: R2) = true) := Lib.hid (DV.out.trans (decide_eq_true ht))
          clear DV
          go_wp2_with fail
          go_quiet (fail)
          go_wp2_with fail
          go_quiet (fail)
          go_wp2_with fail
          go_ret
          exact ⟨retb DV2.out.symm, rc_dd H0.out, fb_dd (Fb.of_below (Below.refl _ _))⟩
        · have DV2 : Hid (dueV t ((x0, x1, x2) :: R2) = false) := Lib.hid (DV.out.trans (decide_eq_false ht))
          have hdec : decide (x0 ≤ t) = false := decide_eq_false ht
          clear DV
          go_wp2_with fail
          go_quiet (fail)
          go_wp2_with fail
          go_quiet (fail)
          go_wp2_with fail
          go_ret
          exact ⟨retb DV2.out.symm, rc_dd H0.out, fb_dd (Fb.of_below (Below.refl _ _))⟩
  | true =>
    have HZ2 : Hid (dropR t R = Z) := HZ
    go_enter Try.func25, Try.ntmps25
    go_wp2_with fail
    go_loopw [] (fun wr => ∃ R1, Hid (Rc wr b s t R1) ∧ Fb b w wr ∧ Hid (dropR t R1 = Z)) (fun wr => evLen b wr)
    case atStart => exact ⟨R, H0, Fb.of_below (Below.refl _ _), HZ2⟩
    case round =>
      obtain ⟨R1, HR, hfb, HD⟩ := hrel
      obtain ⟨a, c, hC, hE, hgb⟩ := HR.out
      have q0 := hC.c2
      have q1 := hC.c1
      have hbl := hC.lt
      have z2 := hC.fz 2
      have ML := Lib.hid HR.out.len
      cases R1 with
      | nil =>
        have HZ3 : Hid (Rc wr b s t Z ∧ dueV t Z = false) := Lib.hid (by have := HD.out; rw [← this]; exact ⟨HR.out, rfl⟩)
        simp only [List.length_nil] at q0
        clear HR hC hE hgb HD HZ HZ2
        go_wp2_with fail
        go_quiet (fail)
        go_wp2_with fail
        go_quiet (fail)
        go_wp2_with fail
        go_ret
        exact ⟨retb HZ3.out.2.symm, rc_dd HZ3.out.1, fb_dd hfb⟩
      | cons x R2 =>
        obtain ⟨hn, hcn, g, o, rfl, k0, k1, hE2⟩ := evs_head hE
        have hbg := hgb g o rfl
        obtain ⟨bc, hbc⟩ : ∃ bc, isC x.2.1 = bc := ⟨_, rfl⟩
        have IS := Lib.hid (fun w => rchar_c x.2.1 w)
        rw [hbc] at IS
        by_cases hdr : x.1 ≤ t ∧ bc = false
        · obtain ⟨ht, rfl⟩ := hdr
          have HD2 : Hid (dropR t R2 = Z) := Lib.hid (by have := HD.out; unfold dropR at this; rwa [if_pos ⟨ht, hbc⟩] at this)
          have hcl : (x :: R2).length = R2.length + 1 := rfl
          rw [hcl] at q0 hE2 ML hC
          rw [Nat.add_sub_cancel] at hE2
          have T1 := Lib.hid (Rc.tail (x := x) (R := R2) (t2 := t) hC hE2 hbg)
          have T0 : Hid (R2 = [] → c = 1 → Rc (wr.setCell ⟨b, 2, none⟩ (.slice (some ⟨g, o, none⟩) 0 0)) b s t []) := Lib.hid fun h1 h2 => by subst h1 h2; exact Rc.tail0 (x := x) hC hbg
          have hcm : R2.length + 1 ≤ c := by simpa using hcn
          obtain ⟨m, hm⟩ : ∃ m, R2.length = m := ⟨_, rfl⟩
          have HM := Lib.hid hm
          rw [hm] at q0 T1 ML hcm
          obtain ⟨x0, x1, x2⟩ := x
          simp only at k0 k1 ht IS
          have g1 : 1 ≤ c := by omega
          have g2 : (1 : Int) ≤ c := by omega
          clear HR hC hE hgb HD HZ HZ2 hE2 hbc hn hcn hcl hm
          by_cases hc1 : c = 1
          · have hm0 : m = 0 := by omega
            subst hm0
            have hc2 : 1 = c := hc1.symm
            subst hc2
            have R0 : R2 = [] := List.eq_nil_of_length_eq_zero HM.out
            have T2 := Lib.hid (T0.out R0 rfl)
            clear T0 T1
            go_wp2_with fail
            go_quiet ((go_at_call 23; with_reducible exact quiet_left (IS.out _)))
            go_wp2_with fail
            go_roundw
            case rel => exact ⟨[], Lib.hid (T2.out.below (below_drewN (Below.refl _ _) _)), hfb.trans ((Fb.set _ _).trans (Fb.of_below (below_drewN (Below.refl _ _) _))), Lib.hid (by have := HD2.out; rw [R0] at this; exact this)⟩
            case measure =>
              have g3 := (T2.out).len
              have g4 := ML.out
              show evLen b ((wr.setCell ⟨b, 2, none⟩ (.slice (some ⟨g, o, none⟩) 0 0))) < _
              rw [g3, g4]
              simp
          · go_wp2_with fail
            go_quiet ((go_at_call 23; with_reducible exact quiet_left (IS.out _)))
            go_wp2_with fail
            go_roundw
            case rel => exact ⟨R2, Lib.hid (T1.out.below (below_drewN (Below.refl _ _) _)), hfb.trans ((Fb.set _ _).trans (Fb.of_below (below_drewN (Below.refl _ _) _))), HD2⟩
            case measure =>
              have g3 := (T1.out).len
              have g4 := ML.out
              show evLen b ((wr.setCell ⟨b, 2, none⟩ (.slice (some ⟨g, o + 2, none⟩) m (c - 1)))) < _
              rw [g3, g4, HM.out]
              omega
        · have HD2 : Hid (x :: R2 = Z) := Lib.hid (by have := HD.out; unfold dropR at this; rwa [if_neg (by rw [hbc]; exact hdr)] at this)
          have HZ3 : Hid (Rc wr b s t Z ∧ dueV t Z = decide (x.1 ≤ t)) := Lib.hid (by rw [← HD2.out]; exact ⟨HR.out, rfl⟩)
          have hm1 : 0 < (x :: R2).length := by simp
          obtain ⟨n, hn2⟩ : ∃ n, (x :: R2).length = n := ⟨_, rfl⟩
          rw [hn2] at q0 hm1
          obtain ⟨x0, x1, x2⟩ := x
          simp only at k0 k1 hdr HZ3 IS
          have hm2 : (0 : Int) < n := by omega
          clear HR hC hE hgb HD HZ HZ2 hE2 hbc hn hcn HD2 hn2 ML
          by_cases ht : x0 ≤ t
          · have hb2 : bc = true := by
              cases bc with
              | true => rfl
              | false => exact absurd ⟨ht, rfl⟩ hdr
            subst hb2
            rw [decide_eq_true ht] at HZ3
            clear hdr
            go_wp2_with fail
            go_quiet ((go_at_call 23; with_reducible exact quiet_left (IS.out _)))
            go_wp2_with fail
            go_quiet (fail)
            go_wp2_with fail
            go_ret
            exact ⟨retb HZ3.out.2.symm, rc_dd HZ3.out.1, fb_dd hfb⟩
          · rw [decide_eq_false ht] at HZ3
            have hdec : decide (x0 ≤ t) = false := decide_eq_false ht
            clear hdr
            go_wp2_with fail
            go_quiet ((go_at_call 23; with_reducible exact quiet_left (IS.out _)))
            go_wp2_with fail
            go_quiet (fail)
            go_wp2_with fail
            go_ret
            exact ⟨retb HZ3.out.2.symm, rc_dd HZ3.out.1, fb_dd hfb⟩
end Go.Proofs.Ythigimmlhgdchaa
