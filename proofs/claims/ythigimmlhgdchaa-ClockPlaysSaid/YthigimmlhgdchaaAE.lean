/- The program's due, take, Ready, any events. -/
import Derived.Test.YthigimmlhgdchaaAC
namespace Go.Proofs.Ythigimmlhgdchaa
set_option linter.unusedVariables false
set_option linter.unusedSimpArgs false
open Go.RowKit

/-- The program's clock: a heap of what is left, in blocks ahead of N. -/
def Pk (N : Nat) (w : World) (b : Nat) (s t : Int) (R : List Ev) : Prop :=
  ∃ a c l', Clk 54 w b s t (.slice a R.length c) ∧ Rw w (b + 1) (.slice a R.length c) l' ∧ l'.length = R.length ∧ Hp l' 0 R.length ∧ l'.Perm R ∧ SortedE R ∧ (∀ g o, a = some ⟨g, o, none⟩ → g < N)
/-- Only blocks from b on, ahead of N, may have turned. -/
structure Fn (b N : Nat) (w w' : World) : Prop where
  os : w'.os = w.os
  tape : w'.tape = w.tape
  output : w'.output = w.output
  size : w.heap.size ≤ w'.heap.size
  block : ∀ k, k < w.heap.size → k < b ∨ N ≤ k → w'.heap[k]? = w.heap[k]?
theorem Fn.refl (b N : Nat) (w : World) : Fn b N w w := ⟨rfl, rfl, rfl, Nat.le_refl _, fun _ _ _ => rfl⟩
theorem Fn.trans {b N : Nat} {w w1 w2 : World} (h : Fn b N w w1) (g : Fn b N w1 w2) : Fn b N w w2 := ⟨g.os.trans h.os, g.tape.trans h.tape, g.output.trans h.output, Nat.le_trans h.size g.size, fun k hk hn => (g.block k (Nat.lt_of_lt_of_le hk h.size) hn).trans (h.block k hk hn)⟩
theorem Fn.of_f2 {b N g : Nat} {w w' : World} (h : F2 b g w w') (hb : b < N) (hg : b ≤ g) (hN : g < N) : Fn b N w w' := ⟨h.os, h.tape, h.output, h.size, fun k hk hn => h.block k hk (by omega) (by omega)⟩
theorem Fn.of_below {b N : Nat} {w w' : World} (h : Below w.heap.size w w') : Fn b N w w' := ⟨h.os, h.tape, h.output, h.size, fun k hk _ => h.block k hk⟩
theorem Fn.drewN {b N : Nat} {w w' : World} (h : Fn b N w w') (n : Nat) : Fn b N w (w'.drewN n) := ⟨h.os, h.tape, h.output, h.size, h.block⟩
theorem Pk.below {N b : Nat} {w w' : World} {s t : Int} {R : List Ev} (h : Pk N w b s t R) (hb : Below w.heap.size w w') : Pk N w' b s t R := by
  obtain ⟨a, c, l', h1, h2, h3⟩ := h
  exact ⟨a, c, l', h1.below hb, Rw.below h2 hb, h3⟩
theorem Pk.len {N b : Nat} {w : World} {s t : Int} {R : List Ev} (h : Pk N w b s t R) : evLen b w = R.length := by
  obtain ⟨a, c, l', h1, _⟩ := h
  unfold evLen
  rw [h1.c2]
theorem ix_in {l : List Ev} {k : Nat} (h : k < l.length) : ix l k ∈ l := by
  unfold ix; rw [List.getD_eq_getElem?_getD, List.getElem?_eq_getElem h]; exact List.getElem_mem h
theorem in_ix {l : List Ev} {e : Ev} (h : e ∈ l) : ∃ k, k < l.length ∧ ix l k = e := by
  obtain ⟨k, hk, rfl⟩ := List.getElem_of_mem h
  exact ⟨k, hk, by unfold ix; rw [List.getD_eq_getElem?_getD, List.getElem?_eq_getElem hk]; rfl⟩
theorem head_ix {l : List Ev} {x : Ev} {R : List Ev} (hs : SortedE (x :: R)) (hp : l.Perm (x :: R)) (hh : Hp l 0 (R.length + 1)) : ix l 0 = x := by
  have hl : l.length = R.length + 1 := by rw [hp.length_eq]; rfl
  have h0 := hp.subset (ix_in (l := l) (k := 0) (by omega))
  rcases List.mem_cons.1 h0 with h | h
  · exact h
  · have h1 := (List.pairwise_cons.1 hs).1 _ h
    obtain ⟨k, hk, hx⟩ := in_ix (hp.symm.subset (List.mem_cons_self (a := x) (l := R)))
    have h2 := hh.least k (by omega)
    rw [hx] at h2
    unfold le3 at h2
    omega
theorem Pk.head {N b : Nat} {w : World} {s t : Int} {x : Ev} {R : List Ev} (h : Pk N w b s t (x :: R)) : ∃ g c l', b < g ∧ g < N ∧ Clk 54 w b s t (.slice (some ⟨g, 0, none⟩) (R.length + 1) c) ∧ Rw w (b + 1) (.slice (some ⟨g, 0, none⟩) (R.length + 1) c) l' ∧ l'.length = R.length + 1 ∧ Hp l' 0 (R.length + 1) ∧ l'.Perm (x :: R) ∧ ix l' 0 = x ∧ w.cell? ⟨g, 0, none⟩ = some (.int .i64 x.1) ∧ w.cell? ⟨g, 1, none⟩ = some (.int .i64 x.2.1) := by
  obtain ⟨a, c, l', h1, h2, h3, h4, h5, h6, h7⟩ := h
  simp only [List.length_cons] at h1 h2 h3 h4
  have ho := h2.own h3
  obtain ⟨g, c', he, hb⟩ := row_form ho
  injection he with e1 e2 e3
  subst e1 e3
  have hx := head_ix h6 h5 h4
  have hg0 : l'[0]? = some x := by
    rw [← hx]; unfold ix; rw [List.getD_eq_getElem?_getD, List.getElem?_eq_getElem (by omega)]; rfl
  have hc := cells3_get l' 0 x hg0
  exact ⟨g, c, l', by omega, h7 g 0 rfl, h1, h2, h3, h4, h5, hx, row_get ho hc.1, row_get ho hc.2.1⟩
theorem take_pk (N b : Nat) (s t : Int) (x : Ev) (R : List Ev) (w : World) (h : Pk N w b s t (x :: R)) (hl : R.length + 1 ≤ 100000) :
    Calls Try.prog 21 #[.pointer (some ⟨b, 0, none⟩)] w fun e w' => e = .returned (.agg #[.int .i64 x.1, .int .i64 x.2.1, .int .i64 x.2.2]) ∧ Pk N w' b s t R ∧ Fn b N w w' := by
  have hS : SortedE (x :: R) := by obtain ⟨_, _, _, _, _, _, _, _, h6, _⟩ := h; exact h6
  obtain ⟨g, c, l', hbg, hgN, h1, h2, h3, h4, h5, hx, _⟩ := h.head
  refine (take_gen b (b + 1) g c R.length s t l' w h1 h2 h3 (by omega) hl h4).mono ?_
  rw [hx]
  rintro e w' ⟨rfl, k1, ⟨r, k2, k3, k4, k5⟩, k6⟩
  refine ⟨rfl, ⟨_, c, r, k1, k2, k4, k5, ?_, (List.pairwise_cons.1 hS).2, fun g' o e => by injection e with e; injection e with e; omega⟩, Fn.of_f2 k6 (by omega) (by omega) hgN⟩
  have p1 : (x :: r).Perm (x :: R) := ((List.perm_append_singleton x r).symm.trans k3).trans h5
  exact List.Perm.cons_inv p1
theorem due_c (N b : Nat) (s t : Int) (R : List Ev) (w : World) (h : Pk N w b s t R) : Calls Try.prog 27 #[.pointer (some ⟨b, 0, none⟩)] w fun e w' => e = .returned (.bool (dueV t R)) ∧ ∃ n, w' = w.drewN n := by
  cases R with
  | nil =>
    obtain ⟨a, c, l', h1, _⟩ := h
    have q0 := h1.c2
    have q1 := h1.c1
    simp only [List.length_nil] at q0
    clear h1
    go_enter Try.func27, Try.ntmps27
    go_wp2_with fail
    go_quiet (fail)
    go_wp2_with fail
    go_ret
    exact ⟨rfl, _, rfl⟩
  | cons x R =>
    obtain ⟨g, c, l', hbg, hgN, h1, _, _, _, _, _, k0, k1⟩ := h.head
    have q0 := h1.c2
    have q1 := h1.c1
    obtain ⟨m, hm⟩ : ∃ m, R.length = m := ⟨_, rfl⟩
    rw [hm] at q0
    have DV : Hid (dueV t (x :: R) = decide (x.1 ≤ t)) := Lib.hid rfl
    obtain ⟨x0, x1, x2⟩ := x
    simp only at k0 k1 DV
    have g1 : (0 : Int) < (m : Int) + 1 := by omega
    have g2 : 0 < m + 1 := by omega
    clear h1 h hm
    by_cases ht : x0 ≤ t
    · rw [decide_eq_true ht] at DV
      go_enter Try.func27, Try.ntmps27
      go_wp2_with fail
      go_quiet (fail)
      go_wp2_with fail
      go_ret
      exact ⟨retb DV.out.symm, _, rfl⟩
    · rw [decide_eq_false ht] at DV
      have hdec : decide (x0 ≤ t) = false := decide_eq_false ht
      go_enter Try.func27, Try.ntmps27
      go_wp2_with fail
      go_quiet (fail)
      go_wp2_with fail
      go_ret
      exact ⟨retb DV.out.symm, _, rfl⟩
set_option maxRecDepth 100000 in
set_option maxHeartbeats 16000000 in
theorem pready_c (N b : Nat) (s t : Int) (R : List Ev) (ch : Bool) (w : World) (h : Pk N w b s t R) (hl : R.length ≤ 1000) :
    Calls Try.prog 18 #[.pointer (some ⟨b, 0, none⟩), .bool ch] w fun e w' => e = .returned (.bool (dueV t (if ch = true then dropR t R else R))) ∧ Pk N w' b s t (if ch = true then dropR t R else R) ∧ Fn b N w w' := by
  have H0 := Lib.hid h
  obtain ⟨Z, hZ⟩ : ∃ Z, (if ch = true then dropR t R else R) = Z := ⟨_, rfl⟩
  have HZ : Hid ((if ch = true then dropR t R else R) = Z) := Lib.hid hZ
  have HLN := Lib.hid hl
  rw [hZ]
  clear h hZ hl
  go_enter Try.func18, Try.ntmps18
  go_wp2_with fail
  go_loopw [] (fun wr => ∃ R1, Hid (Pk N wr b s t R1) ∧ Fn b N w wr ∧ Hid ((if ch = true then dropR t R1 else R1) = Z ∧ R1.length ≤ 1000)) (fun wr => evLen b wr)
  case atStart => exact ⟨R, H0, Fn.refl _ _ _, Lib.hid ⟨HZ.out, HLN.out⟩⟩
  case round =>
    obtain ⟨R1, HR, hfn, HD⟩ := hrel
    have ML := Lib.hid HR.out.len
    have DUE := Lib.hid (fun n => due_c N b s t R1 (wr.drewN n) (HR.out.below (below_drewN (Below.refl _ _) n)))
    have DU0 : Hid (Calls Try.prog 27 #[.pointer (some ⟨b, 0, none⟩)] wr fun e w' => e = .returned (.bool (dueV t R1)) ∧ ∃ n, w' = wr.drewN n) := Lib.hid (due_c N b s t R1 wr HR.out)
    cases ch with
    | false =>
      have hRZ : R1 = Z := by have := HD.out.1; simpa using this
      subst hRZ
      clear HD HZ
      go_wp2_with (go_at_call 27; (with_reducible refine (DU0.out).mono ?_); rintro e w' ⟨rfl, n1, rfl⟩)
      go_ret
      exact ⟨rfl, HR.out.below (below_drewN (Below.refl _ _) _), hfn.drewN _⟩
    | true =>
      by_cases hdu : dueV t R1 = true
      · cases R1 with
        | nil => cases hdu
        | cons x R2 =>
          obtain ⟨g, c, l', hbg, hgN, h1, _, _, _, _, _, k0, k1⟩ := HR.out.head
          have q0 := h1.c2
          have IS := Lib.hid (fun w => is_c x.2.1 w)
          obtain ⟨bc, hbc⟩ : ∃ bc, isC x.2.1 = bc := ⟨_, rfl⟩
          rw [hbc] at IS
          rw [hdu] at DUE DU0
          have hx1 : x.1 ≤ t := by simpa [dueV] using hdu
          cases bc with
          | true =>
            have HZ3 : Hid (x :: R2 = Z) := Lib.hid (by have := HD.out.1; rw [if_pos rfl] at this; unfold dropR at this; rwa [if_neg (by rw [hbc]; simp)] at this)
            have HF : Hid (Pk N wr b s t Z ∧ dueV t Z = true) := Lib.hid (by rw [← HZ3.out]; exact ⟨HR.out, hdu⟩)
            obtain ⟨x0, x1, x2⟩ := x
            simp only at k0 k1 IS
            obtain ⟨m, hm⟩ : ∃ m, R2.length = m := ⟨_, rfl⟩
            rw [hm] at q0
            have g2 : 0 < m + 1 := by omega
            have g1 : (0 : Int) < (m : Int) + 1 := by omega
            clear h1 HR HD HZ hbc hdu hm
            go_wp2_with (first
              | (go_at_call 19; (with_reducible refine (IS.out _).mono ?_); rintro e w' ⟨rfl, rfl⟩)
              | (go_at_call 27; (with_reducible refine (DU0.out).mono ?_); rintro e w' ⟨rfl, n1, rfl⟩)
              | (go_at_call 27; (with_reducible refine (DUE.out _).mono ?_); rintro e w' ⟨rfl, n2, rfl⟩))
            go_ret
            exact ⟨retb HF.out.2.symm, HF.out.1.below (below_drewN (Below.refl _ _) _), hfn.drewN _⟩
          | false =>
            have HD2 : Hid ((if true = true then dropR t R2 else R2) = Z ∧ R2.length ≤ 1000) := Lib.hid (by have := HD.out; rw [if_pos rfl] at this ⊢; unfold dropR at this; rw [if_pos ⟨hx1, hbc⟩] at this; exact ⟨this.1, by have := this.2; simp at this; omega⟩)
            have TK : Hid (∀ n, Calls Try.prog 21 #[.pointer (some ⟨b, 0, none⟩)] (wr.drewN n) fun e w' => e = .returned (.agg #[.int .i64 x.1, .int .i64 x.2.1, .int .i64 x.2.2]) ∧ Hid (Pk N w' b s t R2) ∧ Fn b N w w') := by
              refine Lib.hid fun n => (take_pk N b s t x R2 _ (HR.out.below (below_drewN (Below.refl _ _) n)) (by have := HD2.out.2; omega)).mono ?_
              rintro e w' ⟨rfl, h1, h2⟩
              exact ⟨rfl, Lib.hid h1, (hfn.drewN n).trans h2⟩
            obtain ⟨x0, x1, x2⟩ := x
            simp only at k0 k1 IS TK
            obtain ⟨m, hm⟩ : ∃ m, R2.length = m := ⟨_, rfl⟩
            have HMM := Lib.hid hm
            rw [hm] at q0
            have g2 : 0 < m + 1 := by omega
            have g1 : (0 : Int) < (m : Int) + 1 := by omega
            clear h1 HR HD HZ hbc hdu hm
            go_wp2_with (first
              | (go_at_call 19; (with_reducible refine (IS.out _).mono ?_); rintro e w' ⟨rfl, rfl⟩)
              | (go_at_call 27; (with_reducible refine (DU0.out).mono ?_); rintro e w' ⟨rfl, n1, rfl⟩)
              | (go_at_call 21; (with_reducible refine (TK.out _).mono ?_); rintro e w2 ⟨rfl, HP2, hf2⟩))
            go_roundw
            case rel => exact ⟨R2, HP2, hf2, HD2⟩
            case measure =>
              have e1 := HP2.out.len
              have e2 := ML.out
              rw [e1, e2]
              simp
      · have hdf : dueV t R1 = false := by simpa using hdu
        have HZ3 : Hid (Pk N wr b s t Z ∧ dueV t Z = false) := by
          have h1 := HD.out.1
          rw [if_pos rfl] at h1
          have h2 : dropR t R1 = R1 := by
            cases R1 with
            | nil => rfl
            | cons x R2 =>
              unfold dropR
              rw [if_neg]
              rintro ⟨h3, _⟩
              simp [dueV] at hdf
              omega
          rw [h2] at h1
          exact Lib.hid (by rw [← h1]; exact ⟨HR.out, hdf⟩)
        rw [hdf] at DUE DU0
        clear HR HD HZ hdf hdu
        go_wp2_with (first
          | (go_at_call 27; (with_reducible refine (DU0.out).mono ?_); rintro e w' ⟨rfl, n1, rfl⟩)
          | (go_at_call 27; (with_reducible refine (DUE.out _).mono ?_); rintro e w' ⟨rfl, n2, rfl⟩))
        go_ret
        exact ⟨retb HZ3.out.2.symm, HZ3.out.1.below (below_drewN (Below.refl _ _) _), hfn.drewN _⟩
end Go.Proofs.Ythigimmlhgdchaa
