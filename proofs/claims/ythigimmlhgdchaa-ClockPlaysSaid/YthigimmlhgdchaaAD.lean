/- The reference's Next, any events. -/
import Derived.Test.YthigimmlhgdchaaAC
namespace Go.Proofs.Ythigimmlhgdchaa
set_option linter.unusedVariables false
set_option linter.unusedSimpArgs false
open Go.RowKit

theorem Rc.set1 {w : World} {b : Nat} {s t : Int} {R : List Ev} (h : Rc w b s t R) (m : Int) : Rc (w.setCell ⟨b, 1, none⟩ (.int .i64 m)) b s m R := by
  obtain ⟨a, c, h1, h2, h3⟩ := h
  exact ⟨a, c, h1.set1 m, h2.fb (Fb.set _ _) h3, h3⟩
theorem Rc.c1 {w : World} {b : Nat} {s t : Int} {R : List Ev} (h : Rc w b s t R) : w.cell? ⟨b, 1, none⟩ = some (.int .i64 t) ∧ w.frozen? ⟨b, 1, none⟩ = false ∧ b < w.heap.size := by
  obtain ⟨a, c, h1, _⟩ := h
  exact ⟨h1.c1, h1.fz 1, h1.lt⟩
/-- What Next answers and leaves. -/
def RN (b : Nat) (s t : Int) (Z : List Ev) (w : World) (e : Ending) (w' : World) : Prop :=
  (Z = [] ∧ e = .returned (.tuple #[.int .i64 0, .bool false]) ∧ Rc w' b s t [] ∧ Fb b w w') ∨ ∃ x R, Z = x :: R ∧ e = .returned (.tuple #[.int .i64 x.2.1, .bool true]) ∧ Rc w' b s (max t x.1) R ∧ Fb b w w'
/-- Behind the first event's taking off. -/
theorem rn_fin {w wr W : World} {b : Nat} {s t : Int} {x : Ev} {R : List Ev} {X : Obj} (h : Rc W b s t R) (f : Fb b w W) : (t < x.1 → ∀ n, RN b s t (x :: R) w (.returned (.tuple #[.int .i64 x.2.1, .bool true])) (((W.setCell ⟨b, 1, none⟩ (.int .i64 x.1)).alloc X).drewN n)) ∧ (¬ t < x.1 → ∀ n, RN b s t (x :: R) w (.returned (.tuple #[.int .i64 x.2.1, .bool true])) ((W.alloc X).drewN n)) := by
  refine ⟨fun ht n => .inr ⟨x, R, rfl, rfl, ?_, ?_⟩, fun ht n => .inr ⟨x, R, rfl, rfl, ?_, ?_⟩⟩
  · rw [show max t x.1 = x.1 by omega]
    exact (h.set1 x.1).below (below_drewN ((Below.refl _ _).alloc (Nat.le_refl _) _) n)
  · exact f.trans ((Fb.set _ _).trans (Fb.of_below (below_drewN ((Below.refl _ _).alloc (Nat.le_refl _) _) n)))
  · rw [show max t x.1 = t by omega]
    exact h.below (below_drewN ((Below.refl _ _).alloc (Nat.le_refl _) _) n)
  · exact f.trans (Fb.of_below (below_drewN ((Below.refl _ _).alloc (Nat.le_refl _) _) n))
set_option maxRecDepth 100000 in
set_option maxHeartbeats 16000000 in
theorem rnext_c (b : Nat) (s t : Int) (R : List Ev) (ch : Bool) (w : World) (h : Rc w b s t R) (hl : R.length ≤ 1000) :
    Calls Try.prog 26 #[.pointer (some ⟨b, 0, none⟩), .bool ch] w (RN b s t (if ch = true then dropN R else R) w) := by
  have H0 := Lib.hid h
  obtain ⟨Z, hZ⟩ : ∃ Z, (if ch = true then dropN R else R) = Z := ⟨_, rfl⟩
  have HZ : Hid ((if ch = true then dropN R else R) = Z) := Lib.hid hZ
  rw [hZ]
  clear h hl hZ
  go_enter Try.func26, Try.ntmps26
  go_wp2_with fail
  go_loopw [] (fun wr => ∃ R1, Hid (Rc wr b s t R1) ∧ Fb b w wr ∧ Hid ((if ch = true then dropN R1 else R1) = Z)) (fun wr => evLen b wr)
  case atStart => exact ⟨R, H0, Fb.of_below (Below.refl _ _), HZ⟩
  case round =>
    obtain ⟨R1, HR, hfb, HD⟩ := hrel
    obtain ⟨a, c, hC, hE, hgb⟩ := HR.out
    have q0 := hC.c2
    have q1 := hC.c1
    have hbl := hC.lt
    have z2 := hC.fz 2
    have ML := Lib.hid HR.out.len
    cases R1 with
    | nil =>
      have HZ3 : Hid (RN b s t Z w (.returned (.tuple #[.int .i64 0, .bool false])) wr) := by
        have e : Z = [] := by have := HD.out; rw [← this]; cases ch <;> rfl
        rw [e]
        exact Lib.hid (.inl ⟨rfl, rfl, HR.out, hfb⟩)
      simp only [List.length_nil] at q0
      clear HR hC hE hgb HD HZ
      cases ch with
      | true =>
        go_wp2_with fail
        go_ret2
        exact HZ3.out
      | false =>
        go_wp2_with fail
        go_ret2
        exact HZ3.out
    | cons x R2 =>
      obtain ⟨hn, hcn, g, o, rfl, k0, k1, hE2⟩ := evs_head hE
      have hbg := hgb g o rfl
      obtain ⟨bc, hbc⟩ : ∃ bc, isC x.2.1 = bc := ⟨_, rfl⟩
      have IS := Lib.hid (fun w => rchar_c x.2.1 w)
      rw [hbc] at IS
      have hcl : (x :: R2).length = R2.length + 1 := rfl
      rw [hcl] at q0 hE2 ML hC
      rw [Nat.add_sub_cancel] at hE2
      have T1 := Lib.hid (Rc.tail (x := x) (R := R2) (t2 := t) hC hE2 hbg)
      have T0 : Hid (R2 = [] → c = 1 → Rc (wr.setCell ⟨b, 2, none⟩ (.slice (some ⟨g, o, none⟩) 0 0)) b s t []) := Lib.hid fun h1 h2 => by subst h1 h2; exact Rc.tail0 (x := x) hC hbg
      have hcm : R2.length + 1 ≤ c := by simpa using hcn
      obtain ⟨m, hm⟩ : ∃ m, R2.length = m := ⟨_, rfl⟩
      have HM := Lib.hid hm
      rw [hm] at q0 T1 ML hcm
      have g1 : 1 ≤ c := by omega
      have g2 : (1 : Int) ≤ c := by omega
      have g3 : (0 : Int) < (m : Int) + 1 := by omega
      have g4 : ¬ ((m : Int) + 1 = 0) := by omega
      have FS : Fb b w (wr.setCell ⟨b, 2, none⟩ (.slice (some ⟨g, o + 2, none⟩) m (c - 1))) := hfb.trans (Fb.set _ _)
      have FS0 : Fb b w (wr.setCell ⟨b, 2, none⟩ (.slice (some ⟨g, o, none⟩) 0 0)) := hfb.trans (Fb.set _ _)
      by_cases hdr : ch = true ∧ bc = false
      · obtain ⟨rfl, rfl⟩ := hdr
        have HD2 : Hid ((if true = true then dropN R2 else R2) = Z) := Lib.hid (by have := HD.out; rw [if_pos rfl] at this ⊢; unfold dropN at this; rwa [if_pos hbc] at this)
        obtain ⟨x0, x1, x2⟩ := x
        simp only at k0 k1 IS
        have HFS := Lib.hid FS
        have HFS0 := Lib.hid FS0
        clear HR hC hE hgb HD HZ hE2 hbc hn hcn hcl hm FS FS0
        by_cases hc1 : c = 1
        · have hm0 : m = 0 := by omega
          subst hm0
          have hc2 : 1 = c := hc1.symm
          subst hc2
          have R0 : R2 = [] := List.eq_nil_of_length_eq_zero HM.out
          have T2 := Lib.hid (T0.out R0 rfl)
          clear T0 T1
          go_wp2_with (go_at_call 23; (with_reducible refine (IS.out _).mono ?_); rintro e w' ⟨rfl, rfl⟩)
          go_roundw
          case rel => exact ⟨[], T2, HFS0.out, Lib.hid (by have := HD2.out; rw [R0] at this; exact this)⟩
          case measure =>
            have g3 := (T2.out).len
            have g4 := ML.out
            rw [g3, g4]
            simp
        · go_wp2_with (go_at_call 23; (with_reducible refine (IS.out _).mono ?_); rintro e w' ⟨rfl, rfl⟩)
          go_roundw
          case rel => exact ⟨R2, T1, HFS.out, HD2⟩
          case measure =>
            have g3 := (T1.out).len
            have g4 := ML.out
            rw [g3, g4, HM.out]
            omega
      · have HD2 : Hid (x :: R2 = Z) := Lib.hid (by
          have := HD.out
          cases ch with
          | false => exact this
          | true =>
            rw [if_pos rfl] at this
            unfold dropN at this
            rwa [if_neg (by rw [hbc]; exact fun h => hdr ⟨rfl, h⟩)] at this)
        obtain ⟨x0, x1, x2⟩ := x
        simp only at k0 k1 IS
        have E1 := Lib.hid (rn_fin (wr := wr) (x := (x0, x1, x2)) (X := .cells #[.int .i64 x0, .int .i64 x1] 32 (0, 0)) T1.out FS)
        have E0 : Hid (R2 = [] → c = 1 → _) := Lib.hid (fun h1 h2 => rn_fin (wr := wr) (x := (x0, x1, x2)) (X := .cells #[.int .i64 x0, .int .i64 x1] 32 (0, 0)) (T0.out h1 h2) FS0)
        have y1 := T1.out.c1
        have Y0 := Lib.hid (fun h1 h2 => (T0.out h1 h2).c1)
        have ba : Below (wr.setCell ⟨b, 2, none⟩ (.slice (some ⟨g, o + 2, none⟩) m (c - 1))).heap.size (wr.setCell ⟨b, 2, none⟩ (.slice (some ⟨g, o + 2, none⟩) m (c - 1))) ((wr.setCell ⟨b, 2, none⟩ (.slice (some ⟨g, o + 2, none⟩) m (c - 1))).alloc (.cells #[.int .i64 x0, .int .i64 x1] 32)) := (Below.refl _ _).alloc (Nat.le_refl _) _
        have y2 := (T1.out.below ba).c1
        have Y2 := Lib.hid (fun h1 h2 => ((T0.out h1 h2).below ((Below.refl _ _).alloc (Nat.le_refl _) (.cells #[.int .i64 x0, .int .i64 x1] 32))).c1)
        have q5 := (hC.below ((Below.refl wr.heap.size wr).alloc (Nat.le_refl _) (.cells #[.int .i64 x0, .int .i64 x1] 32))).c2
        rw [hm] at q5
        rw [HD2.out] at E1
        have HZe : Hid (Z = (x0, x1, x2) :: R2) := Lib.hid HD2.out.symm
        have ht : t < x0 ∨ x0 ≤ t := by omega
        clear HR hC hE hgb HD HZ hE2 hbc hn hcn hcl hm FS FS0 ba HD2 ML hfb
        have hcases : c = 1 ∨ c ≠ 1 := by omega
        rcases hcases with hc1 | hc1
        · have hm0 : m = 0 := by omega
          subst hm0
          have hc2 : 1 = c := hc1.symm
          subst hc2
          have R0 : R2 = [] := List.eq_nil_of_length_eq_zero HM.out
          have E2 := Lib.hid (E0.out R0 rfl)
          obtain ⟨y3, y4, y5⟩ := Y0.out R0 rfl
          obtain ⟨y6, y7, y8⟩ := Y2.out R0 rfl
          have HZ1 : Hid (Z = [(x0, x1, x2)]) := Lib.hid (by rw [HZe.out, R0])
          clear T0 T1 E0 E1 Y0 Y2 y1 y2 HZe
          rcases ht with ht | ht
          · have E3 := Lib.hid (E2.out.1 ht)
            clear E2
            cases ch with
            | true =>
              have hbt : bc = true := by
                cases bc with
                | true => rfl
                | false => exact absurd ⟨rfl, rfl⟩ hdr
              subst hbt
              clear hdr
              go_wp2_with (go_at_call 23; (with_reducible refine (IS.out _).mono ?_); rintro e w' ⟨rfl, rfl⟩)
              go_big_region
              all_goals
                go_wp2_with fail
                go_ret2
                first | (rw [HZ1.out]; exact E3.out 1) | exact E3.out 1
            | false =>
              clear hdr
              go_wp2_with (go_at_call 23; (with_reducible refine (IS.out _).mono ?_); rintro e w' ⟨rfl, rfl⟩)
              go_big_region
              all_goals
                go_wp2_with fail
                go_ret2
                first | (rw [HZ1.out]; exact E3.out 1) | exact E3.out 1
          · have E3 := Lib.hid (E2.out.2 (by simp only; omega))
            have hdec : decide (t < x0) = false := decide_eq_false (by omega)
            clear E2
            cases ch with
            | true =>
              have hbt : bc = true := by
                cases bc with
                | true => rfl
                | false => exact absurd ⟨rfl, rfl⟩ hdr
              subst hbt
              clear hdr
              go_wp2_with (go_at_call 23; (with_reducible refine (IS.out _).mono ?_); rintro e w' ⟨rfl, rfl⟩)
              go_big_region
              all_goals
                go_wp2_with fail
                go_ret2
                first | (rw [HZ1.out]; exact E3.out 1) | exact E3.out 1
            | false =>
              clear hdr
              go_wp2_with (go_at_call 23; (with_reducible refine (IS.out _).mono ?_); rintro e w' ⟨rfl, rfl⟩)
              go_big_region
              all_goals
                go_wp2_with fail
                go_ret2
                first | (rw [HZ1.out]; exact E3.out 1) | exact E3.out 1
        · obtain ⟨y3, y4, y5⟩ := y1
          obtain ⟨y6, y7, y8⟩ := y2
          clear T0 T1 E0 Y0 Y2
          rcases ht with ht | ht
          · have E3 := Lib.hid (E1.out.1 ht)
            clear E1
            cases ch with
            | true =>
              have hbt : bc = true := by
                cases bc with
                | true => rfl
                | false => exact absurd ⟨rfl, rfl⟩ hdr
              subst hbt
              clear hdr
              go_wp2_with (go_at_call 23; (with_reducible refine (IS.out _).mono ?_); rintro e w' ⟨rfl, rfl⟩)
              go_big_region
              all_goals
                go_wp2_with fail
                go_ret2
                first | (rw [HZe.out]; exact E3.out 1) | exact E3.out 1
            | false =>
              clear hdr
              go_wp2_with (go_at_call 23; (with_reducible refine (IS.out _).mono ?_); rintro e w' ⟨rfl, rfl⟩)
              go_big_region
              all_goals
                go_wp2_with fail
                go_ret2
                first | (rw [HZe.out]; exact E3.out 1) | exact E3.out 1
          · have E3 := Lib.hid (E1.out.2 (by simp only; omega))
            have hdec : decide (t < x0) = false := decide_eq_false (by omega)
            clear E1
            cases ch with
            | true =>
              have hbt : bc = true := by
                cases bc with
                | true => rfl
                | false => exact absurd ⟨rfl, rfl⟩ hdr
              subst hbt
              clear hdr
              go_wp2_with (go_at_call 23; (with_reducible refine (IS.out _).mono ?_); rintro e w' ⟨rfl, rfl⟩)
              go_big_region
              all_goals
                go_wp2_with fail
                go_ret2
                first | (rw [HZe.out]; exact E3.out 1) | exact E3.out 1
            | false =>
              clear hdr
              go_wp2_with (go_at_call 23; (with_reducible refine (IS.out _).mono ?_); rintro e w' ⟨rfl, rfl⟩)
              go_big_region
              all_goals
                go_wp2_with fail
                go_ret2
                first | (rw [HZe.out]; exact E3.out 1) | exact E3.out 1
end Go.Proofs.Ythigimmlhgdchaa
