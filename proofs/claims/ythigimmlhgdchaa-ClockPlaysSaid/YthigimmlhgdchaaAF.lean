/- The program's Next, any events. -/
import Derived.Test.YthigimmlhgdchaaAE
namespace Go.Proofs.Ythigimmlhgdchaa
set_option linter.unusedVariables false
set_option linter.unusedSimpArgs false
open Go.RowKit

theorem Pk.set1 {N b : Nat} {w : World} {s t : Int} {R : List Ev} (h : Pk N w b s t R) (m : Int) : Pk N (w.setCell ⟨b, 1, none⟩ (.int .i64 m)) b s m R := by
  obtain ⟨a, c, l', h1, h2, h3⟩ := h
  refine ⟨a, c, l', h1.set1 m, ?_, h3⟩
  exact ownsRow_same h2 (fun g hg => Below.heap_setCell _ _ _ _ (by have := (ownsRow_base h2 g hg).1; show g ≠ b; omega))
theorem Pk.c1 {N b : Nat} {w : World} {s t : Int} {R : List Ev} (h : Pk N w b s t R) : w.cell? ⟨b, 1, none⟩ = some (.int .i64 t) ∧ w.frozen? ⟨b, 1, none⟩ = false ∧ b < w.heap.size := by
  obtain ⟨a, c, l', h1, _⟩ := h
  exact ⟨h1.c1, h1.fz 1, h1.lt⟩
theorem Fn.set {b N i : Nat} {w : World} {x : Value} (hb : b < N) : Fn b N w (w.setCell ⟨b, i, none⟩ x) := ⟨rfl, rfl, rfl, by simp [World.setCell], fun k hk hn => Below.heap_setCell _ _ _ _ (by show k ≠ b; omega)⟩
/-- What Next answers and leaves. -/
def PN (N b : Nat) (s t : Int) (Z : List Ev) (w : World) (e : Ending) (w' : World) : Prop :=
  (Z = [] ∧ e = .returned (.tuple #[.int .i64 0, .bool false]) ∧ Pk N w' b s t [] ∧ Fn b N w w') ∨ ∃ x R, Z = x :: R ∧ e = .returned (.tuple #[.int .i64 x.2.1, .bool true]) ∧ Pk N w' b s (max t x.1) R ∧ Fn b N w w'
set_option maxRecDepth 100000 in
set_option maxHeartbeats 16000000 in
theorem pnext_c (N b : Nat) (s t : Int) (R : List Ev) (ch : Bool) (w : World) (h : Pk N w b s t R) (hl : R.length ≤ 1000) (hbN : b < N) :
    Calls Try.prog 10 #[.pointer (some ⟨b, 0, none⟩), .bool ch] w (PN N b s t (if ch = true then dropN R else R) w) := by
  have H0 := Lib.hid h
  obtain ⟨Z, hZ⟩ : ∃ Z, (if ch = true then dropN R else R) = Z := ⟨_, rfl⟩
  have HZ : Hid ((if ch = true then dropN R else R) = Z) := Lib.hid hZ
  have HLN := Lib.hid hl
  rw [hZ]
  clear h hZ hl
  go_enter Try.func10, Try.ntmps10
  go_wp2_with fail
  go_loopw [] (fun wr => ∃ R1, Hid (Pk N wr b s t R1) ∧ Fn b N w wr ∧ Hid ((if ch = true then dropN R1 else R1) = Z ∧ R1.length ≤ 1000)) (fun wr => evLen b wr)
  case atStart => exact ⟨R, H0, Fn.refl _ _ _, Lib.hid ⟨HZ.out, HLN.out⟩⟩
  case round =>
    obtain ⟨R1, HR, hfn, HD⟩ := hrel
    have ML := Lib.hid HR.out.len
    cases R1 with
    | nil =>
      have HZ3 : Hid (PN N b s t Z w (.returned (.tuple #[.int .i64 0, .bool false])) wr) := by
        have e : Z = [] := by have := HD.out.1; rw [← this]; cases ch <;> rfl
        rw [e]
        exact Lib.hid (.inl ⟨rfl, rfl, HR.out, hfn⟩)
      obtain ⟨a, c, l', h1, _⟩ := HR.out
      have q0 := h1.c2
      simp only [List.length_nil] at q0
      clear h1 HR HD HZ
      cases ch with
      | true =>
        go_wp2_with fail
        go_ret2
        exact HZ3.out
      | false =>
        go_wp2_with fail
        go_ret2
        exact HZ3.out
    | cons x R2 =>
      obtain ⟨g, c, l', hbg, hgN, h1, _, _, _, _, _, k0, k1⟩ := HR.out.head
      have q0 := h1.c2
      have IS := Lib.hid (fun w => is_c x.2.1 w)
      obtain ⟨bc, hbc⟩ : ∃ bc, isC x.2.1 = bc := ⟨_, rfl⟩
      rw [hbc] at IS
      have hR2 : R2.length ≤ 1000 := by have := HD.out.2; simp at this; omega
      have TP := take_pk N b s t x R2 wr HR.out (by omega)
      by_cases hdr : ch = true ∧ bc = false
      · obtain ⟨rfl, rfl⟩ := hdr
        have HD2 : Hid ((if true = true then dropN R2 else R2) = Z ∧ R2.length ≤ 1000) := Lib.hid ⟨by have := HD.out.1; rw [if_pos rfl] at this ⊢; unfold dropN at this; rwa [if_pos hbc] at this, hR2⟩
        have TK : Hid (Calls Try.prog 21 #[.pointer (some ⟨b, 0, none⟩)] wr fun e w' => e = .returned (.agg #[.int .i64 x.1, .int .i64 x.2.1, .int .i64 x.2.2]) ∧ Hid (Pk N w' b s t R2) ∧ Fn b N w w') := by
          refine Lib.hid (TP.mono ?_)
          rintro e w' ⟨rfl, h1, h2⟩
          exact ⟨rfl, Lib.hid h1, hfn.trans h2⟩
        obtain ⟨x0, x1, x2⟩ := x
        simp only at k0 k1 IS TK
        obtain ⟨m, hm⟩ : ∃ m, R2.length = m := ⟨_, rfl⟩
        rw [hm] at q0
        have g2 : 0 < m + 1 := by omega
        have g1 : (0 : Int) < (m : Int) + 1 := by omega
        clear h1 HR HD HZ hbc hm TP
        go_wp2_with (first
          | (go_at_call 19; (with_reducible refine (IS.out _).mono ?_); rintro e w' ⟨rfl, rfl⟩)
          | (go_at_call 21; (with_reducible refine (TK.out).mono ?_); rintro e w2 ⟨rfl, HP2, hf2⟩))
        go_roundw
        case rel => exact ⟨R2, HP2, hf2, HD2⟩
        case measure =>
          have e1 := HP2.out.len
          have e2 := ML.out
          rw [e1, e2]
          simp
      · have HZe : Hid (Z = x :: R2) := Lib.hid (by
          have := HD.out.1
          cases ch with
          | false => exact this.symm
          | true =>
            rw [if_pos rfl] at this
            unfold dropN at this
            rw [if_neg (by rw [hbc]; exact fun h => hdr ⟨rfl, h⟩)] at this
            exact this.symm)
        have TK : Hid (Calls Try.prog 21 #[.pointer (some ⟨b, 0, none⟩)] wr fun e w' => e = .returned (.agg #[.int .i64 x.1, .int .i64 x.2.1, .int .i64 x.2.2]) ∧ (w'.cell? ⟨b, 1, none⟩ = some (.int .i64 t) ∧ w'.frozen? ⟨b, 1, none⟩ = false ∧ b < w'.heap.size) ∧ ((w'.alloc (.cells #[.int .i64 x.1, .int .i64 x.2.1, .int .i64 x.2.2] 58)).cell? ⟨b, 1, none⟩ = some (.int .i64 t) ∧ (w'.alloc (.cells #[.int .i64 x.1, .int .i64 x.2.1, .int .i64 x.2.2] 58)).frozen? ⟨b, 1, none⟩ = false) ∧ Hid (Pk N w' b s t R2 ∧ Fn b N w w')) := by
          refine Lib.hid (TP.mono ?_)
          rintro e w' ⟨rfl, h1, h2⟩
          have ha := (h1.below ((Below.refl w'.heap.size w').alloc (Nat.le_refl _) (.cells #[.int .i64 x.1, .int .i64 x.2.1, .int .i64 x.2.2] 58))).c1
          exact ⟨rfl, h1.c1, ⟨ha.1, ha.2.1⟩, Lib.hid ⟨h1, hfn.trans h2⟩⟩
        have FIN : Hid (∀ (w2 : World) (y : Int), max t x.1 = y → Pk N w2 b s t R2 ∧ Fn b N w w2 → ∀ n, PN N b s t Z w (.returned (.tuple #[.int .i64 x.2.1, .bool true])) (((w2.setCell ⟨b, 1, none⟩ (.int .i64 y)).alloc (.cells #[.int .i64 x.1, .int .i64 x.2.1, .int .i64 x.2.2] 58)).drewN n)) := by
          refine Lib.hid fun w2 y hy hh n => .inr ⟨x, R2, HZe.out, rfl, ?_, ?_⟩
          · rw [hy]
            exact (hh.1.set1 y).below (below_drewN ((Below.refl _ _).alloc (Nat.le_refl _) _) n)
          · exact hh.2.trans ((Fn.set hbN).trans (Fn.of_below (below_drewN ((Below.refl _ _).alloc (Nat.le_refl _) _) n)))
        have hmm : (t < x.1 ∧ max t x.1 = x.1) ∨ (x.1 ≤ t ∧ max t x.1 = t) := by omega
        obtain ⟨x0, x1, x2⟩ := x
        simp only at k0 k1 IS TK FIN hmm
        obtain ⟨m, hm⟩ : ∃ m, R2.length = m := ⟨_, rfl⟩
        rw [hm] at q0
        have g2 : 0 < m + 1 := by omega
        have g1 : (0 : Int) < (m : Int) + 1 := by omega
        have g3 : ¬ ((m : Int) + 1 = 0) := by omega
        clear h1 HR HD HZ hbc hm TP HZe hfn ML
        rcases hmm with ⟨m1, m2⟩ | ⟨m1, m2⟩
        all_goals
          cases ch with
          | true =>
            have hbt : bc = true := by
              cases bc with
              | true => rfl
              | false => exact absurd ⟨rfl, rfl⟩ hdr
            subst hbt
            have FIN2 := Lib.hid (fun w2 => FIN.out w2 _ m2)
            clear hdr FIN m2
            go_wp2_with (first
              | (go_at_call 19; (with_reducible refine (IS.out _).mono ?_); rintro e w' ⟨rfl, rfl⟩)
              | (go_at_call 21; (with_reducible refine (TK.out).mono ?_); rintro e w2 ⟨rfl, ⟨y1, y2, y3⟩, ⟨y4, y5⟩, EN⟩))
            go_big_region
            all_goals
              go_wp2_with fail
              go_ret2
              exact FIN2.out w2 EN.out 1
          | false =>
            have FIN2 := Lib.hid (fun w2 => FIN.out w2 _ m2)
            clear hdr FIN m2
            go_wp2_with (first
              | (go_at_call 19; (with_reducible refine (IS.out _).mono ?_); rintro e w' ⟨rfl, rfl⟩)
              | (go_at_call 21; (with_reducible refine (TK.out).mono ?_); rintro e w2 ⟨rfl, ⟨y1, y2, y3⟩, ⟨y4, y5⟩, EN⟩))
            go_big_region
            all_goals
              go_wp2_with fail
              go_ret2
              exact FIN2.out w2 EN.out 1
end Go.Proofs.Ythigimmlhgdchaa
