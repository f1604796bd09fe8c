/- down. -/
import Derived.Test.YthigimmlhgdchaaS
namespace Go.Proofs.Ythigimmlhgdchaa
set_option linter.unusedVariables false
set_option linter.unusedSimpArgs false
open Go.RowKit

theorem Rw.own {w : World} {B N : Nat} {v : Value} {l : List Ev} (h : Rw w B v l) (hN : l.length = N) : w.ownsRow B 58 3 v N (cells3 l) := by
  subst hN; exact h
theorem Rw.below {w w' : World} {B : Nat} {v : Value} {l : List Ev} (h : Rw w B v l) (hw : Below w.heap.size w w') : Rw w' B v l :=
  ownsRow_same h (fun g' hg' => hw.block g' (ownsRow_base h g' hg').2)
def IsB (e : Ending) : Prop := ∃ r, e = .returned (.bool r)
theorem isb (r : Bool) : IsB (.returned (.bool r)) := ⟨r, rfl⟩
theorem swp_sw (l : List Ev) (i j : Nat) : swp l i j = sw l i j := rfl
set_option maxRecDepth 100000 in
set_option maxHeartbeats 8000000 in
theorem down_c (b B g c n N i0 : Nat) (s t : Int) (l R : List Ev) (w : World) (hC : Clk 54 w b s t (.slice (some ⟨g, 0, none⟩) N c)) (h : Rw w B (.slice (some ⟨g, 0, none⟩) N c) l) (hN : l.length = N) (hb : b < B) (hn : n ≤ N) (hs : N ≤ 100000) (hi0 : i0 ≤ N) (hD : Dn n l i0 R) :
    Calls Try.prog 29 #[.iface 60 (.pointer (some ⟨b, 2, none⟩)), .int .i64 i0, .int .i64 n] w fun e w' => IsB e ∧ Clk 54 w' b s t (.slice (some ⟨g, 0, none⟩) N c) ∧ Rw w' B (.slice (some ⟨g, 0, none⟩) N c) R ∧ F2 b g w w' := by
  have hg : b ≠ g := by have := (row_blk (h.own hN)).1; omega
  have HC := Lib.hid hC
  have HR := Lib.hid h
  have HN := Lib.hid hN
  have HD := Lib.hid hD
  clear hC h hN hD
  go_enter Try.func29, Try.ntmps29
  go_wp2_with fail
  go_loopw [7] (fun v7 wx => ∃ (i : Nat) (l' : List Ev), v7 = .int .i64 i ∧ i ≤ N ∧ Hid (l'.length = N) ∧ Hid (Clk 54 wx b s t (.slice (some ⟨g, 0, none⟩) N c)) ∧ Hid (Rw wx B (.slice (some ⟨g, 0, none⟩) N c) l') ∧ Hid (F2 b g w wx) ∧ Hid (Dn n l' i R)) (fun v7 _ => n - (intOf v7).toNat)
  case atStart => exact ⟨i0, l, rfl, hi0, HN, HC, HR, Lib.hid (F2.of_below (Below.refl _ _)), HD⟩
  case round =>
    obtain ⟨i, l', rfl, hi, HL, HC, HR, HF, HD⟩ := hrel
    have i1 : IntKind.i64.wrap (2 * (i : Int)) = 2 * i := by simp only [IntKind.wrap_i64]; omega
    have i2 : IntKind.i64.wrap (2 * (i : Int) + 1) = 2 * i + 1 := by simp only [IntKind.wrap_i64]; omega
    have i3 : IntKind.i64.wrap (2 * (i : Int) + 1 + 1) = 2 * i + 1 + 1 := by simp only [IntKind.wrap_i64]; omega
    have i4 : ¬ 2 * (i : Int) + 1 < 0 := by omega
    have M0 := run_less _ _ wr HC.out.c2
    have LS : Hid (∀ (w1 : World) (x y : Int) (p q : Nat), Below wr.heap.size wr w1 → x = p → y = q → p < N → q < N → Calls Try.prog 53 #[.slice (some ⟨g, 0, none⟩) N c, .int .i64 x, .int .i64 y] w1 fun e w' => e = .returned (.bool (lt3 (ix l' p) (ix l' q))) ∧ w'.cell? ⟨b, 2, none⟩ = some (.slice (some ⟨g, 0, none⟩) N c) ∧ Below wr.heap.size wr w') := by
      refine Lib.hid fun w1 x y p q hw hx hy hp hq => ?_
      subst hx hy
      have hr1 : Rw w1 B (.slice (some ⟨g, 0, none⟩) N c) l' := HR.out.below hw
      refine (less_c B g c p q N l' w1 hr1 HL.out hp hq).mono ?_
      rintro e w' ⟨rfl, k⟩
      have k2 := below_then hw hw.size k
      exact ⟨rfl, (HC.out.below k2).c2, k2⟩
    have SW : Hid (∀ (w1 : World) (x y : Int) (p q : Nat), Below wr.heap.size wr w1 → x = p → y = q → p < N → q < N → Calls Try.prog 54 #[.slice (some ⟨g, 0, none⟩) N c, .int .i64 x, .int .i64 y] w1 fun e w' => e = .returned (.tuple #[]) ∧ Hid (Clk 54 w' b s t (.slice (some ⟨g, 0, none⟩) N c)) ∧ Hid (Rw w' B (.slice (some ⟨g, 0, none⟩) N c) (sw l' p q)) ∧ Hid (F2 b g w w')) := by
      refine Lib.hid fun w1 x y p q hw hx hy hp hq => ?_
      subst hx hy
      have hr1 : Rw w1 B (.slice (some ⟨g, 0, none⟩) N c) l' := HR.out.below hw
      refine (swap_c B g c p q N l' w1 hr1 HL.out hp hq).mono ?_
      rintro e w' ⟨rfl, k1, k2⟩
      exact ⟨rfl, Lib.hid ((HC.out.below hw).fb k2 hg), Lib.hid k1, Lib.hid ((HF.out.trans (F2.of_below hw)).trans (F2.of_g k2))⟩
    by_cases ha : 2 * i + 1 < n
    · have ha' : ¬ (n : Int) ≤ 2 * (i : Int) + 1 := by omega
      by_cases hb2 : 2 * i + 2 < n
      · have hb' : 2 * (i : Int) + 1 + 1 < n := by omega
        cases hk : lt3 (ix l' (2 * i + 2)) (ix l' (2 * i + 1))
        · have ek : kid l' n i = 2 * i + 1 := kid_left hk
          cases hk2 : lt3 (ix l' (2 * i + 1)) (ix l' i)
          · have HE := Lib.hid (HD.out.at_stay (by rw [ek]; exact hk2))
            clear ek
            go_wp2_with (first
              | (go_at_call 53; (with_reducible refine (LS.out _ _ _ (2 * i + 2) (2 * i + 1) (Below.refl _ _) (by omega) (by omega) (by omega) (by omega)).mono ?_); rw [hk]; rintro e w1 ⟨rfl, m1, b1⟩; have M1 := run_less _ _ w1 m1)
              | (go_at_call 53; (with_reducible refine (LS.out _ _ _ (2 * i + 1) i b1 (by omega) (by omega) (by omega) (by omega)).mono ?_); rw [hk2]; rintro e w2 ⟨rfl, m2, b2⟩))
            go_ret
            exact ⟨isb _, HC.out.below b2, by rw [HE.out]; exact HR.out.below b2, HF.out.trans (F2.of_below b2)⟩
          · have HE := Lib.hid (HD.out.at_step ha (by rw [ek]; exact hk2))
            rw [ek] at HE
            clear ek
            go_wp2_with (first
              | (go_at_call 53; (with_reducible refine (LS.out _ _ _ (2 * i + 2) (2 * i + 1) (Below.refl _ _) (by omega) (by omega) (by omega) (by omega)).mono ?_); rw [hk]; rintro e w1 ⟨rfl, m1, b1⟩; have M1 := run_less _ _ w1 m1)
              | (go_at_call 53; (with_reducible refine (LS.out _ _ _ (2 * i + 1) i b1 (by omega) (by omega) (by omega) (by omega)).mono ?_); rw [hk2]; rintro e w2 ⟨rfl, m2, b2⟩; have M2 := run_swap _ _ w2 m2)
              | (go_at_call 54; (with_reducible refine (SW.out _ _ _ i (2 * i + 1) b2 (by omega) (by omega) (by omega) (by omega)).mono ?_); rintro e w3 ⟨rfl, s1, s2, s3⟩))
            go_roundw
            case rel => exact ⟨2 * i + 1, sw l' i (2 * i + 1), by go_num, by omega, Lib.hid (by rw [sw_len]; exact HL.out), s1, s2, s3, HE⟩
            case measure => simp [intOf]; omega
        · have ek : kid l' n i = 2 * i + 2 := kid_right hb2 hk
          cases hk2 : lt3 (ix l' (2 * i + 2)) (ix l' i)
          · have HE := Lib.hid (HD.out.at_stay (by rw [ek]; exact hk2))
            clear ek
            go_wp2_with (first
              | (go_at_call 53; (with_reducible refine (LS.out _ _ _ (2 * i + 2) (2 * i + 1) (Below.refl _ _) (by omega) (by omega) (by omega) (by omega)).mono ?_); rw [hk]; rintro e w1 ⟨rfl, m1, b1⟩; have M1 := run_less _ _ w1 m1)
              | (go_at_call 53; (with_reducible refine (LS.out _ _ _ (2 * i + 2) i b1 (by omega) (by omega) (by omega) (by omega)).mono ?_); rw [hk2]; rintro e w2 ⟨rfl, m2, b2⟩))
            go_ret
            exact ⟨isb _, HC.out.below b2, by rw [HE.out]; exact HR.out.below b2, HF.out.trans (F2.of_below b2)⟩
          · have HE := Lib.hid (HD.out.at_step ha (by rw [ek]; exact hk2))
            rw [ek] at HE
            clear ek
            go_wp2_with (first
              | (go_at_call 53; (with_reducible refine (LS.out _ _ _ (2 * i + 2) (2 * i + 1) (Below.refl _ _) (by omega) (by omega) (by omega) (by omega)).mono ?_); rw [hk]; rintro e w1 ⟨rfl, m1, b1⟩; have M1 := run_less _ _ w1 m1)
              | (go_at_call 53; (with_reducible refine (LS.out _ _ _ (2 * i + 2) i b1 (by omega) (by omega) (by omega) (by omega)).mono ?_); rw [hk2]; rintro e w2 ⟨rfl, m2, b2⟩; have M2 := run_swap _ _ w2 m2)
              | (go_at_call 54; (with_reducible refine (SW.out _ _ _ i (2 * i + 2) b2 (by omega) (by omega) (by omega) (by omega)).mono ?_); rintro e w3 ⟨rfl, s1, s2, s3⟩))
            go_roundw
            case rel => exact ⟨2 * i + 2, sw l' i (2 * i + 2), by go_num, by omega, Lib.hid (by rw [sw_len]; exact HL.out), s1, s2, s3, HE⟩
            case measure => simp [intOf]; omega
      · have hb' : ¬ 2 * (i : Int) + 1 + 1 < n := by omega
        have ek : kid l' n i = 2 * i + 1 := kid_one hb2
        cases hk2 : lt3 (ix l' (2 * i + 1)) (ix l' i)
        · have HE := Lib.hid (HD.out.at_stay (by rw [ek]; exact hk2))
          clear ek
          go_wp2_with (first
            | (go_at_call 53; (with_reducible refine (LS.out _ _ _ (2 * i + 1) i (Below.refl _ _) (by omega) (by omega) (by omega) (by omega)).mono ?_); rw [hk2]; rintro e w2 ⟨rfl, m2, b2⟩))
          go_ret
          exact ⟨isb _, HC.out.below b2, by rw [HE.out]; exact HR.out.below b2, HF.out.trans (F2.of_below b2)⟩
        · have HE := Lib.hid (HD.out.at_step ha (by rw [ek]; exact hk2))
          rw [ek] at HE
          clear ek
          go_wp2_with (first
            | (go_at_call 53; (with_reducible refine (LS.out _ _ _ (2 * i + 1) i (Below.refl _ _) (by omega) (by omega) (by omega) (by omega)).mono ?_); rw [hk2]; rintro e w2 ⟨rfl, m2, b2⟩; have M2 := run_swap _ _ w2 m2)
            | (go_at_call 54; (with_reducible refine (SW.out _ _ _ i (2 * i + 1) b2 (by omega) (by omega) (by omega) (by omega)).mono ?_); rintro e w3 ⟨rfl, s1, s2, s3⟩))
          go_roundw
          case rel => exact ⟨2 * i + 1, sw l' i (2 * i + 1), by go_num, by omega, Lib.hid (by rw [sw_len]; exact HL.out), s1, s2, s3, HE⟩
          case measure => simp [intOf]; omega
    · have ha' : (n : Int) ≤ 2 * (i : Int) + 1 := by omega
      have HE := Lib.hid (HD.out.at_leaf (by omega))
      go_wp2_with fail
      go_ret
      exact ⟨isb _, HC.out, by rw [HE.out]; exact HR.out, HF.out⟩
end Go.Proofs.Ythigimmlhgdchaa
