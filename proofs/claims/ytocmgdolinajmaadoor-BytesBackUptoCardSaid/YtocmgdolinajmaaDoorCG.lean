/- Unescape on both sides. -/
import Derived.Test.YtocmgdolinajmaaDoorCF
namespace Go.Proofs.YtocmgdolinajmaaDoor
set_option linter.unusedVariables false
set_option linter.unusedSimpArgs false
open Go.RowKit

/-- The bytes doubled, in a row of the call's own. -/
def Dbl (w0 : World) (l : List Int) (e : Ending) (w' : World) : Prop := ∃ v, e = .returned v ∧ w'.ownsRow w0.heap.size 5 1 v (dbl l).length ((dbl l).map (Value.int .u8)) ∧ Below w0.heap.size w0 w'
theorem own_base {w : World} {B B' e k n : Nat} {v : Value} {xs : List Value} (h : w.ownsRow B e k v n xs) (hb : B' ≤ B) : w.ownsRow B' e k v n xs := by
  refine ⟨h.1, ?_⟩
  rcases h.2 with h2 | ⟨g, cap, cur, e1, e2, r⟩
  · exact .inl h2
  · exact .inr ⟨g, cap, cur, e1, by omega, r⟩
theorem prepl_c (u : Value) (l : List Int) (w : World) (hsh : w.ShapedOpen Tryd.prog) (hu : Rd w .u8 u l) (bl : Byt l) (hl : l.length ≤ 400) (o q d1 d2 : Nat) (co : w.cell? ⟨o, 0, none⟩ = some (.int .u8 37)) (hd1 : 1 ≤ d1) (hd2 : 2 ≤ d2) (hq : Rd w .u8 (.slice (some ⟨q, 0, none⟩) 2 d2) [37, 37]) :
    Calls Tryd.prog 33 #[u, .slice (some ⟨o, 0, none⟩) 1 d1, .slice (some ⟨q, 0, none⟩) 2 d2, .int .i64 (-1)] w (Dbl w l) := by
  by_cases h0 : cnt l = 0
  · exact prepl_0 u l w hu bl hl o q d1 d2 co h0
  · have hu2 := hu
    obtain ⟨a, c, rfl, hc, hr⟩ := hu
    rcases hr with rfl | ⟨gs, off, rfl, _⟩
    · exact absurd rfl h0
    · exact prepl_m gs off l.length c l w hsh hu2 bl rfl hl o q d1 d2 (cnt l) (l.length + cnt l) co hd1 hd2 hq rfl (by omega) rfl
theorem prall_c (u : Value) (l : List Int) (w : World) (hsh : w.ShapedOpen Tryd.prog) (hu : Rd w .u8 u l) (bl : Byt l) (hl : l.length ≤ 400) (o q d1 d2 : Nat) (co : w.cell? ⟨o, 0, none⟩ = some (.int .u8 37)) (hd1 : 1 ≤ d1) (hd2 : 2 ≤ d2) (hq : Rd w .u8 (.slice (some ⟨q, 0, none⟩) 2 d2) [37, 37]) :
    Calls Tryd.prog 23 #[u, .slice (some ⟨o, 0, none⟩) 1 d1, .slice (some ⟨q, 0, none⟩) 2 d2] w (Dbl w l) := by
  have P := Lib.hid (prepl_c u l w hsh hu bl hl o q d1 d2 co hd1 hd2 hq)
  obtain ⟨a, c, rfl, _⟩ := hu
  clear hsh hq co hd1 hd2
  go_enter Tryd.func23, Tryd.ntmps23
  go_wp2_with (go_at_call 33; (with_reducible refine (P.out).mono ?_); rintro e w' ⟨v, rfl, hv, hb⟩; have HV := Lib.hid hv; have HB := Lib.hid hb; clear hv hb)
  go_ret
  exact ⟨_, rfl, HV.out, HB.out⟩
theorem punesc_c (u : Value) (l : List Int) (w : World) (hsh : w.ShapedOpen Tryd.prog) (hu : Rd w .u8 u l) (bl : Byt l) (hl : l.length ≤ 400) :
    Calls Tryd.prog 8 #[u] w (Dbl w l) := by
  have hcv := conv_const
  have bA : Below w.heap.size w ((w.alloc (.cells #[.int .u8 37] 5 (1, 2))).alloc (.cells #[.int .u8 37, .int .u8 37] 5 (2, 3))) := ((Below.refl _ _).alloc (Nat.le_refl _) _).alloc (by simp) _
  have P : Hid (Calls Tryd.prog 23 #[u, .slice (some ⟨w.heap.size, 0, none⟩) 1 1, .slice (some ⟨w.heap.size + 1, 0, none⟩) 2 2] ((w.alloc (.cells #[.int .u8 37] 5 (1, 2))).alloc (.cells #[.int .u8 37, .int .u8 37] 5 (2, 3))) (Dbl w l)) := by
    have r1 : Rd ((w.alloc (.cells #[.int .u8 37] 5 (1, 2))).alloc (.cells #[.int .u8 37, .int .u8 37] 5 (2, 3))) .u8 (.slice (some ⟨w.heap.size, 0, none⟩) 1 1) [37] := (Rd.of_alloc w .u8 [37] 5 (1, 2)).below ((Below.refl _ _).alloc (Nat.le_refl _) (.cells #[.int .u8 37, .int .u8 37] 5 (2, 3)))
    have r2 : Rd ((w.alloc (.cells #[.int .u8 37] 5 (1, 2))).alloc (.cells #[.int .u8 37, .int .u8 37] 5 (2, 3))) .u8 (.slice (some ⟨w.heap.size + 1, 0, none⟩) 2 2) [37, 37] := by
      have := Rd.of_alloc (w.alloc (.cells #[.int .u8 37] 5 (1, 2))) .u8 [37, 37] 5 (2, 3)
      rw [show (w.alloc (.cells #[.int .u8 37] 5 (1, 2))).heap.size = w.heap.size + 1 by simp] at this
      exact this
    obtain ⟨g, off, e, c0⟩ := r1.at_ (i := 0) (by simp)
    injection e with e; injection e with e1 e2
    subst e1 e2
    refine Lib.hid ((prall_c u l _ (shaped_below hsh bA) (hu.below bA) bl hl w.heap.size (w.heap.size + 1) 1 2 (by simpa using c0) (Nat.le_refl _) (Nat.le_refl _) r2).mono ?_)
    rintro e w' ⟨v, rfl, h1, h2⟩
    exact ⟨v, rfl, own_base h1 bA.size, below_then bA bA.size h2⟩
  obtain ⟨a, c, rfl, _⟩ := hu
  clear hsh bA
  go_enter Tryd.func8, Tryd.ntmps8
  go_wp2_with fail
  refine (P.out).mono ?_
  rintro e w' ⟨v, rfl, hv, hb⟩
  have HV := Lib.hid hv
  have HB := Lib.hid hb
  clear hv hb P hcv
  go_wp2_with fail
  go_ret
  exact ⟨_, rfl, HV.out, HB.out⟩
theorem dbl_app : ∀ a b : List Int, dbl (a ++ b) = dbl a ++ dbl b
  | [], b => rfl
  | x :: a, b => by
    show dbl (x :: (a ++ b)) = _
    rw [dbl, dbl, dbl_app a b]
    split <;> rfl
theorem dbl_take {l : List Int} {i : Nat} (hi : i < l.length) : dbl (l.take (i + 1)) = dbl (l.take i) ++ (if l.getD i 0 = 37 then [37, 37] else [l.getD i 0]) := by
  have e : l.take (i + 1) = l.take i ++ [l.getD i 0] := by
    rw [List.take_add_one, List.getElem?_eq_getElem hi, List.getD_eq_getElem?_getD, List.getElem?_eq_getElem hi]; rfl
  rw [e, dbl_app]
  congr 1
set_option maxHeartbeats 4000000 in
theorem runesc_c (u : Value) (l : List Int) (w : World) (hu : Rd w .u8 u l) (hl : l.length ≤ 400) :
    Calls Tryd.prog 10 #[u] w (Dbl w l) := by
  have HU := Lib.hid hu
  obtain ⟨a, c, rfl, _⟩ := hu
  obtain ⟨L, hL⟩ : ∃ L, l.length = L := ⟨_, rfl⟩
  have HL := Lib.hid hL
  rw [hL] at HU hl ⊢
  have GA := Lib.hid (fun w' (hb : Below w.heap.size w w') (i : Nat) (hi : i < L) => (HU.out.below hb).at_ (i := i) (by have := HL.out; omega))
  have E0 := Lib.hid (World.ownsRow_nil w w.heap.size 5 1)
  have TK := Lib.hid (fun i (hi : i < L) => dbl_take (l := l) (i := i) (by have := HL.out; omega))
  clear hL HU
  go_enter Tryd.func10, Tryd.ntmps10
  go_wp2
  go_loopw [3, 4] (fun x3 x4 wr => ∃ (i n : Nat) (a3 : Option Addr) (c3 : Nat) (D : List Int), i ≤ L ∧ n ≤ 2 * i ∧ x4 = .int .i64 i ∧ x3 = .slice a3 n c3 ∧ Hid (wr.ownsRow w.heap.size 5 1 (.slice a3 n c3) n (D.map (Value.int .u8))) ∧ Hid (D = dbl (l.take i) ∧ D.length = n) ∧ Hid (Below w.heap.size w wr)) (fun _ x4 _ => L - (intOf x4).toNat)
  case atStart => exact ⟨0, 0, none, 0, [], Nat.zero_le _, Nat.zero_le _, rfl, rfl, E0, Lib.hid ⟨rfl, rfl⟩, Lib.hid (Below.refl _ _)⟩
  case round =>
    obtain ⟨i, n, a3, c3, D, hi, hn, rfl, rfl, HO, HD, HB⟩ := hrel
    by_cases hlt : i < L
    · obtain ⟨g0, o0, rfl, q0⟩ := GA.out _ HB.out i hlt
      have tk := TK.out i hlt
      obtain ⟨x, hx⟩ : ∃ x, l.getD i 0 = x := ⟨_, rfl⟩
      rw [hx] at q0 tk
      have HC : Hid (∀ w1, Below w.heap.size wr w1 → w1.cell? ⟨g0, o0 + i, none⟩ = some (.int .u8 x)) := Lib.hid (fun w1 hb => by
        obtain ⟨g1, o1, e, q1⟩ := GA.out w1 (HB.out.trans hb) i hlt
        injection e with e; injection e with e1 e2
        subst e1 e2
        rw [hx] at q1
        exact q1)
      obtain ⟨wo, hwo⟩ : ∃ wo, wo = wr := ⟨_, rfl⟩
      subst hwo
      clear hx GA
      by_cases h37 : x = 37
      · rw [if_pos h37] at tk
        have TK2 := Lib.hid tk
        clear tk
        subst h37
        go_wp2_with (first
          | (at_builtin; go_loud (refine wp_app 22 5 (.int .u8 0) 1 Tryd.underlying22 info_byte rfl w.heap.size (.slice a3 n c3) n _ (.int .u8 37) wo _ rfl (by rfl) (.tmp 11) (.tmp 16) (by rfl) (by rfl) (by rfl) HO.out HB.out.size rfl (by omega) (by decide) ?_); intro v2 w2 hown2 hb2; have O2 := Lib.hid hown2; obtain ⟨a4, c4, rfl⟩ := ownsRow_slice hown2; have B2 := Lib.hid hb2; have q2 := HC.out _ hb2; clear hown2 hb2)
          | (at_builtin; go_loud (refine wp_app 22 5 (.int .u8 0) 1 Tryd.underlying22 info_byte rfl w.heap.size (.slice a4 (n + 1) c4) (n + 1) _ (.int .u8 37) w2 _ rfl (by rfl) (.tmp 23) (.tmp 24) (by rfl) (by rfl) (by rfl) O2.out (Nat.le_trans HB.out.size B2.out.size) rfl (by omega) (by decide) ?_); intro v3 w3 hown3 hb3; have O3 := Lib.hid hown3; obtain ⟨a5, c5, rfl⟩ := ownsRow_slice hown3; have B3 := Lib.hid hb3; clear hown3 hb3))
        go_roundw
        case rel => exact ⟨i + 1, n + 1 + 1, a5, c5, D ++ [37, 37], by omega, by omega, by go_num, rfl, by have := O3.out; exact Lib.hid (by simpa using this), Lib.hid ⟨by rw [TK2.out, HD.out.1], by have := HD.out.2; simp; omega⟩, Lib.hid ((HB.out.trans B2.out).trans B3.out)⟩
        case measure => simp [intOf]; omega
      · rw [if_neg h37] at tk
        have TK2 := Lib.hid tk
        clear tk
        go_wp2_with (at_builtin; go_loud (refine wp_app 22 5 (.int .u8 0) 1 Tryd.underlying22 info_byte rfl w.heap.size (.slice a3 n c3) n _ (.int .u8 x) wo _ rfl (by rfl) (.tmp 11) (.tmp 16) (by rfl) (by rfl) (by rfl) HO.out HB.out.size rfl (by omega) (by decide) ?_); intro v2 w2 hown2 hb2; have O2 := Lib.hid hown2; obtain ⟨a4, c4, rfl⟩ := ownsRow_slice hown2; have B2 := Lib.hid hb2; have q2 := HC.out _ hb2; clear hown2 hb2)
        go_roundw
        case rel => exact ⟨i + 1, n + 1, a4, c4, D ++ [x], by omega, by omega, by go_num, rfl, by have := O2.out; exact Lib.hid (by simpa using this), Lib.hid ⟨by rw [TK2.out, HD.out.1], by have := HD.out.2; simp; omega⟩, Lib.hid (HB.out.trans B2.out)⟩
        case measure => simp [intOf]; omega
    · have hiL : i = L := by omega
      subst hiL
      have FIN : Hid (wr.ownsRow w.heap.size 5 1 (.slice a3 n c3) (dbl l).length ((dbl l).map (Value.int .u8))) := Lib.hid (by
        have e1 := HD.out.1
        rw [← HL.out, List.take_length] at e1
        rw [← e1, HD.out.2]
        exact HO.out)
      clear GA
      go_wp2
      go_ret
      exact ⟨_, rfl, FIN.out, HB.out⟩
end Go.Proofs.YtocmgdolinajmaaDoor
