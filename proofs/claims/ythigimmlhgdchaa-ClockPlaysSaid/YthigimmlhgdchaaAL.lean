/- The law ClockPlays, made. -/
import Derived.Test.YthigimmlhgdchaaAJ
import Derived.Test.YthigimmlhgdchaaJ
import Derived.Deep.RegionWith
import Derived.OwnWalk
namespace Go.Proofs.Ythigimmlhgdchaa
set_option linter.unusedVariables false
set_option linter.unusedSimpArgs false
open Go.RowKit

set_option maxRecDepth 100000 in
set_option maxHeartbeats 16000000 in
theorem lplays_good (s : Int) (a a2 : Option Addr) (L c N c2 M : Nat) (l : List (Int × Int)) (r : List (Int × Int × Bool)) (w : World) (HE : Hid (Evs w (.slice a L c) l)) (HL : Hid (l.length = L)) (hc : L ≤ c) (hL : L ≤ 200) (HR : Hid (Rd3 w (.slice a2 N c2) r)) (HN : Hid (r.length = N)) (hc2 : N ≤ c2) (hN : N ≤ 200) (HO : Hid (∀ e ∈ l, okE e)) (S0 : Hid (0 ≤ s)) (S1 : Hid (s ≤ 8589934592)) (HM : Hid (L + 1 = M)) (hLM : L < M) (hM : M ≤ 201) :
    Calls Try.prog 6 #[.int .i64 s, .slice a L c, .slice a2 N c2] w fun e w' => e = .returned (.bool true) ∧ Below w.heap.size w w' := by
  have AW := Lib.hid (fun w => awake_c w)
  obtain ⟨i0, z0, hi0, hz0, hz1, hz2, hz3⟩ := info_api
  have HB1 : Hid (0 + l.length < 1000000000000) := Lib.hid (by have := HL.out; omega)
  have HB2 : Hid (L < 1000000000000) := Lib.hid (by omega)
  have HB3 : Hid (l.length ≤ 200) := Lib.hid (by have := HL.out; omega)
  have HLM : Hid (L ≤ M) := Lib.hid (by omega)
  go_enter Try.func6, Try.ntmps6
  go_wp2_with (first
      | (at_builtin; go_loud (refine wp_evs 22 32 i0 z0 16 Try.underlying22 hi0 hz0 hz1 hz2 hz3 w.heap.size (.slice none 0 0) 0 [] rfl (.tmp 24) (.tmp 25) (by rfl) (by rfl) (World.ownsRow_nil _ _ _ _) (Nat.le_refl _) (.slice a L c) l (by rfl) HE.out HB1.out (by decide) ?_); intro v4 w4 hown4 hg4; have X4 := Lib.hid (copy_1 hown4 hg4 HL.out); clear hown4 hg4; obtain ⟨a4, c4, rfl⟩ := ownsRow_slice3 X4.out.1)
      | (at_builtin; go_loud (refine wp_app2 22 32 i0 z0 16 Try.underlying22 hi0 hz0 hz1 hz2 hz3 w.heap.size (.slice a4 L c4) L (c2p l) 77 0 w4 w4.heap.size rfl rfl (.tmp 27) (.tmp 29) (by rfl) (by rfl) (by rfl) X4.out.1 X4.out.2.size HB2.out (by decide) M HM.out ?_); intro v5 w5 hown5 hb5; obtain ⟨g, c5, rfl, hbg, hgl⟩ := row_form3 hown5 HM.out; have X5 := Lib.hid (And.intro hown5 (X4.out.2.trans hb5)); clear hown5 hb5 X4; have hc5 := row_cap X5.out.1; have MK := Lib.hid (make_c l (.slice a L c) (.slice (some ⟨g, 0, none⟩) L c5) s w5 (HE.out.below X5.out.2) (evs_of X5.out.1 HL.out HLM.out) HB3.out HO.out S0.out S1.out))
      | (go_at_call 9; (with_reducible refine (MK.out).mono ?_); rintro e w6 ⟨b, b2, rfl, hbb, RN⟩; have HBB := Lib.hid hbb; clear hbb)
      | (go_at_call 13; (with_reducible refine (RN.out).mono ?_); rintro e w7 ⟨rfl, DB0⟩))
  have hbz : Below w5.heap.size w5 w7 := by obtain ⟨_, _, h⟩ := DB0.out; exact h
  have hx7 : Below w.heap.size w w7 := below_then X5.out.2 X5.out.2.size hbz
  have X7 := Lib.hid (row_below X5.out.1 hbz)
  have BW := Lib.hid hx7
  have HGB : Hid (g < b) := Lib.hid (by have := HBB.out; omega)
  have HWB : Hid (w.heap.size ≤ b) := Lib.hid (by have := HBB.out; have := X5.out.2.size; omega)
  obtain ⟨R, DB7⟩ : ∃ R, Hid (DB w7 b b2 s 0 R) := by obtain ⟨R, h, _⟩ := DB0.out; exact ⟨R, Lib.hid h⟩
  clear hx7 DB0 RN MK hbz HBB
  go_loopw [12] (fun x12 wr => ∃ i : Nat, i ≤ L ∧ x12 = .int .i64 i ∧ Hid (Below w7.heap.size w7 wr)) (fun x12 _ => L - (intOf x12).toNat)
  case atStart => exact ⟨0, Nat.zero_le _, rfl, Lib.hid (Below.refl _ _)⟩
  case round =>
    obtain ⟨i, hi, rfl, HW⟩ := hrel
    have hbr : Below w.heap.size w wr := below_then BW.out BW.out.size HW.out
    have XA := row_at (row_below X7.out HW.out) HL.out
    by_cases hlt : i < L
    · obtain ⟨ge, off, rfl, c0, c1⟩ := (HE.out.below hbr).at_ (i := i) (by have := HL.out; omega)
      obtain ⟨x0, x1⟩ := XA.1 i hlt
      obtain ⟨⟨X, Y⟩, hXY⟩ : ∃ x, l.getD i (0, 0) = x := ⟨_, rfl⟩
      rw [hXY] at c0 c1 x0 x1
      have hiM : i < M := by omega
      clear hXY XA hbr
      go_wp2_with fail
      go_big_region
      all_goals
        go_wp2_with fail
        go_roundw
        case rel => exact ⟨i + 1, by omega, by go_num, Lib.hid (below_drewN HW.out 1)⟩
        case measure => simp [intOf]; omega
    · have hiL : i = L := by omega
      subst hiL
      have x7 := XA.2
      have XR := Lib.hid (row_below X7.out HW.out)
      have DR := Lib.hid (DB7.out.below HW.out)
      have BR := Lib.hid hbr
      clear XA hbr
      obtain ⟨wo, hwo⟩ : ∃ wo, wo = wr := ⟨_, rfl⟩
      subst hwo
      go_wp2_with fail
      go_loopw [13] (fun x13 wr => ∃ j : Nat, j ≤ M ∧ x13 = .int .i64 j ∧ Hid (∃ xs, wr.ownsRow w.heap.size 32 2 (.slice (some ⟨g, 0, none⟩) M c5) M xs ∧ DB wr b b2 s 0 R ∧ Below w.heap.size w wr)) (fun x13 _ => M - (intOf x13).toNat)
      case atStart => exact ⟨0, Nat.zero_le _, rfl, Lib.hid ⟨_, XR.out, DR.out, BR.out⟩⟩
      case round =>
        obtain ⟨j, hj, rfl, HX⟩ := hrel
        clear x7
        by_cases hjM : j < M
        · obtain ⟨xs, hrow, hdb, hbw⟩ := HX.out
          obtain ⟨y0, y1, a0, a1⟩ := row_any hrow hjM
          obtain ⟨u1, p1⟩ := setCell_some (p := ⟨g, j * 2, none⟩) (x := .int .i64 0) a1
          have z0 := row_fz hrow (j * 2)
          have z1 := row_fz hrow (j * 2 + 1)
          have FIN := Lib.hid (fun x y => And.intro (row_set (row_set hrow (j * 2) x) (j * 2 + 1) y) (And.intro ((hdb.fb (Fb.set (j * 2) x) HGB.out).fb (Fb.set (j * 2 + 1) y) HGB.out) ((hbw.setCell (p := ⟨g, j * 2, none⟩) hbg x).setCell (p := ⟨g, j * 2 + 1, none⟩) hbg y)))
          clear hrow hdb hbw HX
          go_wp2_with fail
          go_roundw
          case rel => exact ⟨j + 1, by omega, by go_num, Lib.hid ⟨_, FIN.out _ _⟩⟩
          case measure => simp [intOf]; omega
        · have HX2 : Hid (Below w.heap.size w wr ∧ ∃ t R, DB wr b b2 s t R) := by obtain ⟨xs, _, hdb, hbw⟩ := HX.out; exact Lib.hid ⟨hbw, 0, R, hdb⟩
          clear HX XR DR BR X7
          obtain ⟨wp, hwp⟩ : ∃ wp, wp = wr := ⟨_, rfl⟩
          subst hwp
          go_wp2_with fail
          go_loopw [14] (fun x14 wr => ∃ k : Nat, k ≤ N ∧ x14 = .int .i64 k ∧ Hid (Below w.heap.size w wr ∧ ∃ t R, DB wr b b2 s t R)) (fun x14 _ => N - (intOf x14).toNat)
          case atStart => exact ⟨0, Nat.zero_le _, rfl, HX2⟩
          case round =>
            obtain ⟨k, hk, rfl, HZ⟩ := hrel
            clear HX2
            by_cases hkN : k < N
            · obtain ⟨gr, of2, rfl, k0, k1, k2⟩ := (HR.out.below HZ.out.1).at_ (i := k) (by have := HN.out; omega)
              obtain ⟨⟨K, n, f⟩, hK⟩ : ∃ x, r.getD k (0, 0, false) = x := ⟨_, rfl⟩
              rw [hK] at k0 k1 k2
              clear hK
              have DOES : Hid (Calls Try.prog 17 #[.pointer (some ⟨b, 0, none⟩), .pointer (some ⟨b2, 0, none⟩), .agg #[.int .i64 K, .int .i64 n, .bool f]] wr.drew fun e w' => e = .returned (.bool true) ∧ Step wr.drew w' b b2 s) := by
                obtain ⟨_, t, R, hd⟩ := HZ.out
                exact Lib.hid (does_c K n f wr.drew b b2 s t R (hd.below (below_drewN (Below.refl _ _) 1)))
              have AFT : Hid (∀ w2, Step wr.drew w2 b b2 s → _) := Lib.hid (fun w2 hw => after_c hw S0.out S1.out)
              go_wp2_with fail
              go_region_with (first
                | (go_at_call 17; (with_reducible refine (DOES.out).mono ?_); rintro e w2 ⟨rfl, hw2⟩; obtain ⟨t2, m2, HS2, HN2, HD2⟩ := AFT.out w2 hw2; clear hw2)
                | (go_at_call 11; (with_reducible refine (HN2.out).mono ?_); rintro e w' ⟨rfl, rfl⟩)
                | (go_at_call 16; (with_reducible refine (HD2.out).mono ?_); rintro e w3 ⟨rfl, hb3⟩))
              all_goals
                go_wp2_with fail
                go_roundw
                case rel =>
                  have q1 : Below w.heap.size w w2 := (HZ.out.1.drew).trans (HS2.out.1.mono HWB.out)
                  exact ⟨k + 1, by omega, by go_num, Lib.hid ⟨below_then q1 q1.size hb3, t2, by obtain ⟨R2, h⟩ := HS2.out.2; exact ⟨R2, h.below hb3⟩⟩⟩
                case measure => simp [intOf]; omega
            · go_wp2_with (go_at_call 8; (with_reducible refine (AW.out _).mono ?_); rintro e w8 ⟨rfl, hb8⟩)
              go_ret
              exact ⟨rfl, below_then HZ.out.1 HZ.out.1.size hb8⟩
end Go.Proofs.Ythigimmlhgdchaa
