/- The law ClockPlays, refused. -/
import Derived.Test.YthigimmlhgdchaaAJ
import Derived.Test.YthigimmlhgdchaaJ
import Derived.Deep.RegionWith
import Derived.OwnWalk
namespace Go.Proofs.Ythigimmlhgdchaa
set_option linter.unusedVariables false
set_option linter.unusedSimpArgs false
open Go.RowKit

set_option maxRecDepth 100000 in
set_option maxHeartbeats 16000000 in
theorem lplays_bad (s : Int) (a a2 : Option Addr) (L c N c2 M : Nat) (l : List (Int × Int)) (w : World) (HE : Hid (Evs w (.slice a L c) l)) (HL : Hid (l.length = L)) (hc : L ≤ c) (hL : L ≤ 200) (hN : N ≤ 200) (NG : Hid (NoGood s l)) (HM : Hid (L + 1 = M)) (hLM : L < M) (hM : M ≤ 201) :
    Calls Try.prog 6 #[.int .i64 s, .slice a L c, .slice a2 N c2] w fun e w' => e = .returned (.bool true) ∧ Below w.heap.size w w' := by
  have AW := Lib.hid (fun w => awake_c w)
  obtain ⟨i0, z0, hi0, hz0, hz1, hz2, hz3⟩ := info_api
  have HB1 : Hid (0 + l.length < 1000000000000) := Lib.hid (by have := HL.out; omega)
  have HB2 : Hid (L < 1000000000000) := Lib.hid (by omega)
  have HB3 : Hid (l.length ≤ 200) := Lib.hid (by have := HL.out; omega)
  have HLM : Hid (L ≤ M) := Lib.hid (by omega)
  go_enter Try.func6, Try.ntmps6
  go_wp2_with (first
      | (at_builtin; go_loud (refine wp_evs 22 32 i0 z0 16 Try.underlying22 hi0 hz0 hz1 hz2 hz3 w.heap.size (.slice none 0 0) 0 [] rfl (.tmp 24) (.tmp 25) (by rfl) (by rfl) (World.ownsRow_nil _ _ _ _) (Nat.le_refl _) (.slice a L c) l (by rfl) HE.out HB1.out (by decide) ?_); intro v4 w4 hown4 hg4; have X4 := Lib.hid (copy_1 hown4 hg4 HL.out); clear hown4 hg4; obtain ⟨a4, c4, rfl⟩ := ownsRow_slice3 X4.out.1)
      | (at_builtin; go_loud (refine wp_app2 22 32 i0 z0 16 Try.underlying22 hi0 hz0 hz1 hz2 hz3 w.heap.size (.slice a4 L c4) L (c2p l) 77 0 w4 w4.heap.size rfl rfl (.tmp 27) (.tmp 29) (by rfl) (by rfl) (by rfl) X4.out.1 X4.out.2.size HB2.out (by decide) M HM.out ?_); intro v5 w5 hown5 hb5; obtain ⟨g, c5, rfl, hbg, hgl⟩ := row_form3 hown5 HM.out; have X5 := Lib.hid (And.intro hown5 (X4.out.2.trans hb5)); clear hown5 hb5 X4; have hc5 := row_cap X5.out.1; have MK := Lib.hid (make_bad l (.slice a L c) (.slice (some ⟨g, 0, none⟩) L c5) s w5 (HE.out.below X5.out.2) (evs_of X5.out.1 HL.out HLM.out) HB3.out NG.out))
      | (go_at_call 9; (with_reducible refine (MK.out).mono ?_); rintro e w6 ⟨rfl, RN⟩)
      | (go_at_call 13; (with_reducible refine (RN.out).mono ?_); rintro e w7 ⟨rfl, DB0⟩))
  have hx7 : Below w.heap.size w w7 := below_then X5.out.2 X5.out.2.size DB0.out
  have X7 := Lib.hid (row_below X5.out.1 DB0.out)
  have BW := Lib.hid hx7
  clear hx7 DB0 RN MK
  go_loopw [12] (fun x12 wr => ∃ i : Nat, i ≤ L ∧ x12 = .int .i64 i ∧ Hid (Below w7.heap.size w7 wr)) (fun x12 _ => L - (intOf x12).toNat)
  case atStart => exact ⟨0, Nat.zero_le _, rfl, Lib.hid (Below.refl _ _)⟩
  case round =>
    obtain ⟨i, hi, rfl, HW⟩ := hrel
    have hbr : Below w.heap.size w wr := below_then BW.out BW.out.size HW.out
    have XA := row_at (row_below X7.out HW.out) HL.out
    by_cases hlt : i < L
    · obtain ⟨ge, off, rfl, c0, c1⟩ := (HE.out.below hbr).at_ (i := i) (by have := HL.out; omega)
      obtain ⟨x0, x1⟩ := XA.1 i hlt
      obtain ⟨⟨X, Y⟩, hXY⟩ : ∃ x, l.getD i (0, 0) = x := ⟨_, rfl⟩
      rw [hXY] at c0 c1 x0 x1
      have hiM : i < M := by omega
      clear hXY XA hbr
      go_wp2_with fail
      go_big_region
      all_goals
        go_wp2_with fail
        go_roundw
        case rel => exact ⟨i + 1, by omega, by go_num, Lib.hid (below_drewN HW.out 1)⟩
        case measure => simp [intOf]; omega
    · have hiL : i = L := by omega
      subst hiL
      have x7 := XA.2
      clear XA
      go_wp2_with (go_at_call 8; (with_reducible refine (AW.out _).mono ?_); rintro e w8 ⟨rfl, hb8⟩)
      go_ret
      exact ⟨rfl, below_then hbr hbr.size hb8⟩
end Go.Proofs.Ythigimmlhgdchaa
