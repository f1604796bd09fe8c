/- SoftSplits and SoftMakes. -/
import Derived.Test.YtecgkhijiogggaaW4
import Derived.Test.YtecgkhijiogggaaW5
import Derived.BigQuiet
import Derived.Deep.QuietTactic
namespace Go.Proofs.Ytecgkhijiogggaa
set_option linter.unusedVariables false
set_option linter.unusedSimpArgs false
open Go.RowKit Go.Shelf Go.ChangeShapes Go.WideShapes SF

theorem lsplits_bad (a : Nat) (P : Hid (∀ w, Calls Try.prog 59 #[.int .u64 a] w fun e w' => e = .returned (.tuple #[.bool false, .slice none 0 0, .int .i64 0, .bool false]) ∧ w = w'))
    (R : Hid (∀ w, Calls Try.prog 60 #[.int .u64 a] w fun e w' => e = .returned (.tuple #[.bool false, .slice none 0 0, .int .i64 0, .bool false]) ∧ w = w')) (w : World) :
    Calls Try.prog 16 #[.int .u64 (a : Int)] w fun e w' => e = .returned (.bool true) ∧ Below w.heap.size w w' := by
  go_enter Try.func16, Try.ntmps16
  go_wp2_with (first
    | (go_at_call 59; (with_reducible refine (P.out _).mono ?_); rintro e1 w1 ⟨rfl, rfl⟩)
    | (go_at_call 60; (with_reducible refine (R.out _).mono ?_); rintro e1 w1 ⟨rfl, rfl⟩))
  go_loop [11] (fun v11 => v11 = .int .i64 0) (fun _ => 0)
  case atStart => rfl
  case round =>
    obtain rfl := hrel
    go_wp2_with (go_at_call 20; refine (awake_c _).mono ?_; rintro e1 w1 ⟨rfl, hb⟩)
    go_ret
    exact ⟨rfl, hb⟩
def SplitsRel (w2 : World) (n : Nat) (v : Value) (wr : World) : Prop := ∃ k j : Nat, k ≤ n ∧ v = .int .i64 (k : Int) ∧ wr = w2.drewN j
set_option maxRecDepth 100000 in
set_option maxHeartbeats 4000000 in
theorem lsplits_good (a : Nat) (p : Bool) (e : Int) (M : Nat) (P : Hid (∀ w, Calls Try.prog 59 #[.int .u64 a] w fun x w' => ∃ b n c, x = .returned (.tuple #[.bool p, .slice b n c, .int .i64 e, .bool true]) ∧ Nw w' (.slice b n c) M ∧ Below w.heap.size w w'))
    (R : Hid (∀ w, Calls Try.prog 60 #[.int .u64 a] w (Sp w p M e))) (HL : Hid (∀ (w1 : World) (a1 : Option Addr) (n1 c1 : Nat), Nw w1 (.slice a1 n1 c1) M → n1 ≤ 1000 ∧ n1 = (ws M).length))
    (HM : Hid (∀ (w1 : World) (a1 : Option Addr) (n1 c1 : Nat), Nw w1 (.slice a1 n1 c1) M → Calls Try.prog 57 #[.bool p, .slice a1 n1 c1, .int .i64 e] w1 fun x w' => x = .returned (.int .u64 (a : Int)) ∧ Below w1.heap.size w1 w')) (w : World) :
    Calls Try.prog 16 #[.int .u64 (a : Int)] w fun e w' => e = .returned (.bool true) ∧ Below w.heap.size w w' := by
  go_enter Try.func16, Try.ntmps16
  go_wp2_with (first
    | (go_at_call 59; (with_reducible refine (P.out _).mono ?_); rintro e1 w1 ⟨a1, n1, c1, rfl, hv1, hb1⟩)
    | (go_at_call 60; (with_reducible refine (R.out _).mono ?_); rintro e2 w2 ⟨a2, n2, c2, rfl, hv2, hb2⟩; obtain rfl : n1 = n2 := by { have h1 := (HL.out _ _ _ _ hv1).2; have h2 := (HL.out _ _ _ _ hv2).2; omega }; have hn1 := (HL.out _ _ _ _ hv1).1))
  have HV1 := Lib.hid (hv1.below hb2)
  have HV2 := Lib.hid hv2
  clear hv1 hv2
  go_loopw [11] (fun v11 wr => SplitsRel w2 n1 v11 wr) (fun v11 _ => n1 - (intOf v11).toNat)
  case atStart => unfold SplitsRel; exact ⟨0, 0, Nat.zero_le _, rfl, rfl⟩
  case round =>
    obtain ⟨k, j, hk, rfl, rfl⟩ := hrel
    by_cases km : k < n1
    · obtain ⟨g1, o1, rfl, h1⟩ := Rd.addr HV1.out (by omega)
      obtain ⟨g2, o2, rfl, h2⟩ := Rd.addr HV2.out (by omega)
      have q1 := h1 k km
      have q2 := h2 k km
      obtain ⟨x, hx⟩ : ∃ x, (ws M).getD k 0 = x := ⟨_, rfl⟩
      rw [hx] at q1 q2
      clear h1 h2 hx
      go_wp2
      go_quiet (fail)
      go_wp2
      go_roundw
      case rel => unfold SplitsRel; exact ⟨k + 1, _, by omega, by go_num, rfl⟩
      case measure => simp [intOf]; omega
    · obtain rfl : k = n1 := by omega
      have hb3 := btn hb1 (btn hb2 (below_drewN (Below.refl _ w2) j))
      have hv3 := HV1.out.below (below_drewN (Below.refl _ w2) j)
      clear km
      go_wp2_with (first
        | (go_at_call 57; (with_reducible refine (HM.out _ _ _ _ hv3).mono ?_); rintro e1 w3 ⟨rfl, hb4⟩)
        | (go_at_call 20; refine (awake_c _).mono ?_; rintro e1 w1 ⟨rfl, hb⟩))
      go_ret
      exact ⟨rfl, btn hb3 (btn hb4 hb)⟩
theorem lsplits_walk (a : Nat) (ha : W a) (w : World) : Calls Try.prog 16 #[.int .u64 (a : Int)] w fun e w' => e = .returned (.bool true) ∧ Below w.heap.size w w' := by
  by_cases bad : nan a = true ∨ inf a = true
  · exact lsplits_bad a (Lib.hid (fun w => psplit_bad a ha bad w)) (Lib.hid (fun w => rsplit_bad a ha bad w)) w
  have n1 : nan a = false := Bool.eq_false_iff.2 (fun h => bad (.inl h))
  have i1 : inf a = false := Bool.eq_false_iff.2 (fun h => bad (.inr h))
  have bA := bl_sm a
  have hmk : makeR (ng a) (sm a) (se a) = a := by
    rw [makeR_ok (ng a) (se a) (by omega)]; unfold makeV; rw [pat_fix n1 i1]; exact sg_mag ha
  refine lsplits_good a _ _ _ (Lib.hid (fun w => psplit_c a ha n1 i1 w)) (Lib.hid (fun w => rsplit_c a ha n1 i1 w)) (Lib.hid (fun w1 a1 n1 c1 h => ⟨plen h (by omega), (Rd.parts h).1⟩)) (Lib.hid (fun w1 a1 n1 c1 h => ?_)) w
  have := pmake_c (ng a) a1 n1 c1 (ws (sm a)) (se a) w1 h (words_ws _) (by have := plen h (k := 2) (by omega); omega)
  rw [wv_ws, hmk] at this
  exact this
def MakesRel (w : World) (n : Nat) (v : Value) (wr : World) : Prop := ∃ k j : Nat, k ≤ n ∧ v = .int .i64 (k : Int) ∧ wr = w.drewN j
set_option maxRecDepth 100000 in
set_option maxHeartbeats 4000000 in
theorem lmakes_g (neg : Bool) (a : Option Addr) (n c : Nat) (l : List Int) (e R : Int) (w : World) (hr : Rd w .u32 (.slice a n c) l) (hw : Words l) (hn : n ≤ 1100)
    (HP : Hid (∀ (w1 : World) (a1 : Option Addr) (c1 : Nat), Rd w1 .u32 (.slice a1 n c1) l → Calls Try.prog 57 #[.bool neg, .slice a1 n c1, .int .i64 e] w1 fun x w' => x = .returned (.int .u64 R) ∧ Below w1.heap.size w1 w'))
    (HR : Hid (∀ (w1 : World) (a1 : Option Addr) (c1 : Nat), Rd w1 .u32 (.slice a1 n c1) l → Calls Try.prog 58 #[.bool neg, .slice a1 n c1, .int .i64 e] w1 fun x w' => x = .returned (.int .u64 R) ∧ Below w1.heap.size w1 w')) :
    Calls Try.prog 15 #[.bool neg, .slice a n c, .int .i64 e] w fun e w' => e = .returned (.bool true) ∧ Below w.heap.size w w' := by
  have nl := hr.parts.1
  have HNL := Lib.hid nl
  have HRD := Lib.hid hr
  have H0 := Lib.hid (show 0 + l.length < 1000000000000 by omega)
  have hcap := hr.parts.2.1
  clear nl hr
  go_enter Try.func15, Try.ntmps15
  go_wp2_with (first
    | (at_builtin; refine wp_apps 41 35 (.int .u32 0) 4 Try.underlying41 info_u32 rfl w.heap.size (.slice none 0 0) 0 [] rfl (.tmp 14) (.tmp 15) (by rfl) (by rfl) (World.ownsRow_nil _ _ _ _) (Nat.le_refl _) .u32 (.slice a n c) l (by rfl) HRD.out H0.out (by decide) ?_; intro v1 w1 hown1 hg1 _; rw [Nat.zero_add, List.nil_append, ← HNL.out] at hown1; obtain ⟨a1, c1, rfl⟩ := ownsRow_slice hown1; have HO1 := Lib.hid hown1; have hb1 := grown_below hg1 (World.ownsRow_nil _ _ 35 _) (Nat.le_refl _); clear hown1 hg1)
    | (at_builtin; go_loud (refine wp_app 41 35 (.int .u32 0) 4 Try.underlying41 info_u32 rfl w.heap.size (.slice a1 n c1) n _ (.int .u32 77) w1 _ rfl (by rfl) (.tmp 17) (.tmp 18) (by rfl) (by rfl) (by rfl) HO1.out hb1.size rfl (by omega) (by decide) ?_); intro v2 w2 hown2 hb2; obtain ⟨a2, c2, rfl⟩ := ownsRow_slice hown2; have hrd2 : Rd w2 .u32 (.slice a2 (n + 1) c2) (l ++ [77]) := Rd.of_own (by rw [List.map_append]; exact hown2); have hcap2 := (Rd.parts hrd2).2.1; have hb12 := hb1.trans hb2; have hrl : Rd w2 .u32 (.slice a2 n c2) l := by { have h := hrd2.take (m := n) (by omega); rw [List.take_left' HNL.out.symm] at h; exact h }; have HRD2 := Lib.hid hrd2; have HRL := Lib.hid hrl; clear hown2 hrd2 hrl)
    | (go_at_call 57; (with_reducible refine (HP.out _ _ _ HRL.out).mono ?_); rintro e1 w3 ⟨rfl, hb3⟩))
  have hb4 := btn hb12 hb3
  obtain ⟨g2, o2, rfl, hc2⟩ := Rd.addr (HRD2.out.below hb3) (by omega)
  have HC2 := Lib.hid hc2
  have HRW := Lib.hid (HRD.out.below hb4)
  have H77 := Lib.hid (show (l ++ [(77 : Int)]).getD n 0 = (77 : Int) by
    rw [HNL.out, List.getD_eq_getElem?_getD, List.getElem?_append_right (Nat.le_refl _), Nat.sub_self]; rfl)
  have HLX := Lib.hid (fun (k : Nat) (h : k < n) => show (l ++ [(77 : Int)]).getD k 0 = l.getD k 0 by
    rw [List.getD_eq_getElem?_getD, List.getD_eq_getElem?_getD, List.getElem?_append_left (by have := HNL.out; omega)])
  clear hb1 hb2 hb12 hb3
  clear hc2
  go_loopw [9] (fun v9 wr => MakesRel w3 n v9 wr) (fun v9 _ => n - (intOf v9).toNat)
  case atStart => unfold MakesRel; exact ⟨0, 0, Nat.zero_le _, rfl, rfl⟩
  case round =>
    obtain ⟨k, j, hk, rfl, rfl⟩ := hrel
    by_cases km : k < n
    · obtain ⟨g1, o1, rfl, h1⟩ := Rd.addr HRW.out (by omega)
      have q1 := h1 k km
      have q2 := HC2.out k (by omega)
      rw [HLX.out k km] at q2
      obtain ⟨x, hx⟩ : ∃ x, l.getD k 0 = x := ⟨_, rfl⟩
      rw [hx] at q1 q2
      have km2 : k < n + 1 := by omega
      clear h1 hx
      go_wp2
      go_quiet (fail)
      go_wp2
      go_roundw
      case rel => unfold MakesRel; exact ⟨k + 1, _, by omega, by go_num, rfl⟩
      case measure => simp [intOf]; omega
    · obtain rfl : k = n := by omega
      have hbd := below_drewN (Below.refl w3.heap.size w3) j
      have hrr := Lib.hid (HRW.out.below hbd)
      have HB5 := Lib.hid (btn hb4 hbd)
      have q7 := HC2.out k (by omega)
      rw [H77.out] at q7
      clear km hbd
      go_wp2_with (first
        | (go_at_call 58; (with_reducible refine (HR.out _ _ _ hrr.out).mono ?_); rintro e1 w5 ⟨rfl, hb5⟩; have q8 := cell_below hb5 q7)
        | (go_at_call 20; refine (awake_c _).mono ?_; rintro e1 w6 ⟨rfl, hb6⟩))
      go_ret
      exact ⟨rfl, btn HB5.out (btn hb5 hb6)⟩
theorem lmakes_walk (neg : Bool) (v : Value) (l : List Int) (e : Int) (w : World) (he : -9223372036854775808 ≤ e ∧ e ≤ 9223372036854775807) (hr : Rd w .u32 v l) (hw : Words l) (hn : l.length ≤ 9223372036854775807) :
    Calls Try.prog 15 #[.bool neg, v, .int .i64 e] w fun e w' => e = .returned (.bool true) ∧ Below w.heap.size w w' := by
  obtain ⟨a, c, rfl⟩ := Rd.len hr
  by_cases h : 1100 < l.length
  · have h2 : (1100 : Int) < l.length := by omega
    have hcap := hr.parts.2.1
    clear hr hw
    go_enter Try.func15, Try.ntmps15
    go_wp2_with (go_at_call 20; refine (awake_c _).mono ?_; rintro e1 w6 ⟨rfl, hb6⟩)
    go_ret
    exact ⟨rfl, hb6⟩
  · exact lmakes_g neg a _ c l e _ w hr hw (by omega) (Lib.hid (fun w1 a1 c1 h => pmake_c neg a1 _ c1 l e w1 h hw (by omega))) (Lib.hid (fun w1 a1 c1 h => rmakeG_c neg a1 _ c1 l e w1 h hw (by omega) he))
theorem wf_u32 {x : Int} (h : (Lit.int .u32 x).wf = true) : 0 ≤ x ∧ x < 4294967296 := by
  simp [Lit.wf, IntKind.min, IntKind.max, IntKind.signed, IntKind.bits] at h
  exact ⟨by omega, by omega⟩
end Go.Proofs.Ytecgkhijiogggaa
