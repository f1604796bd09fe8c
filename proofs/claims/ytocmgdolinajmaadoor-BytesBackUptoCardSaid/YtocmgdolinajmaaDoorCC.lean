/- The law BytesCompare. -/
import Derived.Test.YtocmgdolinajmaaDoorCB
import Derived.ChangeAgain
namespace Go.Proofs.YtocmgdolinajmaaDoor
set_option linter.unusedVariables false
set_option linter.unusedSimpArgs false
open Go.RowKit

theorem shaped_below {w w' : World} (h : w.ShapedOpen Tryd.prog) (hb : Below w.heap.size w w') : w'.ShapedOpen Tryd.prog := h.keptBut (may := fun _ => False) (hb.frame _) (fun _ h => h.elim)
theorem Lent.sl {w : World} {v : Value} {l : List Int} (h : Lent w v l) : Sl v := by
  obtain ⟨g, c, rfl, _⟩ := h
  exact .inr ⟨_, _, _, rfl⟩
set_option maxRecDepth 100000 in
set_option maxHeartbeats 8000000 in
theorem lcompare_walk (va vb : Value) (la lb : List Int) (w : World) (hsh : w.ShapedOpen Tryd.prog) (ha : Rd w .u8 va la) (hb : Rd w .u8 vb lb) (ba : Byt la) (bb : Byt lb) :
    Calls Tryd.prog 4 #[va, vb] w fun e w' => e = .returned (.bool true) ∧ Below w.heap.size w w' := by
  have AW := Lib.hid (fun w => awake_c w)
  by_cases h1 : 400 < la.length
  · obtain ⟨aa, ca, rfl⟩ := ha.len
    obtain ⟨ab, cb, rfl⟩ := hb.len
    obtain ⟨L, hL⟩ : ∃ L, la.length = L := ⟨_, rfl⟩
    obtain ⟨M, hM⟩ : ∃ M, lb.length = M := ⟨_, rfl⟩
    rw [hL] at h1 ⊢
    rw [hM]
    have h2 : (400 : Int) < L := by omega
    clear ha hb hL hM hsh ba bb
    go_enter Tryd.func4, Tryd.ntmps4
    go_wp2_with (go_at_call 6; (with_reducible refine (AW.out _).mono ?_); rintro e w5 ⟨rfl, hb5⟩)
    go_ret
    exact ⟨rfl, hb5⟩
  · by_cases h3 : 400 < lb.length
    · obtain ⟨aa, ca, rfl⟩ := ha.len
      obtain ⟨ab, cb, rfl⟩ := hb.len
      obtain ⟨L, hL⟩ : ∃ L, la.length = L := ⟨_, rfl⟩
      obtain ⟨M, hM⟩ : ∃ M, lb.length = M := ⟨_, rfl⟩
      rw [hL] at h1 ⊢
      rw [hM] at h3 ⊢
      have h2 : (400 : Int) < M := by omega
      have h4 : ¬ (400 : Int) < L := by omega
      clear ha hb hL hM hsh ba bb
      go_enter Tryd.func4, Tryd.ntmps4
      go_wp2_with (go_at_call 6; (with_reducible refine (AW.out _).mono ?_); rintro e w5 ⟨rfl, hb5⟩)
      go_ret
      exact ⟨rfl, hb5⟩
    · have hla : la.length ≤ 400 := by omega
      have hlb : lb.length ≤ 400 := by omega
      have HSH := Lib.hid hsh
      have HA := Lib.hid ha
      have HB := Lib.hid hb
      obtain ⟨X, hX⟩ : ∃ X, idxAt la lb = X := ⟨_, rfl⟩
      obtain ⟨F, hF⟩ : ∃ F, decide (0 ≤ idxI la lb) = F := ⟨_, rfl⟩
      obtain ⟨C, hC⟩ : ∃ C, cmpB la lb = C := ⟨_, rfl⟩
      obtain ⟨q, hq⟩ : ∃ q, sameV la lb = q := ⟨_, rfl⟩
      obtain ⟨t, ht⟩ : ∃ t : Int, (trl la la.length : Int) = t := ⟨_, rfl⟩
      have LA := Lib.hid (lent_c va la w ha (by omega))
      have LB := Lib.hid (fun w1 (h : Below w.heap.size w w1) => lent_c vb lb w1 (hb.below h) (by omega))
      have MK : Hid (∀ w1 w2 u1 u2, Lent w1 u1 la → Below w.heap.size w w1 → Lent w2 u2 lb → Below w1.heap.size w1 w2 →
          Below w.heap.size w w2 ∧
          Hid (Calls Tryd.prog 12 #[u1, u2] w2 fun e w' => e = .returned (.tuple #[.int .i64 X, .bool F]) ∧ Below w2.heap.size w2 w') ∧
          Hid (∀ w3, Below w2.heap.size w2 w3 → Calls Tryd.prog 14 #[u1, u2] w3 fun e w' => e = .returned (.int .i64 C) ∧ w3 = w') ∧
          Hid (∀ w3, Below w2.heap.size w2 w3 → Calls Tryd.prog 16 #[u1, u2] w3 fun e w' => e = .returned (.bool q) ∧ Below w3.heap.size w3 w') ∧
          Hid (∀ w3, Below w2.heap.size w2 w3 → Calls Tryd.prog 18 #[u1] w3 fun e w' => e = .returned (.int .i64 t) ∧ w3 = w') ∧
          Hid (∀ w3, Below w2.heap.size w2 w3 → Calls Tryd.prog 11 #[u1, va] w3 fun e w' => e = .returned (.bool true) ∧ Below w3.heap.size w3 w') ∧
          Hid (∀ w3, Below w2.heap.size w2 w3 → Calls Tryd.prog 11 #[u2, vb] w3 fun e w' => e = .returned (.bool true) ∧ Below w3.heap.size w3 w') ∧
          Hid (∀ w3, Below w2.heap.size w2 w3 → Calls Tryd.prog 13 #[va, vb] w3 fun e w' => e = .returned (.tuple #[.int .i64 X, .bool F]) ∧ Below w3.heap.size w3 w') ∧
          Hid (∀ w3, Below w2.heap.size w2 w3 → Calls Tryd.prog 15 #[va, vb] w3 fun e w' => e = .returned (.int .i64 C) ∧ Below w3.heap.size w3 w') ∧
          Hid (∀ w3, Below w2.heap.size w2 w3 → Calls Tryd.prog 17 #[va, vb] w3 fun e w' => e = .returned (.bool q) ∧ Below w3.heap.size w3 w') ∧
          Hid (∀ w3, Below w2.heap.size w2 w3 → Calls Tryd.prog 19 #[va] w3 fun e w' => e = .returned (.int .i64 t) ∧ Below w3.heap.size w3 w')) := by
        refine Lib.hid fun w1 w2 u1 u2 l1 b1 l2 b2 => ?_
        have bz : Below w.heap.size w w2 := below_then b1 b1.size b2
        have l1' := l1.below b2
        have ha2 := HA.out.below bz
        have hb2 := HB.out.below bz
        rw [← hX, ← hF, ← hC, ← hq, ← ht]
        exact ⟨bz, Lib.hid (search_c u1 u2 la lb w2 (shaped_below HSH.out bz) l1'.rd l2.rd l1.sl l2.sl ba bb hla hlb),
          Lib.hid (fun w3 h => cmp_c u1 u2 la lb w3 (l1'.below h).rd (l2.below h).rd ba bb),
          Lib.hid (fun w3 h => psame_c u1 u2 la lb w3 (l1'.below h).rd (l2.below h).rd ba bb (by omega) (by omega)),
          Lib.hid (fun w3 h => ptrail_c u1 la w3 (l1'.below h).rd (by omega)),
          Lib.hid (fun w3 h => back_c u1 va la w3 (l1'.below h) (ha2.below h) ba (by omega)),
          Lib.hid (fun w3 h => back_c u2 vb lb w3 (l2.below h) (hb2.below h) bb (by omega)),
          Lib.hid (fun w3 h => rsearch_c va vb la lb w3 (ha2.below h) (hb2.below h) ba bb hla hlb),
          Lib.hid (fun w3 h => rcmp_c va vb la lb w3 (ha2.below h) (hb2.below h) (by omega) (by omega)),
          Lib.hid (fun w3 h => rsame_c va vb la lb w3 (ha2.below h) (hb2.below h) ba bb (by omega) (by omega)),
          Lib.hid (fun w3 h => rtrail_c va la w3 (ha2.below h) (by omega))⟩
      obtain ⟨aa, ca, rfl⟩ := ha.len
      obtain ⟨ab, cb, rfl⟩ := hb.len
      obtain ⟨L, hL⟩ : ∃ L, la.length = L := ⟨_, rfl⟩
      obtain ⟨M, hM⟩ : ∃ M, lb.length = M := ⟨_, rfl⟩
      rw [hL] at hla LA MK ⊢
      rw [hM] at hlb LB MK ⊢
      have h5 : ¬ (400 : Int) < L := by omega
      have h6 : ¬ (400 : Int) < M := by omega
      clear ha hb hX hF hC hq ht hL hM h1 h3 HA HB HSH hsh ba bb
      go_enter Tryd.func4, Tryd.ntmps4
      go_wp2_with (first
        | (go_at_call 7; (with_reducible refine (LA.out).mono ?_); rintro e w1 ⟨u1, rfl, l1, b1⟩; have L1 := Lib.hid l1; have B1 := Lib.hid b1; clear l1 b1)
        | (go_at_call 7; (with_reducible refine (LB.out _ B1.out).mono ?_); rintro e w2 ⟨u2, rfl, l2, b2⟩; obtain ⟨bz, SE, PC, PS, PT, K1, K2, RSE, RC, RS, RT⟩ := MK.out w1 w2 u1 u2 L1.out B1.out l2 b2; have BZ := Lib.hid bz; clear bz l2 b2)
        | (go_at_call 12; (with_reducible refine (SE.out).mono ?_); rintro e w3 ⟨rfl, b3⟩; have B3 := Lib.hid b3; clear b3)
        | (go_at_call 13; (with_reducible refine (RSE.out _ B3.out).mono ?_); rintro e w4 ⟨rfl, b4⟩; have B4 := Lib.hid (below_then B3.out B3.out.size b4); clear b4)
        | (go_at_call 14; (with_reducible refine (PC.out _ B4.out).mono ?_); rintro e w' ⟨rfl, rfl⟩)
        | (go_at_call 15; (with_reducible refine (RC.out _ B4.out).mono ?_); rintro e w5 ⟨rfl, b5⟩; have B5 := Lib.hid (below_then B4.out B4.out.size b5); clear b5)
        | (go_at_call 16; (with_reducible refine (PS.out _ B5.out).mono ?_); rintro e w6 ⟨rfl, b6⟩; have B6 := Lib.hid (below_then B5.out B5.out.size b6); clear b6)
        | (go_at_call 17; (with_reducible refine (RS.out _ B6.out).mono ?_); rintro e w7 ⟨rfl, b7⟩; have B7 := Lib.hid (below_then B6.out B6.out.size b7); clear b7)
        | (go_at_call 18; (with_reducible refine (PT.out _ B7.out).mono ?_); rintro e w' ⟨rfl, rfl⟩)
        | (go_at_call 19; (with_reducible refine (RT.out _ B7.out).mono ?_); rintro e w8 ⟨rfl, b8⟩; have B8 := Lib.hid (below_then B7.out B7.out.size b8); clear b8)
        | (go_at_call 11; (with_reducible refine (K1.out _ B8.out).mono ?_); rintro e w9 ⟨rfl, b9⟩; have B9 := Lib.hid (below_then B8.out B8.out.size b9); clear b9)
        | (go_at_call 11; (with_reducible refine (K2.out _ B9.out).mono ?_); rintro e w10 ⟨rfl, b10⟩; have B10 := Lib.hid (below_then B9.out B9.out.size b10); clear b10)
        | (go_at_call 6; (with_reducible refine (AW.out _).mono ?_); rintro e w11 ⟨rfl, b11⟩; have B11 := Lib.hid (below_then B10.out B10.out.size b11); clear b11))
      go_ret
      exact ⟨rfl, below_then BZ.out BZ.out.size B11.out⟩
end Go.Proofs.YtocmgdolinajmaaDoor
