/- Same, on both sides. -/
import Derived.Test.YtocmgdolinajmaaDoorIA
namespace Go.Proofs.YtocmgdolinajmaaDoor
set_option linter.unusedVariables false
set_option linter.unusedSimpArgs false
open Go.RowKit

set_option maxHeartbeats 2000000 in
theorem psame_c (u v : Value) (a b : List Int) (w : World) (ha : Rd w .u8 u a) (hb : Rd w .u8 v b) (ba : Byt a) (bb : Byt b) (hla : a.length ≤ 1000000) (hlb : b.length ≤ 1000000) :
    Calls Tryd.prog 16 #[u, v] w fun e w' => e = .returned (.bool (sameV a b)) ∧ Below w.heap.size w w' := by
  have HA := Lib.hid ha
  have HB := Lib.hid hb
  obtain ⟨a0, c0, rfl, _⟩ := ha
  obtain ⟨a1, c1, rfl, _⟩ := hb
  obtain ⟨L, hL⟩ : ∃ L, a.length = L := ⟨_, rfl⟩
  obtain ⟨M, hM⟩ : ∃ M, b.length = M := ⟨_, rfl⟩
  have HL := Lib.hid hL
  have HM := Lib.hid hM
  rw [hL] at HA hla ⊢
  rw [hM] at HB hlb ⊢
  by_cases hne : L = M
  · subst hne
    have GA := Lib.hid (fun w' (hb : Below w.heap.size w w') (i : Nat) (hi : i < L) => (HA.out.below hb).at_ (i := i) (by have := HL.out; omega))
    have GB := Lib.hid (fun w' (hb : Below w.heap.size w w') (i : Nat) (hi : i < L) => (HB.out.below hb).at_ (i := i) (by have := HM.out; omega))
    have BA := Lib.hid (fun (i : Nat) (hi : i < L) => byt_at ba (i := i) (by have := HL.out; omega))
    have BB := Lib.hid (fun (i : Nat) (hi : i < L) => byt_at bb (i := i) (by have := HM.out; omega))
    have NO := Lib.hid (fun (i : Nat) (hi : i < L) => same_diff (a := a) (b := b) (i := i) (by have := HL.out; omega) (by have := HM.out; omega))
    have YES : Hid ((∀ i, i < L → lowV (a.getD i 0) = lowV (b.getD i 0)) → sameV a b = true) := Lib.hid (fun h => same_all (by rw [HL.out, HM.out]) (by rw [HL.out]; exact h))
    clear hL hM ba bb HL HM HA HB
    go_enter Tryd.func16, Tryd.ntmps16
    go_wp2
    go_loopw [13] (fun x wr => ∃ i : Nat, i ≤ L ∧ x = .int .i64 i ∧ Below w.heap.size w wr ∧ Hid (∀ j, j < i → lowV (a.getD j 0) = lowV (b.getD j 0))) (fun x _ => L - (intOf x).toNat)
    case atStart => exact ⟨0, Nat.zero_le _, rfl, Below.refl _ _, Lib.hid fun j hj => by omega⟩
    case round =>
      obtain ⟨i, hi, rfl, hbw, HP⟩ := hrel
      by_cases hlt : i < L
      · obtain ⟨g0, o0, rfl, q0⟩ := GA.out _ hbw i hlt
        obtain ⟨g1, o1, rfl, q1⟩ := GB.out _ hbw i hlt
        have x0 := BA.out i hlt
        have y0 := BB.out i hlt
        have N := NO.out i hlt
        have HQ : Hid (lowV (a.getD i 0) = lowV (b.getD i 0) → ∀ j, j < i + 1 → lowV (a.getD j 0) = lowV (b.getD j 0)) := Lib.hid fun h j hj => by
          by_cases e : j = i
          · rw [e]; exact h
          · exact HP.out j (by omega)
        obtain ⟨x, hx⟩ : ∃ x, a.getD i 0 = x := ⟨_, rfl⟩
        obtain ⟨y, hy⟩ : ∃ y, b.getD i 0 = y := ⟨_, rfl⟩
        rw [hx] at q0 x0 N HQ
        rw [hy] at q1 y0 N HQ
        have CX := Lib.hid (fun w => lower_c x x0.1 x0.2 w)
        have CY := Lib.hid (fun w => lower_c y y0.1 y0.2 w)
        clear hx hy GA GB BA BB NO x0 y0
        obtain ⟨lx, hlx⟩ : ∃ lx, lowV x = lx := ⟨_, rfl⟩
        obtain ⟨ly, hly⟩ : ∃ ly, lowV y = ly := ⟨_, rfl⟩
        rw [hlx] at CX N HQ
        rw [hly] at CY N HQ
        clear hlx hly
        by_cases hd : lx = ly
        · have HQ2 := Lib.hid (HQ.out hd)
          subst hd
          clear N HQ
          go_wp2_with fail
          go_quiet (first
            | (go_at_call 26; with_reducible exact quiet_left (CX.out _))
            | (go_at_call 26; with_reducible exact quiet_left (CY.out _)))
          go_wp2_with fail
          go_roundw
          case rel => exact ⟨i + 1, by omega, by go_num, below_drewN hbw _, HQ2⟩
          case measure => simp [intOf]; omega
        · have HN := Lib.hid (N hd)
          clear N HQ YES
          go_wp2_with fail
          go_quiet (first
            | (go_at_call 26; with_reducible exact quiet_left (CX.out _))
            | (go_at_call 26; with_reducible exact quiet_left (CY.out _)))
          go_wp2_with fail
          go_ret
          exact ⟨retb HN.out.symm, below_drewN hbw _⟩
      · have e : i = L := by omega
        subst e
        have HY := Lib.hid (YES.out HP.out)
        clear GA GB BA BB NO YES
        go_wp2_with fail
        go_ret
        exact ⟨retb HY.out.symm, hbw⟩
  · have HN : Hid (sameV a b = false) := Lib.hid (same_len (by rw [hL, hM]; exact hne))
    clear hL hM
    go_enter Tryd.func16, Tryd.ntmps16
    go_wp2
    go_ret
    exact ⟨retb HN.out.symm, Below.refl _ _⟩
set_option maxHeartbeats 2000000 in
theorem rsame_c (u v : Value) (a b : List Int) (w : World) (ha : Rd w .u8 u a) (hb : Rd w .u8 v b) (ba : Byt a) (bb : Byt b) (hla : a.length ≤ 1000000) (hlb : b.length ≤ 1000000) :
    Calls Tryd.prog 17 #[u, v] w fun e w' => e = .returned (.bool (sameV a b)) ∧ Below w.heap.size w w' := by
  have HA := Lib.hid ha
  have HB := Lib.hid hb
  obtain ⟨a0, c0, rfl, _⟩ := ha
  obtain ⟨a1, c1, rfl, _⟩ := hb
  obtain ⟨L, hL⟩ : ∃ L, a.length = L := ⟨_, rfl⟩
  obtain ⟨M, hM⟩ : ∃ M, b.length = M := ⟨_, rfl⟩
  have HL := Lib.hid hL
  have HM := Lib.hid hM
  rw [hL] at HA hla ⊢
  rw [hM] at HB hlb ⊢
  by_cases hne : L = M
  · subst hne
    have GA := Lib.hid (fun w' (hb : Below w.heap.size w w') (i : Nat) (hi : i < L) => (HA.out.below hb).at_ (i := i) (by have := HL.out; omega))
    have GB := Lib.hid (fun w' (hb : Below w.heap.size w w') (i : Nat) (hi : i < L) => (HB.out.below hb).at_ (i := i) (by have := HM.out; omega))
    have BA := Lib.hid (fun (i : Nat) (hi : i < L) => byt_at ba (i := i) (by have := HL.out; omega))
    have BB := Lib.hid (fun (i : Nat) (hi : i < L) => byt_at bb (i := i) (by have := HM.out; omega))
    have NO := Lib.hid (fun (i : Nat) (hi : i < L) => same_diff (a := a) (b := b) (i := i) (by have := HL.out; omega) (by have := HM.out; omega))
    have YES : Hid ((∀ i, i < L → lowV (a.getD i 0) = lowV (b.getD i 0)) → sameV a b = true) := Lib.hid (fun h => same_all (by rw [HL.out, HM.out]) (by rw [HL.out]; exact h))
    clear hL hM ba bb HL HM HA HB
    go_enter Tryd.func17, Tryd.ntmps17
    go_wp2
    go_loopw [5] (fun x wr => ∃ i : Nat, i ≤ L ∧ x = .int .i64 i ∧ Below w.heap.size w wr ∧ Hid (∀ j, j < i → lowV (a.getD j 0) = lowV (b.getD j 0))) (fun x _ => L - (intOf x).toNat)
    case atStart => exact ⟨0, Nat.zero_le _, rfl, Below.refl _ _, Lib.hid fun j hj => by omega⟩
    case round =>
      obtain ⟨i, hi, rfl, hbw, HP⟩ := hrel
      by_cases hlt : i < L
      · obtain ⟨g0, o0, rfl, q0⟩ := GA.out _ hbw i hlt
        obtain ⟨g1, o1, rfl, q1⟩ := GB.out _ hbw i hlt
        have x0 := BA.out i hlt
        have y0 := BB.out i hlt
        have N := NO.out i hlt
        have HQ : Hid (lowV (a.getD i 0) = lowV (b.getD i 0) → ∀ j, j < i + 1 → lowV (a.getD j 0) = lowV (b.getD j 0)) := Lib.hid fun h j hj => by
          by_cases e : j = i
          · rw [e]; exact h
          · exact HP.out j (by omega)
        obtain ⟨x, hx⟩ : ∃ x, a.getD i 0 = x := ⟨_, rfl⟩
        obtain ⟨y, hy⟩ : ∃ y, b.getD i 0 = y := ⟨_, rfl⟩
        rw [hx] at q0 x0 N HQ
        rw [hy] at q1 y0 N HQ
        have CX := Lib.hid (fun w => fold_c x x0.1 x0.2 w)
        have CY := Lib.hid (fun w => fold_c y y0.1 y0.2 w)
        clear hx hy GA GB BA BB NO x0 y0
        rw [Ne, low_fold] at N
        rw [low_fold x y] at HQ
        obtain ⟨lx, hlx⟩ : ∃ lx, foldV x = lx := ⟨_, rfl⟩
        obtain ⟨ly, hly⟩ : ∃ ly, foldV y = ly := ⟨_, rfl⟩
        rw [hlx] at CX N HQ
        rw [hly] at CY N HQ
        clear hlx hly
        by_cases hd : lx = ly
        · have HQ2 := Lib.hid (HQ.out hd)
          subst hd
          clear N HQ
          go_wp2_with fail
          go_quiet (first
            | (go_at_call 27; with_reducible exact quiet_left (CX.out _))
            | (go_at_call 27; with_reducible exact quiet_left (CY.out _)))
          go_wp2_with fail
          go_roundw
          case rel => exact ⟨i + 1, by omega, by go_num, below_drewN hbw _, HQ2⟩
          case measure => simp [intOf]; omega
        · have HN := Lib.hid (N hd)
          clear N HQ YES
          go_wp2_with fail
          go_quiet (first
            | (go_at_call 27; with_reducible exact quiet_left (CX.out _))
            | (go_at_call 27; with_reducible exact quiet_left (CY.out _)))
          go_wp2_with fail
          go_ret
          exact ⟨retb HN.out.symm, below_drewN hbw _⟩
      · have e : i = L := by omega
        subst e
        have HY := Lib.hid (YES.out HP.out)
        clear GA GB BA BB NO YES
        go_wp2_with fail
        go_ret
        exact ⟨retb HY.out.symm, hbw⟩
  · have HN : Hid (sameV a b = false) := Lib.hid (same_len (by rw [hL, hM]; exact hne))
    clear hL hM
    go_enter Tryd.func17, Tryd.ntmps17
    go_wp2
    go_ret
    exact ⟨retb HN.out.symm, Below.refl _ _⟩
end Go.Proofs.YtocmgdolinajmaaDoor
