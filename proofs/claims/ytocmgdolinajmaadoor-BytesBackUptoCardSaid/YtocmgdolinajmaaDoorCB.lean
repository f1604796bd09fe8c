/- Search on the document's side. -/
import Derived.Test.YtocmgdolinajmaaDoorH
import Derived.Test.YtocmgdolinajmaaDoorI
import Derived.Test.YtocmgdolinajmaaDoorCA
namespace Go.Proofs.YtocmgdolinajmaaDoor
set_option linter.unusedVariables false
set_option linter.unusedSimpArgs false
open Go.RowKit

set_option maxRecDepth 100000 in
set_option maxHeartbeats 4000000 in
theorem rsearch_nil (aa ab : Option Addr) (ca cb M : Nat) (lb : List Int) (w : World) (hb : Hid (Rd w .u8 (.slice ab M cb) lb)) (hM : M ≤ 400) (hlb : Hid (lb.length = M)) (Y : Int) (F : Bool) (YF : Hid (if M = 0 then Y = 0 ∧ F = true else Y = 0 ∧ F = false)) :
    Calls Tryd.prog 13 #[.slice aa 0 ca, .slice ab M cb] w fun e w' => e = .returned (.tuple #[.int .i64 Y, .bool F]) ∧ Below w.heap.size w w' := by
  by_cases h0 : M = 0
  · subst h0
    have e := YF.out
    rw [if_pos rfl] at e
    obtain ⟨rfl, rfl⟩ := e
    have CV : ∀ (a' : Option Addr) (c' : Nat) (w1 : World), (convert 22 9 (.slice a' 0 c')).run Tryd.prog w1 = .ok (.string (strOfNums [])) w1 := fun a' c' w1 =>
      (show Rd w1 .u8 (.slice a' 0 c') [] from ⟨a', c', rfl, Nat.zero_le _, .inl rfl⟩).to_string (P := Tryd.prog) (src := 22) (dst := 9) Tryd.underlying22 Tryd.underlying5 Tryd.underlying9
    obtain ⟨S, hS⟩ : ∃ S, strOfNums [] = S := ⟨_, rfl⟩
    have st : (S.toList == S.toList) = true := beq_self_eq_true _
    rw [hS] at CV
    clear hS hb hlb YF
    go_enter Tryd.func13, Tryd.ntmps13
    go_wp2
    go_loopw [6] (fun x wr => x = .int .i64 0 ∧ Below w.heap.size w wr) (fun x _ => 0)
    case atStart => exact ⟨rfl, Below.refl _ _⟩
    case round =>
      obtain ⟨rfl, hbw⟩ := hrel
      cases aa <;> (go_wp2; go_region)
      all_goals
        go_wp2
        go_ret2
        exact ⟨rfl, below_drewN hbw 1⟩
  · have e := YF.out
    rw [if_neg h0] at e
    obtain ⟨rfl, rfl⟩ := e
    have h1 : (0 : Int) < M := by omega
    clear hb hlb YF
    go_enter Tryd.func13, Tryd.ntmps13
    go_wp2
    go_loopw [6] (fun x wr => x = .int .i64 0 ∧ Below w.heap.size w wr) (fun x _ => 0)
    case atStart => exact ⟨rfl, Below.refl _ _⟩
    case round =>
      obtain ⟨rfl, hbw⟩ := hrel
      go_wp2
      go_ret2
      exact ⟨rfl, hbw⟩
set_option maxRecDepth 100000 in
set_option maxHeartbeats 4000000 in
theorem rsearch_c (va vb : Value) (la lb : List Int) (w : World) (ha : Rd w .u8 va la) (hb : Rd w .u8 vb lb) (ba : Byt la) (bb : Byt lb) (hla : la.length ≤ 400) (hlb : lb.length ≤ 400) :
    Calls Tryd.prog 13 #[va, vb] w fun e w' => e = .returned (.tuple #[.int .i64 (idxAt la lb), .bool (decide (0 ≤ idxI la lb))]) ∧ Below w.heap.size w w' := by
  have HA := Lib.hid ha
  have HB := Lib.hid hb
  obtain ⟨ab, cb, rfl⟩ := hb.len
  obtain ⟨aa, ca, rfl, hcc, hform⟩ := ha
  rcases hform with hnil | ⟨g, off, rfl, _⟩
  · subst hnil
    refine rsearch_nil aa ab ca cb lb.length lb w HB hlb (Lib.hid rfl) _ _ (Lib.hid ?_)
    cases lb with
    | nil => exact ⟨rfl, rfl⟩
    | cons x lb => exact ⟨rfl, rfl⟩
  · have CA : Hid (∀ w1 (i : Nat), Below w.heap.size w w1 → i + lb.length ≤ la.length → (convert 22 9 (.slice (some ⟨g, off + i, none⟩) lb.length (ca - i))).run Tryd.prog w1 = .ok (.string (strOfNums ((la.drop i).take lb.length))) w1) := Lib.hid (fun w1 i hw hi =>
      ((HA.out.below hw).mid hi).to_string (P := Tryd.prog) (src := 22) (dst := 9) Tryd.underlying22 Tryd.underlying5 Tryd.underlying9)
    have CB : Hid (∀ w1, Below w.heap.size w w1 → (convert 22 9 (.slice ab lb.length cb)).run Tryd.prog w1 = .ok (.string (strOfNums lb)) w1) := Lib.hid (fun w1 hw =>
      (HB.out.below hw).to_string (P := Tryd.prog) (src := 22) (dst := 9) Tryd.underlying22 Tryd.underlying5 Tryd.underlying9)
    have SE := Lib.hid (fun (i : Nat) => str_eq (a := (la.drop i).take lb.length) (b := lb) (fun y hy => ba y (List.mem_of_mem_drop (List.mem_of_mem_take hy))) bb)
    have A0 := Lib.hid (at_0 la lb)
    have AY := Lib.hid (fun i (h : At la lb i) hp => at_yes h hp)
    have AN := Lib.hid (fun i (h : At la lb i) hi hp => at_no h hi hp)
    have AE := Lib.hid (fun i (h : At la lb i) hi hil => at_end h hi hil)
    obtain ⟨L, hL⟩ : ∃ L, la.length = L := ⟨_, rfl⟩
    obtain ⟨M, hM⟩ : ∃ M, lb.length = M := ⟨_, rfl⟩
    have HM := Lib.hid hM
    obtain ⟨X, hX⟩ : ∃ X, idxI la lb = X := ⟨_, rfl⟩
    have HX := Lib.hid hX
    unfold idxAt
    rw [hX]
    rw [hL] at hla hcc CA AN AE ⊢
    rw [hM] at hlb CA CB SE AE ⊢
    obtain ⟨Y, hY⟩ : ∃ Y, (if X < 0 then (0 : Int) else X) = Y := ⟨_, rfl⟩
    obtain ⟨F, hF⟩ : ∃ F, decide (0 ≤ X) = F := ⟨_, rfl⟩
    rw [hY, hF]
    have YES : Hid (∀ i : Nat, At la lb i → ((la.drop i).take M == lb) = true → Y = i ∧ F = true) := Lib.hid (fun i h hp => by
      have e := (AY.out i h (by rw [HM.out]; exact hp)).symm.trans HX.out
      rw [← hY, ← hF, ← e]
      exact ⟨by rw [if_neg (by omega)], decide_eq_true (by omega)⟩)
    have NON : Hid (∀ i : Nat, At la lb i → L < i + M → i ≤ L → Y = 0 ∧ F = false) := Lib.hid (fun i h h1 h2 => by
      have e := (AE.out i h h1 h2).symm.trans HX.out
      rw [← hY, ← hF, ← e]
      exact ⟨by rw [if_pos (by omega)], decide_eq_false (by omega)⟩)
    have NXT : Hid (∀ i : Nat, At la lb i → i < L → ((la.drop i).take M == lb) = false → At la lb (i + 1)) := Lib.hid (fun i h hi hp => AN.out i h hi (by rw [HM.out]; exact hp))
    have LST : Hid (∀ i : Nat, M = 0 → ((la.drop i).take M == lb) = true) := Lib.hid (fun i h2 => by
      have : lb = [] := List.eq_nil_of_length_eq_zero (HM.out.trans h2)
      rw [this, h2]; rfl)
    clear AY AN AE HX hY hF ba bb hL hM hX HA HB hb HM
    go_enter Tryd.func13, Tryd.ntmps13
    go_wp2
    go_loopw [6] (fun x wr => ∃ i : Nat, i ≤ L ∧ x = .int .i64 i ∧ Below w.heap.size w wr ∧ Hid (At la lb i)) (fun x _ => L + 1 - (intOf x).toNat)
    case atStart => exact ⟨0, Nat.zero_le _, rfl, Below.refl _ _, A0⟩
    case round =>
      obtain ⟨i, hi, rfl, hbw, HI⟩ := hrel
      by_cases hlt : i + M ≤ L
      · have i4 : (i : Int) + M ≤ ca := by omega
        have i5 : (i : Int) ≤ i + M := by omega
        have i6 : i ≤ ca := by omega
        have a0 := CA.out wr i hbw hlt
        have a1 := CA.out wr.drew i (below_drewN hbw 1) hlt
        have b0 := CB.out wr hbw
        have b1 := CB.out wr.drew (below_drewN hbw 1)
        have se := SE.out i
        obtain ⟨S, hS⟩ : ∃ S, strOfNums ((la.drop i).take M) = S := ⟨_, rfl⟩
        obtain ⟨T, hT⟩ : ∃ T, strOfNums lb = T := ⟨_, rfl⟩
        rw [hS] at a0 a1 se
        rw [hT] at b0 b1 se
        by_cases hp : ((la.drop i).take M == lb) = true
        · rw [hp] at se
          obtain ⟨rfl, rfl⟩ := YES.out i HI.out hp
          by_cases hci : ca = i
          · have hM0 : M = 0 := by omega
            subst hM0
            have CV : ∀ (a' : Option Addr) (c' : Nat) (w1 : World), (convert 22 9 (.slice a' 0 c')).run Tryd.prog w1 = .ok (.string S) w1 := fun a' c' w1 => by
              have := (show Rd w1 .u8 (.slice a' 0 c') [] from ⟨a', c', rfl, Nat.zero_le _, .inl rfl⟩).to_string (P := Tryd.prog) (src := 22) (dst := 9) Tryd.underlying22 Tryd.underlying5 Tryd.underlying9
              rw [← hS]; exact this
            clear a0 a1 hp hS hT YES NON NXT LST SE CA CB HI A0
            subst hci
            go_wp2
            go_region
            all_goals
              go_wp2
              go_ret2
              exact ⟨rfl, below_drewN hbw 1⟩
          · clear hp hS hT YES NON NXT LST SE CA CB HI A0
            go_wp2
            go_region
            all_goals
              go_wp2
              go_ret2
              exact ⟨rfl, below_drewN hbw 1⟩
        · have hp := Bool.eq_false_iff.2 hp
          have hil : i < L := by
            have : ¬ M = 0 := fun h => by rw [LST.out i h] at hp; cases hp
            omega
          rw [hp] at se
          have HN := Lib.hid (NXT.out i HI.out hil hp)
          clear hp hS hT YES NON NXT LST SE CA CB HI A0
          go_wp2
          go_region
          all_goals
            go_wp2
            go_roundw
            case rel => exact ⟨i + 1, by omega, by go_num, below_drewN hbw 1, HN⟩
            case measure => simp [intOf]; omega
      · obtain ⟨rfl, rfl⟩ := NON.out i HI.out (by omega) hi
        have hgt : (L : Int) < i + M := by omega
        clear YES NON NXT LST SE CA CB HI A0
        go_wp2
        go_ret2
        exact ⟨rfl, hbw⟩
end Go.Proofs.YtocmgdolinajmaaDoor
