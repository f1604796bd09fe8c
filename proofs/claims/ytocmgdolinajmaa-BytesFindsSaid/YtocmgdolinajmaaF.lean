/- BytesFinds: the plain law and the walk, over what Search answers. -/
import Derived.Test.YtocmgdolinajmaaO
import Derived.Lib.Index
namespace Go.Proofs.Ytocmgdolinajmaa
set_option linter.unusedVariables false
set_option linter.unusedSimpArgs false
open Go.RowKit

/-- Where s first stands in l; -1: nowhere. -/
def idxI : List Int → List Int → Int
  | [], s => if s.isEmpty then 0 else -1
  | x :: l, s => if s.isPrefixOf (x :: l) then 0 else if idxI l s == -1 then -1 else idxI l s + 1
theorem byte_inj {x y : Int} (hx : 0 ≤ x ∧ x < 256) (hy : 0 ≤ y ∧ y < 256) : (UInt8.ofNat x.toNat == UInt8.ofNat y.toNat) = (x == y) := by
  rw [Bool.eq_iff_iff]
  simp only [beq_iff_eq]
  constructor
  · intro h
    have := congrArg UInt8.toNat h
    simp only [UInt8.toNat_ofNat'] at this
    omega
  · intro h; rw [h]
theorem prefix_bytes : ∀ (s l : List Int), Byt s → Byt l → (Lib.bytesOf s).isPrefixOf (Lib.bytesOf l) = s.isPrefixOf l
  | [], l, _, _ => by cases l <;> rfl
  | _ :: _, [], _, _ => rfl
  | y :: s, x :: l, hs, hl => by
    show ((UInt8.ofNat y.toNat == UInt8.ofNat x.toNat) && (Lib.bytesOf s).isPrefixOf (Lib.bytesOf l)) = ((y == x) && s.isPrefixOf l)
    rw [prefix_bytes s l (fun z hz => hs z (by simp [hz])) (fun z hz => hl z (by simp [hz])), byte_inj (hs y (by simp)) (hl x (by simp))]
theorem idx_bytes : ∀ (l s : List Int), Byt l → Byt s → Lib.index (Lib.bytesOf l) (Lib.bytesOf s) = idxI l s
  | [], s, _, _ => by cases s <;> rfl
  | x :: l, s, hl, hs => by
    have ih := idx_bytes l s (fun z hz => hl z (by simp [hz])) hs
    have hp := prefix_bytes s (x :: l) hs hl
    show (if (Lib.bytesOf s).isPrefixOf (Lib.bytesOf (x :: l)) then (0 : Int) else if Lib.index (Lib.bytesOf l) (Lib.bytesOf s) == -1 then -1 else Lib.index (Lib.bytesOf l) (Lib.bytesOf s) + 1) = _
    rw [hp, ih]
    rfl
theorem idxI_ge : ∀ (l s : List Int), idxI l s = -1 ∨ 0 ≤ idxI l s
  | [], s => by unfold idxI; split <;> omega
  | x :: l, s => by
    unfold idxI
    have := idxI_ge l s
    split
    · omega
    · split
      · exact .inl rfl
      · rename_i h
        have : ¬ idxI l s = -1 := by simpa using h
        omega
theorem prefix_take {s l : List Int} : s.isPrefixOf l = (l.take s.length == s) := by
  rw [Bool.eq_iff_iff, List.isPrefixOf_iff_prefix, beq_iff_eq, List.prefix_iff_eq_take]
  exact eq_comm
/-- At the i-th place, when nothing was found ahead. -/
def At (l s : List Int) (i : Nat) : Prop := idxI l s = if idxI (l.drop i) s = -1 then -1 else idxI (l.drop i) s + i
theorem at_0 (l s : List Int) : At l s 0 := by unfold At; rw [List.drop_zero]; split <;> omega
theorem at_yes {l s : List Int} {i : Nat} (h : At l s i) (hp : ((l.drop i).take s.length == s) = true) : idxI l s = i := by
  unfold At at h
  have : idxI (l.drop i) s = 0 := by
    rw [← prefix_take] at hp
    cases hd : l.drop i with
    | nil => rw [hd] at hp; cases s with
      | nil => rfl
      | cons => cases hp
    | cons x t => rw [hd] at hp; unfold idxI; rw [if_pos hp]
  rw [this] at h
  rw [h]; simp
theorem at_no {l s : List Int} {i : Nat} (h : At l s i) (hi : i < l.length) (hp : ((l.drop i).take s.length == s) = false) : At l s (i + 1) := by
  unfold At at h ⊢
  rw [← prefix_take] at hp
  rw [List.drop_eq_getElem_cons hi] at h hp
  have e : idxI (l[i] :: l.drop (i + 1)) s = if idxI (l.drop (i + 1)) s == -1 then -1 else idxI (l.drop (i + 1)) s + 1 := by
    rw [idxI, hp]; rfl
  rw [e] at h
  have g := idxI_ge (l.drop (i + 1)) s
  rw [h]
  by_cases hq : idxI (l.drop (i + 1)) s = -1
  · rw [hq]; rfl
  · rw [if_neg hq]
    have hb : (idxI (l.drop (i + 1)) s == -1) = false := by simpa using hq
    rw [hb]
    simp only [Bool.false_eq_true, if_false]
    rw [if_neg (by omega)]
    omega
theorem at_end {l s : List Int} {i : Nat} (h : At l s i) (hi : l.length < i + s.length) (hil : i ≤ l.length) : idxI l s = -1 := by
  unfold At at h
  have key : ∀ t : List Int, t.length < s.length → idxI t s = -1 := by
    intro t
    induction t with
    | nil => intro ht; unfold idxI; cases s with
      | nil => cases ht
      | cons => rfl
    | cons x t ih =>
      intro ht
      have hp : s.isPrefixOf (x :: t) = false := by
        rw [Bool.eq_false_iff]; intro hp
        have := (List.isPrefixOf_iff_prefix.1 hp).length_le
        omega
      rw [idxI, hp, ih (by simp at ht; omega)]; rfl
  rw [key (l.drop i) (by rw [List.length_drop]; omega)] at h
  rw [h]; rfl
/-- s[i:j]. -/
theorem Rd.mid {w : World} {k : IntKind} {g off n c : Nat} {l : List Int} (h : Rd w k (.slice (some ⟨g, off, none⟩) n c) l) {i m : Nat} (hm : i + m ≤ n) : Rd w k (.slice (some ⟨g, off + i, none⟩) m (c - i)) ((l.drop i).take m) := by
  obtain ⟨a', d, e, h1, h2⟩ := h
  injection e with e1 e2 e3
  subst e1 e2 e3
  have hl : ((l.drop i).take m).length = m := by rw [List.length_take, List.length_drop]; omega
  refine ⟨_, _, by rw [hl], by omega, ?_⟩
  rcases h2 with h | ⟨g', off', ea, hcl⟩
  · exact .inl (by rw [h]; simp)
  · injection ea with ea; injection ea with ea1 ea2
    subst ea1 ea2
    refine .inr ⟨g, off + i, rfl, fun j hj => ?_⟩
    rw [hl] at hj
    rw [Nat.add_assoc, hcl (i + j) (by omega)]
    simp [List.getD_eq_getElem?_getD, List.getElem?_take, hj]
def idxAt (l s : List Int) : Int := if idxI l s < 0 then 0 else idxI l s
set_option maxRecDepth 100000 in
set_option maxHeartbeats 4000000 in
theorem lfinds_s (va vb : Value) (la lb : List Int) (w : World) (ha : Rd w .u8 va la) (hb : Rd w .u8 vb lb) (ba : Byt la) (bb : Byt lb) (hla : la.length ≤ 400) (hlb : lb.length ≤ 400) (h0 : 0 < lb.length) (h1 : 0 < la.length)
    (SE : Hid (Calls Try.prog 18 #[va, vb] w fun e w' => e = .returned (.tuple #[.int .i64 (idxAt la lb), .bool (decide (0 ≤ idxI la lb))]) ∧ Below w.heap.size w w')) :
    Calls Try.prog 7 #[va, vb] w fun e w' => e = .returned (.bool true) ∧ Below w.heap.size w w' := by
  have AW := Lib.hid awake_c
  obtain ⟨aa, ca, rfl⟩ := ha.len
  obtain ⟨ab, cb, rfl⟩ := hb.len
  have hcap := ha.capge
  obtain ⟨g, off, rfl, _⟩ := ha.at8 h1
  have HA := Lib.hid ha
  have HB := Lib.hid hb
  have SM : Hid (∀ w1 (i : Nat), Below w.heap.size w w1 → i + lb.length ≤ la.length → Calls Try.prog 12 #[.slice (some ⟨g, off + i, none⟩) lb.length (ca - i), .slice ab lb.length cb] w1 fun e w' => e = .returned (.bool ((la.drop i).take lb.length == lb)) ∧ w1 = w') := Lib.hid (fun w1 i hw hi =>
    same_c _ _ _ _ w1 ((HA.out.below hw).mid hi) (HB.out.below hw) (fun y hy => ba y (List.mem_of_mem_drop (List.mem_of_mem_take hy))) bb)
  have A0 := Lib.hid (at_0 la lb)
  have AY := Lib.hid (fun i (h : At la lb i) hp => at_yes h hp)
  have AN := Lib.hid (fun i (h : At la lb i) hi hp => at_no h hi hp)
  have AE := Lib.hid (fun i (h : At la lb i) hi hil => at_end h hi hil)
  obtain ⟨L, hL⟩ : ∃ L, la.length = L := ⟨_, rfl⟩
  obtain ⟨M, hM⟩ : ∃ M, lb.length = M := ⟨_, rfl⟩
  have HM := Lib.hid hM
  obtain ⟨X, hX⟩ : ∃ X, idxI la lb = X := ⟨_, rfl⟩
  have HX := Lib.hid hX
  have hX0 := idxI_ge la lb
  unfold idxAt at SE
  rw [hX] at SE hX0
  rw [hL] at hla h1 hcap SM AN AE SE ⊢
  rw [hM] at hlb h0 SM AE SE ⊢
  clear ha hb ba bb hL hM hX
  rcases hX0 with hX0 | hX0
  · rw [if_pos (show X < 0 by omega), decide_eq_false (show ¬ 0 ≤ X by omega)] at SE
    go_enter Try.func7, Try.ntmps7
    go_wp2_with (go_at_call 18; (with_reducible refine (SE.out).mono ?_); rintro e w1 ⟨rfl, hb1⟩)
    go_loopw [7] (fun v7 wr => ∃ i : Nat, i ≤ L ∧ v7 = .int .i64 i ∧ Below w.heap.size w wr ∧ Hid (At la lb i)) (fun v7 _ => L + 1 - (intOf v7).toNat)
    case atStart => exact ⟨0, Nat.zero_le _, rfl, hb1, A0⟩
    case round =>
      obtain ⟨i, hi, rfl, hbw, HI⟩ := hrel
      by_cases hlt : i + M ≤ L
      · have hil : i < L := by omega
        have SMi := Lib.hid (SM.out wr i hbw hlt)
        have i4 : (i : Int) + M ≤ ca := by omega
        have i5 : (i : Int) ≤ i + M := by omega
        have i6 : i < ca := by omega
        by_cases hp : ((la.drop i).take M == lb) = true
        · have e := (AY.out i HI.out (by rw [HM.out]; exact hp)).symm.trans HX.out
          omega
        · have hp := Bool.eq_false_iff.2 hp
          have HN := Lib.hid (AN.out i HI.out hil (by rw [HM.out]; exact hp))
          rw [hp] at SMi
          clear hp SM HI
          go_wp2_with (go_at_call 12; (with_reducible refine (SMi.out).mono ?_); rintro e w' ⟨rfl, rfl⟩)
          go_roundw
          case rel => exact ⟨i + 1, by omega, by go_num, hbw, HN⟩
          case measure => simp [intOf]; omega
      · have e := (AE.out i HI.out (by omega) hi).symm.trans HX.out
        clear SM HI AE AN AY
        have hgt : (L : Int) < i + M := by omega
        go_wp2_with (go_at_call 8; (with_reducible refine (AW.out _).mono ?_); rintro e w5 ⟨rfl, hb5⟩; have hc5 := below_then hbw hbw.size hb5; clear hb5)
        go_ret
        exact ⟨rfl, hc5⟩
  · rw [if_neg (show ¬ X < 0 by omega), decide_eq_true (show 0 ≤ X by omega)] at SE
    go_enter Try.func7, Try.ntmps7
    go_wp2_with (go_at_call 18; (with_reducible refine (SE.out).mono ?_); rintro e w1 ⟨rfl, hb1⟩)
    go_loopw [7] (fun v7 wr => ∃ i : Nat, i ≤ L ∧ v7 = .int .i64 i ∧ Below w.heap.size w wr ∧ Hid (At la lb i)) (fun v7 _ => L + 1 - (intOf v7).toNat)
    case atStart => exact ⟨0, Nat.zero_le _, rfl, hb1, A0⟩
    case round =>
      obtain ⟨i, hi, rfl, hbw, HI⟩ := hrel
      by_cases hlt : i + M ≤ L
      · have hil : i < L := by omega
        have SMi := Lib.hid (SM.out wr i hbw hlt)
        have i4 : (i : Int) + M ≤ ca := by omega
        have i5 : (i : Int) ≤ i + M := by omega
        have i6 : i < ca := by omega
        by_cases hp : ((la.drop i).take M == lb) = true
        · have e := (AY.out i HI.out (by rw [HM.out]; exact hp)).symm.trans HX.out
          rw [hp] at SMi
          have HE := Lib.hid e
          clear hp SM HI
          subst e
          go_wp2_with (first
            | (go_at_call 12; (with_reducible refine (SMi.out).mono ?_); rintro e w' ⟨rfl, rfl⟩)
            | (go_at_call 8; (with_reducible refine (AW.out _).mono ?_); rintro e w5 ⟨rfl, hb5⟩; have hc5 := below_then hbw hbw.size hb5; clear hb5))
          go_ret
          exact ⟨rfl, hc5⟩
        · have hp := Bool.eq_false_iff.2 hp
          have HN := Lib.hid (AN.out i HI.out hil (by rw [HM.out]; exact hp))
          rw [hp] at SMi
          clear hp SM HI
          go_wp2_with (go_at_call 12; (with_reducible refine (SMi.out).mono ?_); rintro e w' ⟨rfl, rfl⟩)
          go_roundw
          case rel => exact ⟨i + 1, by omega, by go_num, hbw, HN⟩
          case measure => simp [intOf]; omega
      · have e := (AE.out i HI.out (by omega) hi).symm.trans HX.out
        omega
end Go.Proofs.Ytocmgdolinajmaa
