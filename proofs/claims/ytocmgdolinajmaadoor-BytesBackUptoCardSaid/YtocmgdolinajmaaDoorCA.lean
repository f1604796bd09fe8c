/- Trailing and Compare on both sides. -/
import Derived.Test.YtocmgdolinajmaaDoorIA
import Derived.BigQuiet
namespace Go.Proofs.YtocmgdolinajmaaDoor
set_option linter.unusedVariables false
set_option linter.unusedSimpArgs false
open Go.RowKit

/-- How many bytes are left of the first n, without the blanks at their end. -/
def trl (l : List Int) : Nat → Nat
  | 0 => 0
  | n + 1 => if l.getD n 0 = 32 then trl l n else n + 1
theorem trl_yes {l : List Int} {m : Nat} (h : l.getD m 0 = 32) : trl l (m + 1) = trl l m := by rw [trl, if_pos h]
theorem trl_no {l : List Int} {m : Nat} (h : ¬ l.getD m 0 = 32) : trl l (m + 1) = m + 1 := by rw [trl, if_neg h]
def slLen : Value → Nat
  | .slice _ n _ => n
  | _ => 0
set_option maxHeartbeats 2000000 in
theorem rtrail_c (u : Value) (a : List Int) (w : World) (ha : Rd w .u8 u a) (hla : a.length ≤ 1000000) :
    Calls Tryd.prog 19 #[u] w fun e w' => e = .returned (.int .i64 (trl a a.length)) ∧ Below w.heap.size w w' := by
  have HA := Lib.hid ha
  obtain ⟨a0, c0, rfl, _⟩ := ha
  obtain ⟨L, hL⟩ : ∃ L, a.length = L := ⟨_, rfl⟩
  have HL := Lib.hid hL
  rw [hL] at HA hla ⊢
  have GA := Lib.hid (fun w' (hb : Below w.heap.size w w') (i : Nat) (hi : i < L) => (HA.out.below hb).at_ (i := i) (by have := HL.out; omega))
  clear hL HL HA
  go_enter Tryd.func19, Tryd.ntmps19
  go_wp2
  go_loopw [3] (fun x wr => ∃ n : Nat, n ≤ L ∧ x = .int .i64 n ∧ Below w.heap.size w wr ∧ Hid (trl a n = trl a L)) (fun x _ => (intOf x).toNat)
  case atStart => exact ⟨L, Nat.le_refl _, rfl, Below.refl _ _, Lib.hid rfl⟩
  case round =>
    obtain ⟨n, hn, rfl, hbw, HT⟩ := hrel
    by_cases h0 : n = 0
    · subst h0
      have H0 := Lib.hid (show ((0 : Nat) : Int) = (trl a L : Nat) by rw [← HT.out]; rfl)
      clear GA HT
      go_wp2
      go_ret
      exact ⟨ret1 (by rw [← H0.out]), hbw⟩
    · obtain ⟨m, hm⟩ : ∃ m, n = m + 1 := ⟨n - 1, by omega⟩
      obtain ⟨g0, o0, rfl, q0⟩ := GA.out _ hbw m (by omega)
      have hmL : m < L := by omega
      have n1 : IntKind.i64.wrap ((n : Int) - 1) = m := by simp only [IntKind.wrap_i64]; omega
      have n2 : 0 < n := by omega
      obtain ⟨x, hx⟩ : ∃ x, a.getD m 0 = x := ⟨_, rfl⟩
      rw [hx] at q0
      by_cases h32 : x = 32
      · have HU := Lib.hid (show trl a m = trl a L by rw [← HT.out, hm, trl_yes (hx.trans h32)])
        subst h32
        have HM := Lib.hid hm
        clear hx GA HT hm
        go_wp2
        go_roundw
        case rel => exact ⟨m, by omega, by go_num, hbw, HU⟩
        case measure => have := HM.out; simp [intOf]; omega
      · have HU := Lib.hid (show (n : Int) = (trl a L : Nat) by rw [← HT.out, hm, trl_no (by rw [hx]; exact h32)])
        clear hx GA HT hm
        go_wp2
        go_ret
        exact ⟨ret1 HU.out, hbw⟩
set_option maxHeartbeats 2000000 in
theorem ptrim_c (u : Value) (a : List Int) (w : World) (ha : Rd w .u8 u a) (hla : a.length ≤ 1000000) :
    Calls Tryd.prog 39 #[u, .int .u8 32] w fun e w' => (∃ a0 c0, e = .returned (.slice a0 (trl a a.length) c0)) ∧ w = w' := by
  have HA := Lib.hid ha
  obtain ⟨a0, c0, rfl, hc, _⟩ := ha
  obtain ⟨L, hL⟩ : ∃ L, a.length = L := ⟨_, rfl⟩
  have HL := Lib.hid hL
  rw [hL] at HA hla hc ⊢
  have GA := Lib.hid (fun (i : Nat) (hi : i < L) => HA.out.at_ (i := i) (by have := HL.out; omega))
  clear hL HL HA
  go_enter Tryd.func39, Tryd.ntmps39
  go_wp2
  go_loopw [0] (fun x wr => ∃ n : Nat, n ≤ L ∧ x = .slice a0 n c0 ∧ w = wr ∧ Hid (trl a n = trl a L)) (fun x _ => slLen x)
  case atStart => exact ⟨L, Nat.le_refl _, rfl, rfl, Lib.hid rfl⟩
  case round =>
    obtain ⟨n, hn, rfl, rfl, HT⟩ := hrel
    by_cases h0 : n = 0
    · subst h0
      have H0 := Lib.hid (show (0 : Nat) = trl a L by rw [← HT.out]; rfl)
      clear GA HT
      go_wp2
      go_ret
      exact ⟨⟨_, _, by rw [← H0.out]; rfl⟩, rfl⟩
    · obtain ⟨m, hm⟩ : ∃ m, n = m + 1 := ⟨n - 1, by omega⟩
      obtain ⟨g0, o0, rfl, q0⟩ := GA.out m (by omega)
      have hmL : m < L := by omega
      have hmn : m < n := by omega
      have n3 : m ≤ c0 := by omega
      have n1 : IntKind.i64.wrap ((n : Int) - 1) = m := by simp only [IntKind.wrap_i64]; omega
      have n2 : 0 < n := by omega
      obtain ⟨x, hx⟩ : ∃ x, a.getD m 0 = x := ⟨_, rfl⟩
      rw [hx] at q0
      by_cases h32 : x = 32
      · have HU := Lib.hid (show trl a m = trl a L by rw [← HT.out, hm, trl_yes (hx.trans h32)])
        subst h32
        have HM := Lib.hid hm
        clear hx GA HT hm
        go_wp2
        go_roundw
        case rel => exact ⟨m, by omega, by first | rfl | go_num | (simp; done), by first | rfl | trivial, HU⟩
        case measure => have := HM.out; simp [slLen]; omega
      · have HU := Lib.hid (show n = trl a L by rw [← HT.out, hm, trl_no (by rw [hx]; exact h32)])
        clear hx GA HT hm
        go_wp2
        go_ret
        exact ⟨⟨_, _, by rw [← HU.out]; rfl⟩, rfl⟩
set_option maxRecDepth 100000 in
set_option maxHeartbeats 2000000 in
theorem ptr_c (u : Value) (a : List Int) (w : World) (ha : Rd w .u8 u a) (hla : a.length ≤ 1000000) :
    Calls Tryd.prog 28 #[u, .string ⟨#[32]⟩] w fun e w' => (∃ a0 c0, e = .returned (.slice a0 (trl a a.length) c0)) ∧ w = w' := by
  have T := Lib.hid (ptrim_c u a w ha hla)
  obtain ⟨a0, c0, rfl, hc, _⟩ := ha
  by_cases h0 : a.length = 0
  · rw [h0]
    clear T
    go_enter Tryd.func28, Tryd.ntmps28
    go_wp2
    go_ret
    exact ⟨⟨_, _, rfl⟩, rfl⟩
  · obtain ⟨L, hL⟩ : ∃ L, a.length = L := ⟨_, rfl⟩
    rw [hL] at T h0 hla hc ⊢
    have h1 : ¬ (L : Int) = 0 := by omega
    clear hL
    go_enter Tryd.func28, Tryd.ntmps28
    go_wp2_with (go_at_call 39; (refine (T.out).mono ?_); rintro e w' ⟨⟨a1, c1, rfl⟩, rfl⟩)
    go_ret
    exact ⟨⟨_, _, rfl⟩, rfl⟩
theorem ptrail_c (u : Value) (a : List Int) (w : World) (ha : Rd w .u8 u a) (hla : a.length ≤ 1000000) :
    Calls Tryd.prog 18 #[u] w fun e w' => e = .returned (.int .i64 (trl a a.length)) ∧ w = w' := by
  have T := Lib.hid (ptr_c u a w ha hla)
  obtain ⟨a0, c0, rfl, hc, _⟩ := ha
  obtain ⟨N, hN⟩ : ∃ N, trl a a.length = N := ⟨_, rfl⟩
  rw [hN] at T ⊢
  obtain ⟨L, hL⟩ : ∃ L, a.length = L := ⟨_, rfl⟩
  rw [hL] at T ⊢
  clear hL hN hc hla
  go_enter Tryd.func18, Tryd.ntmps18
  go_wp2_with (go_at_call 28; (with_reducible refine (T.out).mono ?_); rintro e w' ⟨⟨a1, c1, rfl⟩, rfl⟩)
  go_ret
  exact ⟨rfl, rfl⟩
theorem cmp_step {a b : List Int} {i : Nat} (h : cmpB a b = cmpB (a.drop i) (b.drop i)) (hi : i < a.length) (hj : i < b.length) : cmpB a b = if a.getD i 0 < b.getD i 0 then -1 else if b.getD i 0 < a.getD i 0 then 1 else cmpB (a.drop (i + 1)) (b.drop (i + 1)) := by
  rw [List.drop_eq_getElem_cons hi, List.drop_eq_getElem_cons hj, cmpB] at h
  rw [h]
  simp only [List.getD_eq_getElem?_getD, List.getElem?_eq_getElem hi, List.getElem?_eq_getElem hj, Option.getD_some]
theorem cmp_end {a b : List Int} {i : Nat} (h : cmpB a b = cmpB (a.drop i) (b.drop i)) (hi : i ≤ a.length) (hj : i ≤ b.length) (he : ¬ (i < a.length ∧ i < b.length)) : cmpB a b = if a.length < b.length then -1 else if b.length < a.length then 1 else 0 := by
  rw [h]
  by_cases h1 : i < a.length
  · have h2 : b.drop i = [] := List.drop_eq_nil_of_le (by omega)
    rw [List.drop_eq_getElem_cons h1, h2, cmpB, if_neg (by omega), if_pos (by omega)]
  · have h2 : a.drop i = [] := List.drop_eq_nil_of_le (by omega)
    by_cases h3 : i < b.length
    · rw [List.drop_eq_getElem_cons h3, h2, cmpB, if_pos (by omega)]
    · rw [h2, show b.drop i = [] from List.drop_eq_nil_of_le (by omega), cmpB, if_neg (by omega), if_neg (by omega)]
set_option maxHeartbeats 4000000 in
theorem rcmp_c (u v : Value) (a b : List Int) (w : World) (ha : Rd w .u8 u a) (hb : Rd w .u8 v b) (hla : a.length ≤ 1000000) (hlb : b.length ≤ 1000000) :
    Calls Tryd.prog 15 #[u, v] w fun e w' => e = .returned (.int .i64 (cmpB a b)) ∧ Below w.heap.size w w' := by
  have HA := Lib.hid ha
  have HB := Lib.hid hb
  obtain ⟨a0, c0, rfl, _⟩ := ha
  obtain ⟨a1, c1, rfl, _⟩ := hb
  have ST := Lib.hid (fun i (h : cmpB a b = cmpB (a.drop i) (b.drop i)) hi hj => cmp_step h hi hj)
  have EN := Lib.hid (fun i (h : cmpB a b = cmpB (a.drop i) (b.drop i)) hi hj he => cmp_end h hi hj he)
  have C0 := Lib.hid (show cmpB a b = cmpB (a.drop 0) (b.drop 0) from rfl)
  obtain ⟨L, hL⟩ : ∃ L, a.length = L := ⟨_, rfl⟩
  obtain ⟨M, hM⟩ : ∃ M, b.length = M := ⟨_, rfl⟩
  have HL := Lib.hid hL
  have HM := Lib.hid hM
  rw [hL] at HA hla ST EN ⊢
  rw [hM] at HB hlb ST EN ⊢
  have GA := Lib.hid (fun w' (hb : Below w.heap.size w w') (i : Nat) (hi : i < L) => (HA.out.below hb).at_ (i := i) (by have := HL.out; omega))
  have GB := Lib.hid (fun w' (hb : Below w.heap.size w w') (i : Nat) (hi : i < M) => (HB.out.below hb).at_ (i := i) (by have := HM.out; omega))
  obtain ⟨R, hR⟩ : ∃ R, cmpB a b = R := ⟨_, rfl⟩
  rw [hR] at ST EN C0 ⊢
  clear hL hM HL HM HA HB hR
  go_enter Tryd.func15, Tryd.ntmps15
  go_wp2
  go_loopw [5] (fun x wr => ∃ i : Nat, i ≤ L ∧ i ≤ M ∧ x = .int .i64 i ∧ Below w.heap.size w wr ∧ Hid (R = cmpB (a.drop i) (b.drop i))) (fun x _ => L - (intOf x).toNat)
  case atStart => exact ⟨0, Nat.zero_le _, Nat.zero_le _, rfl, Below.refl _ _, C0⟩
  case round =>
    obtain ⟨i, hiL, hiM, rfl, hbw, HC⟩ := hrel
    clear C0
    by_cases h1 : i < L
    · by_cases h2 : i < M
      · obtain ⟨g0, o0, rfl, q0⟩ := GA.out _ hbw i h1
        obtain ⟨g1, o1, rfl, q1⟩ := GB.out _ hbw i h2
        have hs := ST.out i HC.out h1 h2
        obtain ⟨x, hx⟩ : ∃ x, a.getD i 0 = x := ⟨_, rfl⟩
        obtain ⟨y, hy⟩ : ∃ y, b.getD i 0 = y := ⟨_, rfl⟩
        rw [hx] at q0 hs
        rw [hy] at q1 hs
        clear hx hy GA GB ST EN HC
        by_cases hxy : x = y
        · subst hxy
          rw [if_neg (by omega), if_neg (by omega)] at hs
          have HS := Lib.hid hs
          clear hs
          go_wp2
          go_big_region
          all_goals
            go_wp2
            go_roundw
            case rel => exact ⟨i + 1, by omega, by omega, by go_num, below_drewN hbw 1, HS⟩
            case measure => simp [intOf]; omega
        · by_cases hlt : x < y
          · rw [if_pos hlt] at hs
            subst hs
            go_wp2
            go_big_region
            all_goals
              go_wp2
              go_big_region
              all_goals
                go_wp2
                go_ret
                exact ⟨rfl, below_drewN hbw 2⟩
          · rw [if_neg hlt, if_pos (by omega)] at hs
            subst hs
            go_wp2
            go_big_region
            all_goals
              go_wp2
              go_big_region
              all_goals
                go_wp2
                go_ret
                exact ⟨rfl, below_drewN hbw 2⟩
      · have hs := EN.out i HC.out hiL hiM (fun h => h2 h.2)
        have e : M < L := by omega
        have e2 : ¬ L < M := by omega
        rw [if_neg e2, if_pos e] at hs
        subst hs
        clear GA GB ST EN HC
        go_wp2
        go_ret
        exact ⟨rfl, hbw⟩
    · have hs := EN.out i HC.out hiL hiM (fun h => h1 h.1)
      by_cases e : L < M
      · rw [if_pos e] at hs
        subst hs
        clear GA GB ST EN HC
        go_wp2
        go_ret
        exact ⟨rfl, hbw⟩
      · have e2 : ¬ M < L := by omega
        rw [if_neg e, if_neg e2] at hs
        subst hs
        clear GA GB ST EN HC
        go_wp2
        go_ret
        exact ⟨rfl, hbw⟩
end Go.Proofs.YtocmgdolinajmaaDoor
