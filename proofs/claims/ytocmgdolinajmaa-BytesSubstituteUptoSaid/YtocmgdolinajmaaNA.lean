/- Substitute, the reference's. -/
import Derived.Test.YtocmgdolinajmaaN
namespace Go.Proofs.Ytocmgdolinajmaa
set_option linter.unusedVariables false
set_option linter.unusedSimpArgs false
open Go.RowKit

set_option maxHeartbeats 2000000 in
theorem rnext_c (u : Value) (S : List Int) (i e : Nat) (w : World) (hu : Rd w .u8 u S) (hS : S.length ≤ 400) (hie : i ≤ e) (heL : e ≤ S.length) (hno : ∀ j, i ≤ j → j < e → S.getD j 0 ≠ 37) (hend : e = S.length ∨ (e < S.length ∧ S.getD e 0 = 37)) :
    Calls Try.prog 25 #[u, .int .i64 i] w fun r w' => r = .returned (.int .i64 e) ∧ w = w' := by
  have HU := Lib.hid hu
  obtain ⟨a, c, rfl, _⟩ := hu
  obtain ⟨L, hL⟩ : ∃ L, S.length = L := ⟨_, rfl⟩
  have GA := Lib.hid (fun (j : Nat) (hj : j < L) => HU.out.at_ (i := j) (by omega))
  have HN := Lib.hid hno
  rw [hL] at hS heL hend ⊢
  clear hL HU hno
  go_enter Try.func25, Try.ntmps25
  go_wp2
  go_loop [1] (fun x => ∃ k : Nat, i ≤ k ∧ k ≤ e ∧ x = .int .i64 k) (fun x => e - (intOf x).toNat)
  case atStart => exact ⟨i, Nat.le_refl _, hie, rfl⟩
  case round =>
    obtain ⟨k, hik, hke, rfl⟩ := hrel
    by_cases hlt : k < e
    · obtain ⟨g, off, rfl, q0⟩ := GA.out k (by omega)
      have n0 := HN.out k hik hlt
      obtain ⟨x, hx⟩ : ∃ x, S.getD k 0 = x := ⟨_, rfl⟩
      rw [hx] at q0 n0
      have hkL : (k : Int) < L := by omega
      clear GA HN hend hx
      go_wp2_with fail
      go_round
      case rel => exact ⟨k + 1, by omega, by omega, by go_num⟩
      case measure => simp [intOf]; omega
    · obtain rfl : k = e := by omega
      rcases hend with rfl | ⟨h1, h2⟩
      · clear GA HN
        go_wp2_with fail
        go_ret
        exact ⟨rfl, rfl⟩
      · obtain ⟨g, off, rfl, q0⟩ := GA.out k h1
        rw [h2] at q0
        have hkL : (k : Int) < L := by omega
        clear GA HN
        go_wp2_with fail
        go_ret
        exact ⟨rfl, rfl⟩
/-- How things stand in the reference's loop. -/
structure PQ (ls : List (List Int × List Int)) (most : Int) (S : List Int) (w wr : World) (i : Nat) (o : List Int) (v6 : Value) (n : Nat) : Prop where
  own : wr.ownsRow w.heap.size 5 1 v6 o.length (o.map (Value.int .u8))
  out : o ++ (sub ls (S.drop i)).1 = (sub ls S).1
  num : n + (sub ls (S.drop i)).2 = (sub ls S).2
  lim : (o.length : Int) ≤ most
section
variable {ls : List (List Int × List Int)} {most : Int} {S o pl : List Int} {w wr w2 : World} {v6 v2 : Value} {i n k d : Nat}
theorem PQ.step (h : PQ ls most S w wr i o v6 n) (hp : Pc ls (S.drop i) pl k d) (hl : ¬ most < (o.length : Int) + pl.length) (ho : w2.ownsRow w.heap.size 5 1 v2 (o.length + pl.length) (o.map (Value.int .u8) ++ pl.map (Value.int .u8))) : PQ ls most S w w2 (i + k) (o ++ pl) v2 (n + d) := by
  have h1 := h.out
  have h2 := h.num
  rw [hp.1, List.drop_drop] at h1 h2
  refine ⟨by rw [List.length_append, List.map_append]; exact ho, by rw [List.append_assoc]; exact h1, by simp only at h2; omega, by rw [List.length_append]; omega⟩
theorem PQ.throw (h : PQ ls most S w wr i o v6 n) (hp : Pc ls (S.drop i) pl k d) (hl : most < (o.length : Int) + pl.length) : subV ls most S = ([], -78) := by
  unfold subV
  rw [if_pos]
  right
  rw [← h.out, hp.1, List.length_append, List.length_append]
  omega
theorem PQ.fin (h : PQ ls most S w wr i o v6 n) (hi : S.length ≤ i) : subV ls most S = (o, (n : Int)) := by
  have h1 := h.out
  have h2 := h.num
  rw [List.drop_eq_nil_of_le hi, sub_nil] at h1 h2
  rw [List.append_nil] at h1
  unfold subV
  rw [if_neg]
  · rw [← h1, ← h2]; rfl
  · rw [← h1]; have := h.lim; omega
theorem pc_char {x : Int} {t : List Int} (h : x ≠ 37) : Pc ls (x :: t) [x] 1 0 := ⟨by rw [sub_char ls h]; rfl, by decide, by simp⟩
theorem pc_end {t : List Int} (h : idxB t 37 = -1) : Pc ls (37 :: t) [37] 1 0 := ⟨by rw [sub_end ls h]; rfl, by decide, by simp⟩
end
theorem drop_cons {S : List Int} {i : Nat} (h : i < S.length) : S.drop i = S.getD i 0 :: S.drop (i + 1) := by
  rw [List.drop_eq_getElem_cons h]
  simp [List.getD_eq_getElem?_getD, List.getElem?_eq_getElem h]
set_option maxRecDepth 100000 in
set_option maxHeartbeats 16000000 in
theorem rsub_c (u v : Value) (S : List Int) (ls : List (List Int × List Int)) (most : Int) (w : World) (hu : Rd w .u8 u S) (hv : Pm w v ls) (bS : Byt S) (hg : Good ls) (hS : S.length ≤ 400) (hls : ls.length ≤ 1000000) (hmw : -9223372036854775808 ≤ most ∧ most ≤ 9223372036854775807) :
    Calls Try.prog 17 #[u, .int .i64 most, v] w fun e w' => Below w.heap.size w w' ∧ ∃ r, e = .returned (.tuple #[r, .int .i64 (subV ls most S).2]) ∧ Rd w' .u8 r (subV ls most S).1 := by
  by_cases hneg : most < 0
  · have SV : Hid (subV ls most S = ([], -78)) := Lib.hid (by unfold subV; rw [if_pos (.inl hneg)])
    obtain ⟨a0, c0, rfl⟩ := hu.len
    clear hu hv bS hg
    go_enter Try.func17, Try.ntmps17
    go_wp2
    go_ret2
    exact ⟨Below.refl _ _, .slice none 0 0, by rw [SV.out] <;> rfl, by rw [SV.out]; exact Rd.nil _ _ _⟩
  · have S0 : Hid (PQ ls most S w w 0 [] (.slice none 0 0) 0) := Lib.hid ⟨World.ownsRow_nil _ _ _ _, by simp, by simp, by simp; omega⟩
    have HV := Lib.hid hv
    have HU := Lib.hid hu
    have HG := Lib.hid hg
    have HS := Lib.hid hS
    have HBS := Lib.hid bS
    have CNT : Hid ((sub ls S).2 ≤ 400) := Lib.hid (by have := sub_num ls _ S (Nat.le_refl _); omega)
    have TOT : Hid ((sub ls S).1.length ≤ 160000) := Lib.hid (by have := sub_len ls (fun p hp => (hg p hp).2.2.2) _ S (Nat.le_refl _); omega)
    obtain ⟨a0, c0, rfl, hc0, _⟩ := hu
    obtain ⟨ap, cp, rfl, _⟩ := hv
    have SM : Hid (∀ w' (nv nn : Value) (nm : List Int) (i : Nat), i < ls.length → Rd w' .u8 nv (ls.getD i ([], [])).1 → Rd w' .u8 nn nm → Byt nm → nm.length ≤ 400 → Calls Try.prog 26 #[nv, nn] w' fun e w2 => e = .returned (.bool (sameV (ls.getD i ([], [])).1 nm)) ∧ Below w'.heap.size w' w2) :=
      Lib.hid fun w' nv nn nm i hi hr hn bn hl => rsame_c nv nn _ nm w' hr hn (hg.at_ hi).1 bn (by have := (hg.at_ hi).2.2.1; omega) (by omega)
    obtain ⟨M, hM⟩ : ∃ M, ls.length = M := ⟨_, rfl⟩
    have HMl := Lib.hid hM
    rw [hM] at HV hls ⊢
    have PA := Lib.hid (fun w' (hb : Below w.heap.size w w') (i : Nat) (hi : i < M) => (HV.out.below hb).at_ (i := i) (by have := HMl.out; omega))
    obtain ⟨L, hL⟩ : ∃ L, S.length = L := ⟨_, rfl⟩
    have HL := Lib.hid hL
    rw [hL] at HU hc0 hS ⊢
    clear hL hM bS hg
    go_enter Try.func17, Try.ntmps17
    go_wp2
    go_loopw [8, 9, 10] (fun x8 x9 x10 wr => ∃ (i : Nat) (o : List Int) (a6 : Option Addr) (L6 c6 n : Nat), i ≤ L ∧ x8 = .slice a6 L6 c6 ∧ x9 = .int .i64 n ∧ x10 = .int .i64 i ∧ Below w.heap.size w wr ∧ Hid (PQ ls most S w wr i o (.slice a6 L6 c6) n) ∧ Hid (o.length = L6)) (fun _ _ x10 _ => L - (intOf x10).toNat)
    case atStart => exact ⟨0, [], none, 0, 0, 0, Nat.zero_le _, rfl, rfl, rfl, Below.refl _ _, S0, Lib.hid rfl⟩
    case round =>
      obtain ⟨i, o, a6, L6, c6, n, hi, rfl, rfl, rfl, hbw, HP, HO⟩ := hrel
      by_cases hiL : i < L
      · obtain ⟨g, off, rfl, q0⟩ := (HU.out.below hbw).at_ (i := i) (by have := HL.out; omega)
        have DC : Hid (S.drop i = S.getD i 0 :: S.drop (i + 1)) := Lib.hid (drop_cons (by have := HL.out; omega))
        have gm0 : 0 ≤ most := by omega
        have H6 : Hid (L6 ≤ 160000) := Lib.hid (by have h := congrArg List.length HP.out.out; rw [List.length_append] at h; have := TOT.out; have := HO.out; omega)
        have g6 : L6 ≤ 160000 := H6.out
        have gn : n ≤ 400 := by have := HP.out.num; have := CNT.out; omega
        have OWN : Hid (wr.ownsRow w.heap.size 5 1 (.slice a6 L6 c6) L6 (o.map (Value.int .u8))) := Lib.hid (by have := HP.out.own; rw [HO.out] at this; exact this)
        have hiL2 : (i : Int) < L := by omega
        have hic : i < c0 := by omega
        obtain ⟨x, hx⟩ : ∃ x, S.getD i 0 = x := ⟨_, rfl⟩
        rw [hx] at q0 DC
        obtain ⟨m, hm⟩ : ∃ m, i + 1 = m := ⟨_, rfl⟩
        have i2 : IntKind.i64.wrap ((i : Int) + 1) = (m : Int) := by rw [IntWalk.i64_in _ (by omega)]; omega
        have HM1 : Hid (i + 1 = m) := Lib.hid hm
        rw [hm] at DC
        obtain ⟨t, ht⟩ : ∃ t, S.drop m = t := ⟨_, rfl⟩
        have HT : Hid (S.drop m = t) := Lib.hid ht
        rw [ht] at DC
        have TL : Hid (t.length + m = L) := Lib.hid (by rw [← ht, List.length_drop]; have := HL.out; omega)
        clear hx H6 TOT ht
        by_cases hx37 : x = 37
        · subst hx37
          have NXT := Lib.hid (fun e h1 h2 h3 h4 => rnext_c _ S m e wr (by have := HU.out.below hbw; rw [← HL.out] at this; exact this) (by rw [HL.out]; exact hS) h1 h2 h3 h4)
          have GD : Hid (∀ j, j < t.length → S.getD (m + j) 0 = t.getD j 0) := Lib.hid fun j hj => by rw [← HT.out]; simp [List.getD_eq_getElem?_getD]
          have q1 : m ≤ L := by omega
          have q2 : (m : Int) ≤ L := by omega
          have q3 : m ≤ c0 := by omega
          have q4 : (m : Int) ≤ c0 := by omega
          rcases idx_cases 37 t with ⟨hy, hny⟩ | ⟨j, hy, hj, hdy, hny⟩
          · have PP : Hid (Pc ls (S.drop i) [37] 1 0) := Lib.hid (by rw [DC.out]; exact pc_end hy)
            have PLEN : Hid (([37] : List Int).length = 1) := Lib.hid rfl
            have NE : Hid (Calls Try.prog 25 #[.slice (some ⟨g, off, none⟩) L c0, .int .i64 m] wr fun r w' => r = .returned (.int .i64 L) ∧ wr = w') := by
              have := NXT.out L (by omega) (by rw [HL.out]; exact Nat.le_refl _) (fun j h1 h2 => by
                obtain ⟨k, rfl⟩ : ∃ k, j = m + k := ⟨j - m, by omega⟩
                have hk : k < t.length := by have := TL.out; omega
                rw [GD.out k hk]
                have := hny (t.getD k 0) (by rw [List.getD_eq_getElem?_getD, List.getElem?_eq_getElem hk]; simp)
                exact this) (.inl HL.out.symm)
              rw [HL.out] at this
              exact Lib.hid this
            clear hny hy NXT GD
            have q5 : (L : Int) ≤ c0 := by omega
            by_cases hcm : c0 = m
            · have hmL : L = m := by omega
              have hmc : m = c0 := hcm.symm
              subst hmc
              subst hmL
              by_cases hth : most < (L6 : Int) + (1 : Nat)
              · have SV : Hid (subV ls most S = ([], -78)) := Lib.hid (HP.out.throw PP.out (by rw [PLEN.out, HO.out]; exact hth))
                go_wp2_with (first | (go_at_call 25; (with_reducible refine (NE.out).mono ?_); rintro e w' ⟨rfl, rfl⟩) | (at_builtin; go_loud (refine wp_app 22 5 (.int .u8 0) 1 Try.underlying22 info_byte rfl w.heap.size (.slice a6 L6 c6) L6 (o.map (Value.int .u8)) (.int .u8 37) _ _ rfl (by rfl) (.tmp 86) (.tmp 87) (by rfl) (by rfl) (by rfl) OWN.out (by exact (hbw).size) rfl (by omega) (by decide) ?_); intro v2 w2 hown2 hb2; have hbx := (hbw).trans hb2; have OW2 := Lib.hid hown2; obtain ⟨a2, d2, rfl⟩ := ownsRow_slice hown2; clear hown2 hb2))
                go_ret2
                exact ⟨hbx, .slice none 0 0, by rw [SV.out] <;> rfl, by rw [SV.out]; exact Rd.nil _ _ _⟩
              · have NX : Hid (∀ w2 v2, w2.ownsRow w.heap.size 5 1 v2 (L6 + 1) (o.map (Value.int .u8) ++ ([37] : List Int).map (Value.int .u8)) → PQ ls most S w w2 (i + 1) (o ++ [37]) v2 (n + 0)) := Lib.hid fun w2 v2 ho => HP.out.step PP.out (by rw [PLEN.out, HO.out]; exact hth) (by rw [PLEN.out, HO.out]; exact ho)
                go_wp2_with (first | (go_at_call 25; (with_reducible refine (NE.out).mono ?_); rintro e w' ⟨rfl, rfl⟩) | (at_builtin; go_loud (refine wp_app 22 5 (.int .u8 0) 1 Try.underlying22 info_byte rfl w.heap.size (.slice a6 L6 c6) L6 (o.map (Value.int .u8)) (.int .u8 37) _ _ rfl (by rfl) (.tmp 86) (.tmp 87) (by rfl) (by rfl) (by rfl) OWN.out (by exact (hbw).size) rfl (by omega) (by decide) ?_); intro v2 w2 hown2 hb2; have hbx := (hbw).trans hb2; have OW2 := Lib.hid hown2; obtain ⟨a2, d2, rfl⟩ := ownsRow_slice hown2; clear hown2 hb2))
                go_roundw
                case rel => exact ⟨i + 1, o ++ [37], _, L6 + 1, _, n + 0, by omega, rfl, by first | rfl | go_num, by go_num, hbx, Lib.hid (NX.out _ _ OW2.out), Lib.hid (by rw [List.length_append, PLEN.out, HO.out])⟩
                case measure => simp [intOf]; omega
            · skip
              by_cases hth : most < (L6 : Int) + (1 : Nat)
              · have SV : Hid (subV ls most S = ([], -78)) := Lib.hid (HP.out.throw PP.out (by rw [PLEN.out, HO.out]; exact hth))
                go_wp2_with (first | (go_at_call 25; (with_reducible refine (NE.out).mono ?_); rintro e w' ⟨rfl, rfl⟩) | (at_builtin; go_loud (refine wp_app 22 5 (.int .u8 0) 1 Try.underlying22 info_byte rfl w.heap.size (.slice a6 L6 c6) L6 (o.map (Value.int .u8)) (.int .u8 37) _ _ rfl (by rfl) (.tmp 86) (.tmp 87) (by rfl) (by rfl) (by rfl) OWN.out (by exact (hbw).size) rfl (by omega) (by decide) ?_); intro v2 w2 hown2 hb2; have hbx := (hbw).trans hb2; have OW2 := Lib.hid hown2; obtain ⟨a2, d2, rfl⟩ := ownsRow_slice hown2; clear hown2 hb2))
                go_ret2
                exact ⟨hbx, .slice none 0 0, by rw [SV.out] <;> rfl, by rw [SV.out]; exact Rd.nil _ _ _⟩
              · have NX : Hid (∀ w2 v2, w2.ownsRow w.heap.size 5 1 v2 (L6 + 1) (o.map (Value.int .u8) ++ ([37] : List Int).map (Value.int .u8)) → PQ ls most S w w2 (i + 1) (o ++ [37]) v2 (n + 0)) := Lib.hid fun w2 v2 ho => HP.out.step PP.out (by rw [PLEN.out, HO.out]; exact hth) (by rw [PLEN.out, HO.out]; exact ho)
                go_wp2_with (first | (go_at_call 25; (with_reducible refine (NE.out).mono ?_); rintro e w' ⟨rfl, rfl⟩) | (at_builtin; go_loud (refine wp_app 22 5 (.int .u8 0) 1 Try.underlying22 info_byte rfl w.heap.size (.slice a6 L6 c6) L6 (o.map (Value.int .u8)) (.int .u8 37) _ _ rfl (by rfl) (.tmp 86) (.tmp 87) (by rfl) (by rfl) (by rfl) OWN.out (by exact (hbw).size) rfl (by omega) (by decide) ?_); intro v2 w2 hown2 hb2; have hbx := (hbw).trans hb2; have OW2 := Lib.hid hown2; obtain ⟨a2, d2, rfl⟩ := ownsRow_slice hown2; clear hown2 hb2))
                go_roundw
                case rel => exact ⟨i + 1, o ++ [37], _, L6 + 1, _, n + 0, by omega, rfl, by first | rfl | go_num, by go_num, hbx, Lib.hid (NX.out _ _ OW2.out), Lib.hid (by rw [List.length_append, PLEN.out, HO.out])⟩
                case measure => simp [intOf]; omega
          · obtain ⟨e, he⟩ : ∃ e, m + j = e := ⟨_, rfl⟩
            have HE : Hid (m + j = e) := Lib.hid he
            have heL : e < L := by have := TL.out; omega
            have NE : Hid (Calls Try.prog 25 #[.slice (some ⟨g, off, none⟩) L c0, .int .i64 m] wr fun r w' => r = .returned (.int .i64 e) ∧ wr = w') := by
              have := NXT.out e (by omega) (by rw [HL.out]; omega) (fun k h1 h2 => by
                obtain ⟨k, rfl⟩ : ∃ k', k = m + k' := ⟨k - m, by omega⟩
                have hk : k < t.length := by omega
                rw [GD.out k hk]
                have := hny (t.getD k 0) (by rw [List.getD_eq_getElem?_getD, List.getElem?_eq_getElem hk]; exact List.mem_take_iff_getElem.2 ⟨k, by omega, rfl⟩)
                exact this) (.inr ⟨by rw [HL.out]; exact heL, by
                  rw [← he, GD.out j hj]
                  have h1 : (t.drop j)[0]? = some 37 := by rw [hdy]; rfl
                  rw [List.getElem?_drop] at h1
                  rw [List.getD_eq_getElem?_getD, show j = j + 0 from rfl, h1]; rfl⟩)
              rw [HL.out] at this
              exact Lib.hid this
            have q5 : m ≤ e := by omega
            have q6 : (m : Int) ≤ e := by omega
            have q7 : e ≤ c0 := by omega
            have q8 : (e : Int) ≤ c0 := by omega
            have q9 : ¬ c0 = m := by omega
            have q10 : ¬ (e : Int) = L := by omega
            obtain ⟨e1, he1⟩ : ∃ e1, e + 1 = e1 := ⟨_, rfl⟩
            have HE1 : Hid (e + 1 = e1) := Lib.hid he1
            have i3 : IntKind.i64.wrap ((e : Int) + 1) = (e1 : Int) := by rw [IntWalk.i64_in _ (by omega)]; omega
            by_cases hj0 : j = 0
            · subst hj0
              have hme : m = e := by omega
              subst hme
              have PP : Hid (Pc ls (S.drop i) [37] 2 0) := Lib.hid (by rw [DC.out]; exact pc_two (by simpa using hy) hj)
              have PLEN : Hid (([37] : List Int).length = 1) := Lib.hid rfl
              have HM2 := HM1.out
              clear hny hy hdy NXT GD
              by_cases hth : most < (L6 : Int) + (1 : Nat)
              · have SV : Hid (subV ls most S = ([], -78)) := Lib.hid (HP.out.throw PP.out (by rw [PLEN.out, HO.out]; exact hth))
                go_wp2_with (first | (go_at_call 25; (with_reducible refine (NE.out).mono ?_); rintro e w' ⟨rfl, rfl⟩) | (at_builtin; go_loud (refine wp_app 22 5 (.int .u8 0) 1 Try.underlying22 info_byte rfl w.heap.size (.slice a6 L6 c6) L6 (o.map (Value.int .u8)) (.int .u8 37) _ _ rfl (by rfl) (.tmp 95) (.tmp 96) (by rfl) (by rfl) (by rfl) OWN.out (by exact (hbw).size) rfl (by omega) (by decide) ?_); intro v2 w2 hown2 hb2; have hbx := (hbw).trans hb2; have OW2 := Lib.hid hown2; obtain ⟨a2, d2, rfl⟩ := ownsRow_slice hown2; clear hown2 hb2))
                go_ret2
                exact ⟨hbx, .slice none 0 0, by rw [SV.out] <;> rfl, by rw [SV.out]; exact Rd.nil _ _ _⟩
              · have NX : Hid (∀ w2 v2, w2.ownsRow w.heap.size 5 1 v2 (L6 + 1) (o.map (Value.int .u8) ++ ([37] : List Int).map (Value.int .u8)) → PQ ls most S w w2 (i + 2) (o ++ [37]) v2 (n + 0)) := Lib.hid fun w2 v2 ho => HP.out.step PP.out (by rw [PLEN.out, HO.out]; exact hth) (by rw [PLEN.out, HO.out]; exact ho)
                go_wp2_with (first | (go_at_call 25; (with_reducible refine (NE.out).mono ?_); rintro e w' ⟨rfl, rfl⟩) | (at_builtin; go_loud (refine wp_app 22 5 (.int .u8 0) 1 Try.underlying22 info_byte rfl w.heap.size (.slice a6 L6 c6) L6 (o.map (Value.int .u8)) (.int .u8 37) _ _ rfl (by rfl) (.tmp 95) (.tmp 96) (by rfl) (by rfl) (by rfl) OWN.out (by exact (hbw).size) rfl (by omega) (by decide) ?_); intro v2 w2 hown2 hb2; have hbx := (hbw).trans hb2; have OW2 := Lib.hid hown2; obtain ⟨a2, d2, rfl⟩ := ownsRow_slice hown2; clear hown2 hb2))
                go_roundw
                case rel => exact ⟨i + 2, o ++ [37], _, L6 + 1, _, n + 0, by omega, rfl, by first | rfl | go_num, by (have := HE1.out; have := HM1.out; go_num), hbx, Lib.hid (NX.out _ _ OW2.out), Lib.hid (by rw [List.length_append, PLEN.out, HO.out])⟩
                case measure => simp [intOf]; omega
            · have HNM : Hid (Rd w .u8 (.slice (some ⟨g, off + m, none⟩) (e - m) (c0 - m)) (t.take j)) := by
                have := (HU.out.drop (m := m) (n' := L - m) (c' := c0 - m) (by omega) rfl rfl).take (m := e - m) (by omega)
                rw [HT.out, show List.take (e - m) t = t.take j by rw [show e - m = j by omega]] at this
                exact Lib.hid this
              have BN : Byt (t.take j) := fun x hx => HBS.out x (by rw [← HT.out] at hx; exact List.mem_of_mem_drop (List.mem_of_mem_take hx))
              have NL : (t.take j).length ≤ 400 := by rw [List.length_take]; have := TL.out; omega
              have q11 : ¬ ((e - m : Nat) : Int) = 0 := by omega
              have q12 : ¬ e ≤ m := by omega
              have b1 : ((e : Int) == (L : Int)) = false := beq_no q10
              have b2 : (((e - m : Nat) : Int) == 0) = false := beq_no q11
              have q13 : ¬ e - m = 0 := by omega
              have q14 : i ≤ e1 := by omega
              have q15 : (i : Int) ≤ e1 := by omega
              have q16 : e1 ≤ c0 := by omega
              have q17 : (e1 : Int) ≤ c0 := by omega
              have q18 : ¬ c0 = i := by omega
              have q19 : e1 ≤ L := by omega
              have q20 : i < e1 := by omega
              have i4 : IntKind.i64.wrap ((n : Int) + 1) = (n : Int) + 1 := IntWalk.i64_in _ (by omega)
              obtain ⟨nm, hnm⟩ : ∃ nm, t.take j = nm := ⟨_, rfl⟩
              rw [hnm] at HNM BN NL
              have SN := Lib.hid (fun w' (nv : Value) (k : Nat) (hk : k < M) (hr : Rd w' .u8 nv (ls.getD k ([], [])).1) (hb : Below w.heap.size w w') => SM.out w' nv _ nm k (by have := HMl.out; omega) hr (HNM.out.below hb) BN NL)
              have FA := Lib.hid (fun (k : Nat) (hk : k < M) => find_at (nm := nm) (ls := ls) (i := k) (by have := HMl.out; omega))
              have FN : Hid ((∀ j, j < M → sameV (ls.getD j ([], [])).1 nm = false) → findV nm ls = none) := Lib.hid (by rw [← HMl.out]; exact find_none)
              have PT : Hid (∀ tx, findV nm ls = some tx → Pc ls (S.drop i) tx (j + 2) 1) := Lib.hid fun tx hf => by rw [DC.out]; exact pc_text hy hj0 hj (by rw [hnm]; exact hf)
              have PN : Hid (findV nm ls = none → Pc ls (S.drop i) ((37 :: t).take (j + 2)) (j + 2) 0) := Lib.hid fun hf => by rw [DC.out]; exact pc_none hy hj0 hj (by rw [hnm]; exact hf)
              have RP : Hid (Rd w .u8 (.slice (some ⟨g, off + i, none⟩) (e1 - i) (c0 - i)) ((37 :: t).take (j + 2)) ∧ ((37 :: t).take (j + 2)).length = e1 - i) := by
                have := (HU.out.drop (m := i) (n' := L - i) (c' := c0 - i) (by omega) rfl rfl).take (m := e1 - i) (by omega)
                rw [DC.out, show e1 - i = j + 2 by omega] at this
                refine Lib.hid ⟨by rw [show e1 - i = j + 2 by omega]; exact this, ?_⟩
                rw [List.length_take, List.length_cons]
                have := TL.out
                omega
              obtain ⟨pl, hpl⟩ : ∃ pl, (37 :: t).take (j + 2) = pl := ⟨_, rfl⟩
              rw [hpl] at PN RP
              have TX4 : Hid (∀ tx, findV nm ls = some tx → tx.length ≤ 400) := Lib.hid fun tx hf => find_len (fun p hp => (HG.out p hp).2.2.2) hf
              have HJ : Hid (j + 2 + i = e1) := Lib.hid (by omega)
              clear hny hy hdy NXT GD DC HT hnm hpl BN SM HNM hj hj0 he1 hm
              obtain ⟨wo, hwo⟩ : ∃ wo, wo = wr := ⟨_, rfl⟩
              subst hwo
              go_wp2_with (first | (go_at_call 25; (with_reducible refine (NE.out).mono ?_); rintro e w' ⟨rfl, rfl⟩))
              go_loopw [13] (fun x13 wk => ∃ k : Nat, k ≤ M ∧ x13 = .int .i64 k ∧ Below wo.heap.size wo wk ∧ Hid (∀ j', j' < k → sameV (ls.getD j' ([], [])).1 nm = false)) (fun x13 _ => M - (intOf x13).toNat)
              case atStart => exact ⟨0, Nat.zero_le _, rfl, Below.refl _ _, Lib.hid fun j hj => by omega⟩
              case round =>
                obtain ⟨k, hk, rfl, hbk, HF⟩ := hrel
                have hbwk := below_then hbw hbw.size hbk
                have OWK := Lib.hid (own_below OWN.out hbk)
                by_cases hkM : k < M
                · obtain ⟨gp, op, rfl, nv, tv, k0, k1, r0, r1⟩ := PA.out _ hbwk k hkM
                  obtain ⟨na, nc, rfl⟩ := r0.len
                  obtain ⟨ta, tc, rfl⟩ := r1.len
                  have F1 := FA.out k hkM HF.out
                  have HQ : Hid (sameV (ls.getD k ([], [])).1 nm = false → ∀ j, j < k + 1 → sameV (ls.getD j ([], [])).1 nm = false) := Lib.hid fun h j hj => by
                    by_cases e : j = k
                    · rw [e]; exact h
                    · exact HF.out j (by omega)
                  have SI := SN.out _ _ k hkM r0 hbwk
                  have R1 := Lib.hid r1
                  obtain ⟨p, hp⟩ : ∃ p, ls.getD k ([], []) = p := ⟨_, rfl⟩
                  rw [hp] at k0 k1 F1 HQ SI R1
                  clear hp r0 r1 PA FA SN FN HF
                  obtain ⟨n1, hn1⟩ : ∃ n1, p.1.length = n1 := ⟨_, rfl⟩
                  obtain ⟨T, hT⟩ : ∃ T, p.2.length = T := ⟨_, rfl⟩
                  rw [hn1] at k0 SI
                  rw [hT] at k1 R1
                  clear hn1
                  obtain ⟨bv, hbv⟩ : ∃ bv, sameV p.1 nm = bv := ⟨_, rfl⟩
                  rw [hbv] at F1 HQ SI
                  have HF1 := Lib.hid F1
                  have W2 : Hid (Calls Try.prog 26 #[.slice na n1 nc, .slice (some ⟨g, off + m, none⟩) (e - m) (c0 - m)] wr fun r w2 => r = .returned (.bool bv) ∧ w2.cell? ⟨gp, op + k * 2 + 1, none⟩ = some (.slice ta T tc) ∧ Below wo.heap.size wo w2 ∧ Below w.heap.size w w2 ∧ Hid (w2.ownsRow w.heap.size 5 1 (.slice a6 L6 c6) L6 (o.map (Value.int .u8))) ∧ Hid (Rd w2 .u8 (.slice ta T tc) p.2)) := by
                    refine Lib.hid (SI.mono ?_)
                    rintro r w2 ⟨rfl, hb2⟩
                    exact ⟨rfl, cell_below hb2 k1, below_then hbk hbk.size hb2, below_then hbwk hbwk.size hb2, Lib.hid (own_below OWK.out hb2), Lib.hid (R1.out.below hb2)⟩
                  clear F1 SI hbv R1
                  cases bv with
                  | true =>
                    have PP := Lib.hid (PT.out _ (HF1.out rfl))
                    have PLEN := Lib.hid hT
                    have gT : T ≤ 400 := by rw [← hT]; exact TX4.out _ (HF1.out rfl)
                    obtain ⟨tx, htx⟩ : ∃ tx, p.2 = tx := ⟨_, rfl⟩
                    rw [htx] at PP PLEN W2
                    clear hT htx HF1 HQ OWN OWK PT PN TX4
                    by_cases hth : most < (L6 : Int) + (T : Nat)
                    · have SV : Hid (subV ls most S = ([], -78)) := Lib.hid (HP.out.throw PP.out (by rw [PLEN.out, HO.out]; exact hth))
                      go_wp2_with (first | (go_at_call 26; (with_reducible refine (W2.out).mono ?_); rintro r w2 ⟨rfl, z1, hb2, hbw2, OWS, RD2⟩) | (at_builtin; go_loud (refine wp_apps 22 5 (.int .u8 0) 1 Try.underlying22 info_byte rfl w.heap.size (.slice a6 L6 c6) L6 (o.map (Value.int .u8)) rfl (.tmp 63) (.tmp 68) (by rfl) (by rfl) OWS.out (hbw2).size .u8 _ tx (by rfl) RD2.out (by rw [PLEN.out]; omega) (by decide) ?_); intro v2 w3 hown2 hg2 _; have hbx := (hbw2).trans (grown_below hg2 OWS.out (hbw2).size); rw [PLEN.out] at hown2; have OW2 := Lib.hid hown2; obtain ⟨a2, d2, rfl⟩ := ownsRow_slice hown2; clear hown2 hg2))
                      go_ret2
                      exact ⟨hbx, .slice none 0 0, by rw [SV.out] <;> rfl, by rw [SV.out]; exact Rd.nil _ _ _⟩
                    · have NX : Hid (∀ w2 v2, w2.ownsRow w.heap.size 5 1 v2 (L6 + T) (o.map (Value.int .u8) ++ (tx : List Int).map (Value.int .u8)) → PQ ls most S w w2 (i + (j + 2)) (o ++ tx) v2 (n + 1)) := Lib.hid fun w2 v2 ho => HP.out.step PP.out (by rw [PLEN.out, HO.out]; exact hth) (by rw [PLEN.out, HO.out]; exact ho)
                      go_wp2_with (first | (go_at_call 26; (with_reducible refine (W2.out).mono ?_); rintro r w2 ⟨rfl, z1, hb2, hbw2, OWS, RD2⟩) | (at_builtin; go_loud (refine wp_apps 22 5 (.int .u8 0) 1 Try.underlying22 info_byte rfl w.heap.size (.slice a6 L6 c6) L6 (o.map (Value.int .u8)) rfl (.tmp 63) (.tmp 68) (by rfl) (by rfl) OWS.out (hbw2).size .u8 _ tx (by rfl) RD2.out (by rw [PLEN.out]; omega) (by decide) ?_); intro v2 w3 hown2 hg2 _; have hbx := (hbw2).trans (grown_below hg2 OWS.out (hbw2).size); rw [PLEN.out] at hown2; have OW2 := Lib.hid hown2; obtain ⟨a2, d2, rfl⟩ := ownsRow_slice hown2; clear hown2 hg2))
                      go_roundw
                      case rel => exact ⟨i + (j + 2), o ++ tx, _, L6 + T, _, n + 1, by (have := HJ.out; omega), rfl, by first | rfl | go_num, by (have := HJ.out; go_num), hbx, Lib.hid (NX.out _ _ OW2.out), Lib.hid (by rw [List.length_append, PLEN.out, HO.out])⟩
                      case measure => simp [intOf]; omega
                  | false =>
                    clear HF1 PT PN TX4 hT
                    go_wp2_with (go_at_call 26; (with_reducible refine (W2.out).mono ?_); rintro r w2 ⟨rfl, z1, hb2, hbw2, OW2, RD2⟩)
                    go_roundw
                    case rel => exact ⟨k + 1, by omega, by go_num, hb2, Lib.hid (HQ.out (by first | rfl | trivial))⟩
                    case measure => simp [intOf]; omega
                · have hkM2 : k = M := by omega
                  subst hkM2
                  have PP := Lib.hid (PN.out (FN.out HF.out))
                  have PLEN := Lib.hid RP.out.2
                  have gT : e1 - i ≤ 400 := by omega
                  clear PA FA SN FN HF PT PN TX4
                  by_cases hth : most < (L6 : Int) + ((e1 - i) : Nat)
                  · have SV : Hid (subV ls most S = ([], -78)) := Lib.hid (HP.out.throw PP.out (by rw [PLEN.out, HO.out]; exact hth))
                    go_wp2_with (first | (at_builtin; go_loud (refine wp_apps 22 5 (.int .u8 0) 1 Try.underlying22 info_byte rfl w.heap.size (.slice a6 L6 c6) L6 (o.map (Value.int .u8)) rfl (.tmp 72) (.tmp 77) (by rfl) (by rfl) OWK.out (hbwk).size .u8 _ pl (by rfl) (RP.out.1.below hbwk) (by rw [PLEN.out]; omega) (by decide) ?_); intro v2 w2 hown2 hg2 _; have hbx := (hbwk).trans (grown_below hg2 OWK.out (hbwk).size); rw [PLEN.out] at hown2; have OW2 := Lib.hid hown2; obtain ⟨a2, d2, rfl⟩ := ownsRow_slice hown2; clear hown2 hg2))
                    go_ret2
                    exact ⟨hbx, .slice none 0 0, by rw [SV.out] <;> rfl, by rw [SV.out]; exact Rd.nil _ _ _⟩
                  · have NX : Hid (∀ w2 v2, w2.ownsRow w.heap.size 5 1 v2 (L6 + (e1 - i)) (o.map (Value.int .u8) ++ (pl : List Int).map (Value.int .u8)) → PQ ls most S w w2 (i + (j + 2)) (o ++ pl) v2 (n + 0)) := Lib.hid fun w2 v2 ho => HP.out.step PP.out (by rw [PLEN.out, HO.out]; exact hth) (by rw [PLEN.out, HO.out]; exact ho)
                    go_wp2_with (first | (at_builtin; go_loud (refine wp_apps 22 5 (.int .u8 0) 1 Try.underlying22 info_byte rfl w.heap.size (.slice a6 L6 c6) L6 (o.map (Value.int .u8)) rfl (.tmp 72) (.tmp 77) (by rfl) (by rfl) OWK.out (hbwk).size .u8 _ pl (by rfl) (RP.out.1.below hbwk) (by rw [PLEN.out]; omega) (by decide) ?_); intro v2 w2 hown2 hg2 _; have hbx := (hbwk).trans (grown_below hg2 OWK.out (hbwk).size); rw [PLEN.out] at hown2; have OW2 := Lib.hid hown2; obtain ⟨a2, d2, rfl⟩ := ownsRow_slice hown2; clear hown2 hg2))
                    go_roundw
                    case rel => exact ⟨i + (j + 2), o ++ pl, _, L6 + (e1 - i), _, n + 0, by (have := HJ.out; omega), rfl, by first | rfl | go_num, by (have := HJ.out; go_num), hbx, Lib.hid (NX.out _ _ OW2.out), Lib.hid (by rw [List.length_append, PLEN.out, HO.out])⟩
                    case measure => simp [intOf]; omega
        · have PP : Hid (Pc ls (S.drop i) [x] 1 0) := Lib.hid (by rw [DC.out]; exact pc_char hx37)
          have PLEN : Hid (([x] : List Int).length = 1) := Lib.hid rfl
          by_cases hth : most < (L6 : Int) + (1 : Nat)
          · have SV : Hid (subV ls most S = ([], -78)) := Lib.hid (HP.out.throw PP.out (by rw [PLEN.out, HO.out]; exact hth))
            go_wp2_with (first | (at_builtin; go_loud (refine wp_app 22 5 (.int .u8 0) 1 Try.underlying22 info_byte rfl w.heap.size (.slice a6 L6 c6) L6 (o.map (Value.int .u8)) (.int .u8 x) _ _ rfl (by rfl) (.tmp 25) (.tmp 30) (by rfl) (by rfl) (by rfl) OWN.out (by exact (hbw).size) rfl (by omega) (by decide) ?_); intro v2 w2 hown2 hb2; have hbx := (hbw).trans hb2; have OW2 := Lib.hid hown2; obtain ⟨a2, d2, rfl⟩ := ownsRow_slice hown2; clear hown2 hb2))
            go_ret2
            exact ⟨hbx, .slice none 0 0, by rw [SV.out] <;> rfl, by rw [SV.out]; exact Rd.nil _ _ _⟩
          · have NX : Hid (∀ w2 v2, w2.ownsRow w.heap.size 5 1 v2 (L6 + 1) (o.map (Value.int .u8) ++ ([x] : List Int).map (Value.int .u8)) → PQ ls most S w w2 (i + 1) (o ++ [x]) v2 (n + 0)) := Lib.hid fun w2 v2 ho => HP.out.step PP.out (by rw [PLEN.out, HO.out]; exact hth) (by rw [PLEN.out, HO.out]; exact ho)
            go_wp2_with (first | (at_builtin; go_loud (refine wp_app 22 5 (.int .u8 0) 1 Try.underlying22 info_byte rfl w.heap.size (.slice a6 L6 c6) L6 (o.map (Value.int .u8)) (.int .u8 x) _ _ rfl (by rfl) (.tmp 25) (.tmp 30) (by rfl) (by rfl) (by rfl) OWN.out (by exact (hbw).size) rfl (by omega) (by decide) ?_); intro v2 w2 hown2 hb2; have hbx := (hbw).trans hb2; have OW2 := Lib.hid hown2; obtain ⟨a2, d2, rfl⟩ := ownsRow_slice hown2; clear hown2 hb2))
            go_roundw
            case rel => exact ⟨i + 1, o ++ [x], _, L6 + 1, _, n + 0, by omega, rfl, by first | rfl | go_num, by have := HM1.out; go_num, hbx, Lib.hid (NX.out _ _ OW2.out), Lib.hid (by rw [List.length_append, PLEN.out, HO.out])⟩
            case measure => simp [intOf]; omega
      · have hiE : i = L := by omega
        subst hiE
        have SV : Hid (subV ls most S = (o, (n : Int))) := Lib.hid (HP.out.fin (by rw [HL.out]; exact Nat.le_refl _))
        have RO : Hid (Rd wr .u8 (.slice a6 L6 c6) o) := Lib.hid (Rd.of_own HP.out.own)
        clear HP
        go_wp2_with fail
        go_ret2
        exact ⟨hbw, .slice a6 L6 c6, by rw [SV.out] <;> rfl, by rw [SV.out]; exact RO.out⟩
end Go.Proofs.Ytocmgdolinajmaa
