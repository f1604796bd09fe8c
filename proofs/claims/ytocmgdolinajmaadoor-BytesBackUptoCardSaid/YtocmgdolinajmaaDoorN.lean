/- Substitute, the program's. -/
import Derived.Test.YtocmgdolinajmaaDoorM
namespace Go.Proofs.YtocmgdolinajmaaDoor
set_option linter.unusedVariables false
set_option linter.unusedSimpArgs false
open Go.RowKit

def lenV : Value → Nat
  | .slice _ n _ => n
  | _ => 0
theorem sub_num (ls : List (List Int × List Int)) : ∀ (n : Nat) (s : List Int), s.length ≤ n → (sub ls s).2 ≤ s.length
  | _, [], _ => by rw [sub_nil]; simp
  | 0, x :: t, hn => by simp at hn
  | n + 1, x :: t, hn => by
    simp only [List.length_cons] at hn
    have ih := sub_num ls n
    by_cases hx : x = 37
    · subst hx
      rcases idx_cases 37 t with ⟨h1, h2⟩ | ⟨i, h1, h2, h3, h4⟩
      · rw [sub_end ls h1]
        have := ih t (by omega)
        simp only [List.length_cons]
        omega
      · by_cases h0 : i = 0
        · subst h0
          rw [sub_two ls h1]
          have := ih (t.drop 1) (by rw [List.length_drop]; omega)
          rw [List.length_drop] at this
          simp only [List.length_cons]
          omega
        · rw [sub_name ls h1 h0]
          have g := ih (t.drop (i + 1)) (by rw [List.length_drop]; omega)
          rw [List.length_drop] at g
          cases hf : findV (t.take i) ls with
          | some tx => simp only [List.length_cons]; omega
          | none => simp only [List.length_cons]; omega
    · rw [sub_char ls hx]
      have := ih t (by omega)
      simp only [List.length_cons]
      omega
/-- A piece: what is laid, how much of the source it is, how many names. -/
def Pc (ls : List (List Int × List Int)) (s pl : List Int) (k d : Nat) : Prop := sub ls s = (pl ++ (sub ls (s.drop k)).1, (sub ls (s.drop k)).2 + d) ∧ 0 < k ∧ k ≤ s.length
theorem own_below {w w' : World} {B e : Nat} {v : Value} {n : Nat} {xs : List Value} (h : w.ownsRow B e 1 v n xs) (hb : Below w.heap.size w w') : w'.ownsRow B e 1 v n xs := by
  obtain ⟨h1, h2⟩ := h
  refine ⟨h1, ?_⟩
  rcases h2 with h2 | ⟨g, cap, cur, rfl, hB, hh, r⟩
  · exact .inl h2
  · refine .inr ⟨g, cap, cur, rfl, hB, (hb.block g ?_).trans hh, r⟩
    rcases Nat.lt_or_ge g w.heap.size with hlt | hge
    · exact hlt
    · rw [Array.getElem?_eq_none hge] at hh; cases hh
section
variable {ls : List (List Int × List Int)} {s t tx : List Int} {i : Nat}
theorem pc_all (h : ∀ x ∈ s, x ≠ 37) (h0 : 0 < s.length) : Pc ls s s s.length 0 := ⟨by rw [sub_all ls h, List.drop_length, sub_nil, List.append_nil], h0, Nat.le_refl _⟩
theorem pc_front (h : ∀ x ∈ s.take i, x ≠ 37) (h0 : 0 < i) (hi : i < s.length) : Pc ls s (s.take i) i 0 := by
  refine ⟨?_, h0, Nat.le_of_lt hi⟩
  have := sub_plain ls (s.take i) (s.drop i) h
  rwa [List.take_append_drop] at this
theorem pc_last (h : idxB t 37 = -1) (hn : ∀ x ∈ t, x ≠ 37) : Pc ls (37 :: t) (37 :: t) (37 :: t).length 0 := ⟨by rw [sub_last ls h hn, List.drop_length, sub_nil, List.append_nil], by simp, Nat.le_refl _⟩
theorem pc_two (h : idxB t 37 = 0) (hl : 0 < t.length) : Pc ls (37 :: t) [37] 2 0 := ⟨by rw [sub_two ls h]; rfl, by decide, by simp; omega⟩
theorem pc_text (h : idxB t 37 = i) (h0 : i ≠ 0) (hl : i < t.length) (hf : findV (t.take i) ls = some tx) : Pc ls (37 :: t) tx (i + 2) 1 := ⟨by rw [sub_name ls h h0, hf]; rfl, by omega, by simp; omega⟩
theorem pc_none (h : idxB t 37 = i) (h0 : i ≠ 0) (hl : i < t.length) (hf : findV (t.take i) ls = none) : Pc ls (37 :: t) ((37 :: t).take (i + 2)) (i + 2) 0 := ⟨by rw [sub_name ls h h0, hf]; rfl, by omega, by simp; omega⟩
end
/-- How things stand in the loop. -/
structure PS (ls : List (List Int × List Int)) (most : Int) (S : List Int) (w wr : World) (s o : List Int) (v v6 : Value) (n : Nat) : Prop where
  rd : Rd w .u8 v s
  own : wr.ownsRow w.heap.size 5 1 v6 o.length (o.map (Value.int .u8))
  out : o ++ (sub ls s).1 = (sub ls S).1
  num : n + (sub ls s).2 = (sub ls S).2
  byt : Byt s
  lim : (o.length : Int) ≤ most
  len : s.length ≤ S.length
section
variable {ls : List (List Int × List Int)} {most : Int} {S s o pl : List Int} {w wr w2 : World} {v v' v6 v2 : Value} {n k d : Nat}
theorem PS.step (h : PS ls most S w wr s o v v6 n) (hp : Pc ls s pl k d) (hl : (pl.length : Int) ≤ most - o.length) (ho : w2.ownsRow w.heap.size 5 1 v2 (o.length + pl.length) (o.map (Value.int .u8) ++ pl.map (Value.int .u8))) (hr : Rd w .u8 v' (s.drop k)) : PS ls most S w w2 (s.drop k) (o ++ pl) v' v2 (n + d) := by
  have h1 := h.out
  have h2 := h.num
  rw [hp.1] at h1 h2
  refine ⟨hr, by rw [List.length_append, List.map_append]; exact ho, by rw [List.append_assoc]; exact h1, by simp only at h2; omega, fun x hx => h.byt x (List.mem_of_mem_drop hx), by rw [List.length_append]; omega, by rw [List.length_drop]; have := h.len; omega⟩
theorem PS.throw (h : PS ls most S w wr s o v v6 n) (hp : Pc ls s pl k d) (hl : most - o.length < (pl.length : Int)) : subV ls most S = ([], -78) := by
  unfold subV
  rw [if_pos]
  right
  rw [← h.out, hp.1, List.length_append, List.length_append]
  omega
theorem PS.fin (h : PS ls most S w wr [] o v v6 n) : subV ls most S = (o, (n : Int)) := by
  have h1 := h.out
  have h2 := h.num
  rw [sub_nil] at h1 h2
  rw [List.append_nil] at h1
  unfold subV
  rw [if_neg]
  · rw [← h1, ← h2]; rfl
  · rw [← h1]; have := h.lim; omega
end
set_option maxRecDepth 100000 in
set_option maxHeartbeats 32000000 in
theorem psub_c (u v : Value) (S : List Int) (ls : List (List Int × List Int)) (most : Int) (w : World) (hu : Rd w .u8 u S) (hv : Pm w v ls) (bS : Byt S) (hg : Good ls) (hS : S.length ≤ 800) (hls : ls.length ≤ 1000000) (hmw : -9223372036854775808 ≤ most ∧ most ≤ 9223372036854775807) :
    Calls Tryd.prog 21 #[u, .int .i64 most, v] w fun e w' => Below w.heap.size w w' ∧ ∃ r, e = .returned (.tuple #[r, .int .i64 (subV ls most S).2]) ∧ Rd w' .u8 r (subV ls most S).1 := by
  by_cases hneg : most < 0
  · have SV : Hid (subV ls most S = ([], -78)) := Lib.hid (by unfold subV; rw [if_pos (.inl hneg)])
    obtain ⟨a0, c0, rfl⟩ := hu.len
    clear hu hv bS hg
    go_enter Tryd.func21, Tryd.ntmps21
    go_wp2
    go_ret2
    exact ⟨Below.refl _ _, .slice none 0 0, by rw [SV.out] <;> rfl, by rw [SV.out]; exact Rd.nil _ _ _⟩
  · have S0 : Hid (PS ls most S w w S [] u (.slice none 0 0) 0) := Lib.hid ⟨hu, World.ownsRow_nil _ _ _ _, rfl, by simp, bS, by simp; omega, Nat.le_refl _⟩
    have HV := Lib.hid hv
    have HG := Lib.hid hg
    have HS := Lib.hid hS
    have HLS := Lib.hid hls
    have CNT : Hid ((sub ls S).2 ≤ 800) := Lib.hid (by have := sub_num ls _ S (Nat.le_refl _); omega)
    have TOT : Hid ((sub ls S).1.length ≤ 320000) := Lib.hid (by have := sub_len ls (fun p hp => (hg p hp).2.2.2) _ S (Nat.le_refl _); omega)
    obtain ⟨a0, c0, rfl, hc0, _⟩ := hu
    obtain ⟨ap, cp, rfl, _⟩ := hv
    obtain ⟨Lp, hLp⟩ : ∃ Lp, ls.length = Lp := ⟨_, rfl⟩
    rw [hLp] at HV ⊢
    obtain ⟨N0, hN0⟩ : ∃ N0, S.length = N0 := ⟨_, rfl⟩
    have HN0 := Lib.hid hN0
    rw [hN0] at S0 hc0 ⊢
    have FIND : Hid (∀ wr (nu : Value) (nm : List Int), Below w.heap.size w wr → Rd wr .u8 nu nm → Byt nm → 0 < nm.length → nm.length ≤ 800 → Calls Tryd.prog 30 #[nu, .slice ap Lp cp] wr fun e w' => Below wr.heap.size wr w' ∧ ((findV nm ls = none ∧ e = .returned (.tuple #[.slice none 0 0, .bool false])) ∨ ∃ tv tx, findV nm ls = some tx ∧ e = .returned (.tuple #[tv, .bool true]) ∧ Rd w' .u8 tv tx)) :=
      Lib.hid fun wr nu nm hb hr bn h0 h4 => find_c nu _ nm ls wr hr (HV.out.below hb) bn HG.out h0 h4 HLS.out
    clear hLp hN0 bS hg hS hls
    go_enter Tryd.func21, Tryd.ntmps21
    go_wp2
    go_loopw [0, 6, 7] (fun x0 x6 x7 wr => ∃ (s o : List Int) (a : Option Addr) (L c : Nat) (a6 : Option Addr) (L6 c6 n : Nat), x0 = .slice a L c ∧ x6 = .slice a6 L6 c6 ∧ x7 = .int .i64 n ∧ L ≤ c ∧ Below w.heap.size w wr ∧ Hid (PS ls most S w wr s o (.slice a L c) (.slice a6 L6 c6) n) ∧ Hid (s.length = L ∧ o.length = L6)) (fun x0 _ _ _ => lenV x0)
    case atStart => exact ⟨S, [], a0, N0, c0, none, 0, 0, 0, rfl, rfl, rfl, hc0, Below.refl _ _, S0, Lib.hid ⟨HN0.out, rfl⟩⟩
    case round =>
      obtain ⟨s, o, a, L, c, a6, L6, c6, n, rfl, rfl, rfl, hLc, hbw, HP, HL⟩ := hrel
      by_cases hL0 : 0 < L
      · obtain ⟨g, off, rfl, _⟩ := HP.out.rd.at_ (i := 0) (by have := HL.out.1; omega)
        have HL400 : Hid (L ≤ 800) := Lib.hid (by have := HP.out.len; have := HS.out; have := HL.out.1; omega)
        have gl4 : L ≤ 800 := HL400.out
        have gm0 : 0 ≤ most := by omega
        have H6 : Hid (L6 ≤ 320000) := Lib.hid (by have h := congrArg List.length HP.out.out; rw [List.length_append] at h; have := TOT.out; have := HL.out.2; omega)
        have g6 : L6 ≤ 320000 := H6.out
        have i1 : IntKind.i64.wrap (most - (L6 : Int)) = most - L6 := IntWalk.i64_in _ (by omega)
        have OWN : Hid (wr.ownsRow w.heap.size 5 1 (.slice a6 L6 c6) L6 (o.map (Value.int .u8))) := Lib.hid (by have := HP.out.own; rw [HL.out.2] at this; exact this)
        have IX := bidx_c _ s wr (HP.out.rd.below hbw) HP.out.byt 37 (by decide)
        clear H6 TOT
        rcases idx_cases 37 s with ⟨hx, hn⟩ | ⟨i, hx, hi, hd, hn⟩
        · rw [hx] at IX
          have PP : Hid (Pc ls s s L 0) := Lib.hid (by have := pc_all (ls := ls) hn (by have := HL.out.1; omega); rwa [HL.out.1] at this)
          have PLEN : Hid (s.length = L) := Lib.hid HL.out.1
          have IX := Lib.hid IX
          clear hn hx
          have RDP : Hid (Rd wr .u8 (.slice (some ⟨g, off, none⟩) L c) s) := Lib.hid (HP.out.rd.below hbw)
          by_cases hth : most - (L6 : Int) < (L : Nat)
          · have SV : Hid (subV ls most S = ([], -78)) := Lib.hid (HP.out.throw PP.out (by rw [PLEN.out, HL.out.2]; exact hth))
            go_wp2_with (first | (go_at_call 29; (with_reducible refine (IX.out).mono ?_); rintro e w' ⟨rfl, rfl⟩))
            go_ret2
            exact ⟨hbw, .slice none 0 0, by rw [SV.out] <;> rfl, by rw [SV.out]; exact Rd.nil _ _ _⟩
          · have NX : Hid (∀ w2 v2 v', w2.ownsRow w.heap.size 5 1 v2 (L6 + L) (o.map (Value.int .u8) ++ s.map (Value.int .u8)) → Rd w .u8 v' (s.drop L) → PS ls most S w w2 (s.drop L) (o ++ s) v' v2 (n + 0)) := Lib.hid fun w2 v2 v' ho hr => HP.out.step PP.out (by rw [PLEN.out, HL.out.2]; omega) (by rw [PLEN.out, HL.out.2]; exact ho) hr
            by_cases hcap : c = L
            · skip
              have hkc : L = c := hcap.symm
              subst hkc
              go_wp2_with (first | (go_at_call 29; (with_reducible refine (IX.out).mono ?_); rintro e w' ⟨rfl, rfl⟩) | (at_builtin; go_loud (refine wp_apps 22 5 (.int .u8 0) 1 Tryd.underlying22 info_byte rfl w.heap.size (.slice a6 L6 c6) L6 (o.map (Value.int .u8)) rfl (.tmp 67) (.tmp 68) (by rfl) (by rfl) OWN.out (hbw).size .u8 _ s (by rfl) RDP.out (by rw [PLEN.out]; omega) (by decide) ?_); intro v2 w2 hown2 hg2 _; have hbx := (hbw).trans (grown_below hg2 OWN.out (hbw).size); rw [PLEN.out] at hown2; have OW2 := Lib.hid hown2; obtain ⟨a2, d2, rfl⟩ := ownsRow_slice hown2; clear hown2 hg2))
              go_roundw
              case rel =>
                have ny := NX.out _ _ (.slice (some ⟨g, off, none⟩) 0 0) OW2.out (Rd.empty (by omega) (List.drop_eq_nil_of_le (by have := HL.out.1; omega)))
                exact ⟨s.drop L, o ++ s, _, 0, _, _, L6 + L, _, n + 0, rfl, rfl, by first | rfl | go_num, by omega, hbx, Lib.hid ny, Lib.hid ⟨by rw [List.length_drop, HL.out.1]; try omega, by rw [List.length_append, PLEN.out, HL.out.2]⟩⟩
              case measure => simp [lenV] <;> (have := PP.out.2.1; omega)
            · skip
              go_wp2_with (first | (go_at_call 29; (with_reducible refine (IX.out).mono ?_); rintro e w' ⟨rfl, rfl⟩) | (at_builtin; go_loud (refine wp_apps 22 5 (.int .u8 0) 1 Tryd.underlying22 info_byte rfl w.heap.size (.slice a6 L6 c6) L6 (o.map (Value.int .u8)) rfl (.tmp 67) (.tmp 68) (by rfl) (by rfl) OWN.out (hbw).size .u8 _ s (by rfl) RDP.out (by rw [PLEN.out]; omega) (by decide) ?_); intro v2 w2 hown2 hg2 _; have hbx := (hbw).trans (grown_below hg2 OWN.out (hbw).size); rw [PLEN.out] at hown2; have OW2 := Lib.hid hown2; obtain ⟨a2, d2, rfl⟩ := ownsRow_slice hown2; clear hown2 hg2))
              go_roundw
              case rel =>
                have ny := NX.out _ _ _ OW2.out (HP.out.rd.drop (m := L) (n' := 0) (by have := PP.out.2.2; have := HL.out.1; omega) (by omega) rfl)
                exact ⟨s.drop L, o ++ s, _, 0, _, _, L6 + L, _, n + 0, rfl, rfl, by first | rfl | go_num, by omega, hbx, Lib.hid ny, Lib.hid ⟨by rw [List.length_drop, HL.out.1]; try omega, by rw [List.length_append, PLEN.out, HL.out.2]⟩⟩
              case measure => simp [lenV] <;> (have := PP.out.2.1; omega)
        · have hi : i < L := by have := HL.out.1; omega
          by_cases hi0 : i = 0
          · subst hi0
            obtain ⟨t, rfl⟩ : ∃ t, s = 37 :: t := ⟨s.drop 1, by simpa using hd⟩
            have hx0 : idxB (37 :: t) 37 = 0 := by simpa using hx
            rw [hx0] at IX
            clear hx hd hn
            have HLt : Hid (t.length + 1 = L) := Lib.hid (by have := HL.out.1; simpa using this)
            have IX := Lib.hid IX
            by_cases hc1 : c = 1
            · have hL1 : L = 1 := by omega
              subst hL1
              have hc2 : 1 = c := hc1.symm
              subst hc2
              obtain rfl : t = [] := List.eq_nil_of_length_eq_zero (by have := HLt.out; omega)
              have JX : Hid (Calls Tryd.prog 29 #[.slice (some ⟨g, off, none⟩) 0 0, .int .u8 37] wr fun e w' => e = .returned (.int .i64 (-1)) ∧ wr = w') := Lib.hid (bidx_c _ [] wr (Rd.empty rfl rfl) (fun x hx => by simp at hx) 37 (by decide))
              have PP : Hid (Pc ls [37] [37] 1 0) := Lib.hid (pc_last (t := []) rfl (fun x hx => by simp at hx))
              have PLEN : Hid (([37] : List Int).length = 1) := Lib.hid rfl
              have RDP : Hid (Rd wr .u8 (.slice (some ⟨g, off, none⟩) 1 1) [37]) := Lib.hid (HP.out.rd.below hbw)
              by_cases hth : most - (L6 : Int) < (1 : Nat)
              · have SV : Hid (subV ls most S = ([], -78)) := Lib.hid (HP.out.throw PP.out (by rw [PLEN.out, HL.out.2]; exact hth))
                go_wp2_with (first | (go_at_call 29; (with_reducible refine (IX.out).mono ?_); rintro e w' ⟨rfl, rfl⟩) | (go_at_call 29; (with_reducible refine (JX.out).mono ?_); rintro e w' ⟨rfl, rfl⟩))
                go_ret2
                exact ⟨hbw, .slice none 0 0, by rw [SV.out] <;> rfl, by rw [SV.out]; exact Rd.nil _ _ _⟩
              · have NX : Hid (∀ w2 v2 v', w2.ownsRow w.heap.size 5 1 v2 (L6 + 1) (o.map (Value.int .u8) ++ [37].map (Value.int .u8)) → Rd w .u8 v' (([37] : List Int).drop 1) → PS ls most S w w2 (([37] : List Int).drop 1) (o ++ [37]) v' v2 (n + 0)) := Lib.hid fun w2 v2 v' ho hr => HP.out.step PP.out (by rw [PLEN.out, HL.out.2]; omega) (by rw [PLEN.out, HL.out.2]; exact ho) hr
                · skip
                  go_wp2_with (first | (go_at_call 29; (with_reducible refine (IX.out).mono ?_); rintro e w' ⟨rfl, rfl⟩) | (go_at_call 29; (with_reducible refine (JX.out).mono ?_); rintro e w' ⟨rfl, rfl⟩) | (at_builtin; go_loud (refine wp_apps 22 5 (.int .u8 0) 1 Tryd.underlying22 info_byte rfl w.heap.size (.slice a6 L6 c6) L6 (o.map (Value.int .u8)) rfl (.tmp 67) (.tmp 68) (by rfl) (by rfl) OWN.out (hbw).size .u8 _ [37] (by rfl) RDP.out (by rw [PLEN.out]; omega) (by decide) ?_); intro v2 w2 hown2 hg2 _; have hbx := (hbw).trans (grown_below hg2 OWN.out (hbw).size); rw [PLEN.out] at hown2; have OW2 := Lib.hid hown2; obtain ⟨a2, d2, rfl⟩ := ownsRow_slice hown2; clear hown2 hg2))
                  go_roundw
                  case rel =>
                    have ny := NX.out _ _ (.slice (some ⟨g, off, none⟩) 0 0) OW2.out (Rd.empty (by omega) (List.drop_eq_nil_of_le (by have := HL.out.1; omega)))
                    exact ⟨([37] : List Int).drop 1, o ++ [37], _, 0, _, _, L6 + 1, _, n + 0, rfl, rfl, by first | rfl | go_num, by omega, hbx, Lib.hid ny, Lib.hid ⟨by rw [List.length_drop, HL.out.1]; try omega, by rw [List.length_append, PLEN.out, HL.out.2]⟩⟩
                  case measure => simp [lenV] <;> (have := PP.out.2.1; omega)
            · have RT : Hid (Rd w .u8 (.slice (some ⟨g, off + 1, none⟩) (L - 1) (c - 1)) t) := Lib.hid (by have := HP.out.rd.drop (m := 1) (n' := L - 1) (c' := c - 1) (by omega) rfl rfl; exact this)
              have JX := bidx_c _ t wr (RT.out.below hbw) (fun x hx => HP.out.byt x (List.mem_cons_of_mem _ hx)) 37 (by decide)
              have q1 : 1 ≤ L := by omega
              have q2 : (1 : Int) ≤ L := by omega
              have q3 : (1 : Int) ≤ c := by omega
              have q4 : 1 ≤ c := by omega
              rcases idx_cases 37 t with ⟨hy, hny⟩ | ⟨j, hy, hj, hdy, hny⟩
              · rw [hy] at JX
                have PP : Hid (Pc ls (37 :: t) (37 :: t) L 0) := Lib.hid (by have := pc_last (ls := ls) hy hny; rwa [HL.out.1] at this)
                have PLEN : Hid ((37 :: t).length = L) := Lib.hid HL.out.1
                have JX := Lib.hid JX
                have RDP : Hid (Rd wr .u8 (.slice (some ⟨g, off, none⟩) L c) (37 :: t)) := Lib.hid (HP.out.rd.below hbw)
                obtain ⟨pl, hpl⟩ : ∃ pl, 37 :: t = pl := ⟨_, rfl⟩
                rw [hpl] at PP PLEN RDP HP HL
                clear hny hy hx0 hpl
                by_cases hth : most - (L6 : Int) < (L : Nat)
                · have SV : Hid (subV ls most S = ([], -78)) := Lib.hid (HP.out.throw PP.out (by rw [PLEN.out, HL.out.2]; exact hth))
                  go_wp2_with (first | (go_at_call 29; (with_reducible refine (IX.out).mono ?_); rintro e w' ⟨rfl, rfl⟩) | (go_at_call 29; (with_reducible refine (JX.out).mono ?_); rintro e w' ⟨rfl, rfl⟩))
                  go_ret2
                  exact ⟨hbw, .slice none 0 0, by rw [SV.out] <;> rfl, by rw [SV.out]; exact Rd.nil _ _ _⟩
                · have NX : Hid (∀ w2 v2 v', w2.ownsRow w.heap.size 5 1 v2 (L6 + L) (o.map (Value.int .u8) ++ pl.map (Value.int .u8)) → Rd w .u8 v' (pl.drop L) → PS ls most S w w2 (pl.drop L) (o ++ pl) v' v2 (n + 0)) := Lib.hid fun w2 v2 v' ho hr => HP.out.step PP.out (by rw [PLEN.out, HL.out.2]; omega) (by rw [PLEN.out, HL.out.2]; exact ho) hr
                  by_cases hcap : c = L
                  · skip
                    have hkc : L = c := hcap.symm
                    subst hkc
                    go_wp2_with (first | (go_at_call 29; (with_reducible refine (IX.out).mono ?_); rintro e w' ⟨rfl, rfl⟩) | (go_at_call 29; (with_reducible refine (JX.out).mono ?_); rintro e w' ⟨rfl, rfl⟩) | (at_builtin; go_loud (refine wp_apps 22 5 (.int .u8 0) 1 Tryd.underlying22 info_byte rfl w.heap.size (.slice a6 L6 c6) L6 (o.map (Value.int .u8)) rfl (.tmp 67) (.tmp 68) (by rfl) (by rfl) OWN.out (hbw).size .u8 _ pl (by rfl) RDP.out (by rw [PLEN.out]; omega) (by decide) ?_); intro v2 w2 hown2 hg2 _; have hbx := (hbw).trans (grown_below hg2 OWN.out (hbw).size); rw [PLEN.out] at hown2; have OW2 := Lib.hid hown2; obtain ⟨a2, d2, rfl⟩ := ownsRow_slice hown2; clear hown2 hg2))
                    go_roundw
                    case rel =>
                      have ny := NX.out _ _ (.slice (some ⟨g, off, none⟩) 0 0) OW2.out (Rd.empty (by omega) (List.drop_eq_nil_of_le (by have := HL.out.1; omega)))
                      exact ⟨pl.drop L, o ++ pl, _, 0, _, _, L6 + L, _, n + 0, rfl, rfl, by first | rfl | go_num, by omega, hbx, Lib.hid ny, Lib.hid ⟨by rw [List.length_drop, HL.out.1]; try omega, by rw [List.length_append, PLEN.out, HL.out.2]⟩⟩
                    case measure => simp [lenV] <;> (have := PP.out.2.1; omega)
                  · skip
                    go_wp2_with (first | (go_at_call 29; (with_reducible refine (IX.out).mono ?_); rintro e w' ⟨rfl, rfl⟩) | (go_at_call 29; (with_reducible refine (JX.out).mono ?_); rintro e w' ⟨rfl, rfl⟩) | (at_builtin; go_loud (refine wp_apps 22 5 (.int .u8 0) 1 Tryd.underlying22 info_byte rfl w.heap.size (.slice a6 L6 c6) L6 (o.map (Value.int .u8)) rfl (.tmp 67) (.tmp 68) (by rfl) (by rfl) OWN.out (hbw).size .u8 _ pl (by rfl) RDP.out (by rw [PLEN.out]; omega) (by decide) ?_); intro v2 w2 hown2 hg2 _; have hbx := (hbw).trans (grown_below hg2 OWN.out (hbw).size); rw [PLEN.out] at hown2; have OW2 := Lib.hid hown2; obtain ⟨a2, d2, rfl⟩ := ownsRow_slice hown2; clear hown2 hg2))
                    go_roundw
                    case rel =>
                      have ny := NX.out _ _ _ OW2.out (HP.out.rd.drop (m := L) (n' := 0) (by have := PP.out.2.2; have := HL.out.1; omega) (by omega) rfl)
                      exact ⟨pl.drop L, o ++ pl, _, 0, _, _, L6 + L, _, n + 0, rfl, rfl, by first | rfl | go_num, by omega, hbx, Lib.hid ny, Lib.hid ⟨by rw [List.length_drop, HL.out.1]; try omega, by rw [List.length_append, PLEN.out, HL.out.2]⟩⟩
                    case measure => simp [lenV] <;> (have := PP.out.2.1; omega)
              · rw [hy] at JX
                have hjL : j + 1 < L := by have := HLt.out; omega
                by_cases hj0 : j = 0
                · subst hj0
                  have PP : Hid (Pc ls (37 :: t) [37] 2 0) := Lib.hid (pc_two (by simpa using hy) (by omega))
                  have PLEN : Hid (([37] : List Int).length = 1) := Lib.hid rfl
                  have JX := Lib.hid JX
                  have RDP : Hid (Rd wr .u8 (.slice (some ⟨g, off, none⟩) 1 c) [37]) := Lib.hid (by have := (HP.out.rd.take (m := 1) (by omega)).below hbw; simpa using this)
                  simp only [show ((0 : Nat) : Int) = 0 from rfl] at JX
                  have q5 : 2 ≤ L := by omega
                  have q6 : (2 : Int) ≤ L := by omega
                  have q7 : 2 ≤ c := by omega
                  have q8 : (2 : Int) ≤ c := by omega
                  obtain ⟨s, hs⟩ : ∃ s, 37 :: t = s := ⟨_, rfl⟩
                  rw [hs] at PP HP HL
                  clear hny hy hx0 hs hdy hj
                  by_cases hth : most - (L6 : Int) < (1 : Nat)
                  · have SV : Hid (subV ls most S = ([], -78)) := Lib.hid (HP.out.throw PP.out (by rw [PLEN.out, HL.out.2]; exact hth))
                    go_wp2_with (first | (go_at_call 29; (with_reducible refine (IX.out).mono ?_); rintro e w' ⟨rfl, rfl⟩) | (go_at_call 29; (with_reducible refine (JX.out).mono ?_); rintro e w' ⟨rfl, rfl⟩))
                    go_ret2
                    exact ⟨hbw, .slice none 0 0, by rw [SV.out] <;> rfl, by rw [SV.out]; exact Rd.nil _ _ _⟩
                  · have NX : Hid (∀ w2 v2 v', w2.ownsRow w.heap.size 5 1 v2 (L6 + 1) (o.map (Value.int .u8) ++ [37].map (Value.int .u8)) → Rd w .u8 v' (s.drop 2) → PS ls most S w w2 (s.drop 2) (o ++ [37]) v' v2 (n + 0)) := Lib.hid fun w2 v2 v' ho hr => HP.out.step PP.out (by rw [PLEN.out, HL.out.2]; omega) (by rw [PLEN.out, HL.out.2]; exact ho) hr
                    by_cases hcap : c = 2
                    · skip
                      have hkL : 2 = L := by have := PP.out.2.2; have := HL.out.1; omega
                      subst hkL
                      have hkc : 2 = c := hcap.symm
                      subst hkc
                      go_wp2_with (first | (go_at_call 29; (with_reducible refine (IX.out).mono ?_); rintro e w' ⟨rfl, rfl⟩) | (go_at_call 29; (with_reducible refine (JX.out).mono ?_); rintro e w' ⟨rfl, rfl⟩) | (at_builtin; go_loud (refine wp_apps 22 5 (.int .u8 0) 1 Tryd.underlying22 info_byte rfl w.heap.size (.slice a6 L6 c6) L6 (o.map (Value.int .u8)) rfl (.tmp 67) (.tmp 68) (by rfl) (by rfl) OWN.out (hbw).size .u8 _ [37] (by rfl) RDP.out (by rw [PLEN.out]; omega) (by decide) ?_); intro v2 w2 hown2 hg2 _; have hbx := (hbw).trans (grown_below hg2 OWN.out (hbw).size); rw [PLEN.out] at hown2; have OW2 := Lib.hid hown2; obtain ⟨a2, d2, rfl⟩ := ownsRow_slice hown2; clear hown2 hg2))
                      go_roundw
                      case rel =>
                        have ny := NX.out _ _ (.slice (some ⟨g, off, none⟩) 0 0) OW2.out (Rd.empty (by omega) (List.drop_eq_nil_of_le (by have := HL.out.1; omega)))
                        exact ⟨s.drop 2, o ++ [37], _, 0, _, _, L6 + 1, _, n + 0, rfl, rfl, by first | rfl | go_num, by omega, hbx, Lib.hid ny, Lib.hid ⟨by rw [List.length_drop, HL.out.1]; try omega, by rw [List.length_append, PLEN.out, HL.out.2]⟩⟩
                      case measure => simp [lenV] <;> (have := PP.out.2.1; omega)
                    · skip
                      go_wp2_with (first | (go_at_call 29; (with_reducible refine (IX.out).mono ?_); rintro e w' ⟨rfl, rfl⟩) | (go_at_call 29; (with_reducible refine (JX.out).mono ?_); rintro e w' ⟨rfl, rfl⟩) | (at_builtin; go_loud (refine wp_apps 22 5 (.int .u8 0) 1 Tryd.underlying22 info_byte rfl w.heap.size (.slice a6 L6 c6) L6 (o.map (Value.int .u8)) rfl (.tmp 67) (.tmp 68) (by rfl) (by rfl) OWN.out (hbw).size .u8 _ [37] (by rfl) RDP.out (by rw [PLEN.out]; omega) (by decide) ?_); intro v2 w2 hown2 hg2 _; have hbx := (hbw).trans (grown_below hg2 OWN.out (hbw).size); rw [PLEN.out] at hown2; have OW2 := Lib.hid hown2; obtain ⟨a2, d2, rfl⟩ := ownsRow_slice hown2; clear hown2 hg2))
                      go_roundw
                      case rel =>
                        have ny := NX.out _ _ _ OW2.out (HP.out.rd.drop (m := 2) (n' := (L - 2)) (by have := PP.out.2.2; have := HL.out.1; omega) (by omega) rfl)
                        exact ⟨s.drop 2, o ++ [37], _, (L - 2), _, _, L6 + 1, _, n + 0, rfl, rfl, by first | rfl | go_num, by omega, hbx, Lib.hid ny, Lib.hid ⟨by rw [List.length_drop, HL.out.1]; try omega, by rw [List.length_append, PLEN.out, HL.out.2]⟩⟩
                      case measure => simp [lenV] <;> (have := PP.out.2.1; omega)
                · have BN : Byt (t.take j) := fun x hx => HP.out.byt x (List.mem_cons_of_mem _ (List.mem_of_mem_take hx))
                  have NL : (t.take j).length = j := by rw [List.length_take]; omega
                  obtain ⟨m, hm⟩ : ∃ m, j + 1 = m := ⟨_, rfl⟩
                  obtain ⟨k, hk⟩ : ∃ k, j + 2 = k := ⟨_, rfl⟩
                  have HMK : Hid (j + 1 = m ∧ j + 2 = k) := Lib.hid ⟨hm, hk⟩
                  have RN : Rd wr .u8 (.slice (some ⟨g, off + 1, none⟩) (m - 1) (c - 1)) (t.take j) := by
                    have e : m - 1 = j := by omega
                    rw [e]
                    exact (RT.out.take (m := j) (by omega)).below hbw
                  have FS := FIND.out wr _ (t.take j) hbw RN BN (by omega) (by omega)
                  have JX := Lib.hid JX
                  have i2 : IntKind.i64.wrap ((j : Int) + 1) = (m : Int) := by rw [IntWalk.i64_in _ (by omega)]; omega
                  have i3 : IntKind.i64.wrap ((j : Int) + 2) = (k : Int) := by rw [IntWalk.i64_in _ (by omega)]; omega
                  have q5 : 1 ≤ m := by omega
                  have q6 : (1 : Int) ≤ m := by omega
                  have q7 : m ≤ c := by omega
                  have q8 : (m : Int) ≤ c := by omega
                  have q9 : k ≤ L := by omega
                  have q10 : (k : Int) ≤ L := by omega
                  have q11 : k ≤ c := by omega
                  have q12 : (k : Int) ≤ c := by omega
                  have q13 : (0 : Int) < j := by omega
                  have q14 : ¬ (j : Int) = 0 := by omega
                  have gn : n ≤ 800 := by have := HP.out.num; have := CNT.out; omega
                  have i4 : IntKind.i64.wrap ((n : Int) + 1) = (n : Int) + 1 := IntWalk.i64_in _ (by omega)
                  cases hf : findV (t.take j) ls with
                  | none =>
                    have PP : Hid (Pc ls (37 :: t) ((37 :: t).take k) k 0) := Lib.hid (by have := pc_none (ls := ls) hy hj0 hj hf; rwa [hk] at this)
                    have PLEN : Hid (((37 :: t).take k).length = k) := Lib.hid (by rw [List.length_take]; have := HLt.out; simp only [List.length_cons]; omega)
                    have RDP : Hid (Rd w .u8 (.slice (some ⟨g, off, none⟩) k c) ((37 :: t).take k)) := Lib.hid (HP.out.rd.take (by omega))
                    have FN : Hid (Calls Tryd.prog 30 #[.slice (some ⟨g, off + 1, none⟩) (m - 1) (c - 1), .slice ap Lp cp] wr fun e w' => e = .returned (.tuple #[.slice none 0 0, .bool false]) ∧ Below w.heap.size w w' ∧ Hid (w'.ownsRow w.heap.size 5 1 (.slice a6 L6 c6) L6 (o.map (Value.int .u8)))) := by
                      refine Lib.hid (FS.mono ?_)
                      rintro e w' ⟨hb, ⟨_, he⟩ | ⟨tv, tx, h1, _⟩⟩
                      · exact ⟨he, below_then hbw hbw.size hb, Lib.hid (own_below OWN.out hb)⟩
                      · rw [hf] at h1; cases h1
                    obtain ⟨pl, hpl⟩ : ∃ pl, (37 :: t).take k = pl := ⟨_, rfl⟩
                    obtain ⟨s, hs⟩ : ∃ s, 37 :: t = s := ⟨_, rfl⟩
                    rw [hpl] at PP PLEN RDP
                    rw [hs] at PP HP HL
                    clear hny hy hx0 hs hpl hdy hj hf FS RN BN NL hm hk OWN
                    by_cases hth : most - (L6 : Int) < (k : Nat)
                    · have SV : Hid (subV ls most S = ([], -78)) := Lib.hid (HP.out.throw PP.out (by rw [PLEN.out, HL.out.2]; exact hth))
                      go_wp2_with (first | (go_at_call 29; (with_reducible refine (IX.out).mono ?_); rintro e w' ⟨rfl, rfl⟩) | (go_at_call 29; (with_reducible refine (JX.out).mono ?_); rintro e w' ⟨rfl, rfl⟩) | (go_at_call 30; (with_reducible refine (FN.out).mono ?_); rintro e w3 ⟨rfl, hbw3, OW3⟩))
                      go_ret2
                      exact ⟨hbw3, .slice none 0 0, by rw [SV.out] <;> rfl, by rw [SV.out]; exact Rd.nil _ _ _⟩
                    · have NX : Hid (∀ w2 v2 v', w2.ownsRow w.heap.size 5 1 v2 (L6 + k) (o.map (Value.int .u8) ++ pl.map (Value.int .u8)) → Rd w .u8 v' (s.drop k) → PS ls most S w w2 (s.drop k) (o ++ pl) v' v2 (n + 0)) := Lib.hid fun w2 v2 v' ho hr => HP.out.step PP.out (by rw [PLEN.out, HL.out.2]; omega) (by rw [PLEN.out, HL.out.2]; exact ho) hr
                      by_cases hcap : c = k
                      · skip
                        have hkL : k = L := by have := PP.out.2.2; have := HL.out.1; omega
                        subst hkL
                        have hkc : k = c := hcap.symm
                        subst hkc
                        go_wp2_with (first | (go_at_call 29; (with_reducible refine (IX.out).mono ?_); rintro e w' ⟨rfl, rfl⟩) | (go_at_call 29; (with_reducible refine (JX.out).mono ?_); rintro e w' ⟨rfl, rfl⟩) | (go_at_call 30; (with_reducible refine (FN.out).mono ?_); rintro e w3 ⟨rfl, hbw3, OW3⟩) | (at_builtin; go_loud (refine wp_apps 22 5 (.int .u8 0) 1 Tryd.underlying22 info_byte rfl w.heap.size (.slice a6 L6 c6) L6 (o.map (Value.int .u8)) rfl (.tmp 67) (.tmp 68) (by rfl) (by rfl) OW3.out (hbw3).size .u8 _ pl (by rfl) (RDP.out.below hbw3) (by rw [PLEN.out]; omega) (by decide) ?_); intro v2 w2 hown2 hg2 _; have hbx := (hbw3).trans (grown_below hg2 OW3.out (hbw3).size); rw [PLEN.out] at hown2; have OW2 := Lib.hid hown2; obtain ⟨a2, d2, rfl⟩ := ownsRow_slice hown2; clear hown2 hg2))
                        go_roundw
                        case rel =>
                          have ny := NX.out _ _ (.slice (some ⟨g, off, none⟩) 0 0) OW2.out (Rd.empty (by omega) (List.drop_eq_nil_of_le (by have := HL.out.1; omega)))
                          exact ⟨s.drop k, o ++ pl, _, 0, _, _, L6 + k, _, n + 0, rfl, rfl, by first | rfl | go_num, by omega, hbx, Lib.hid ny, Lib.hid ⟨by rw [List.length_drop, HL.out.1]; try omega, by rw [List.length_append, PLEN.out, HL.out.2]⟩⟩
                        case measure => simp [lenV] <;> (have := PP.out.2.1; omega)
                      · skip
                        go_wp2_with (first | (go_at_call 29; (with_reducible refine (IX.out).mono ?_); rintro e w' ⟨rfl, rfl⟩) | (go_at_call 29; (with_reducible refine (JX.out).mono ?_); rintro e w' ⟨rfl, rfl⟩) | (go_at_call 30; (with_reducible refine (FN.out).mono ?_); rintro e w3 ⟨rfl, hbw3, OW3⟩) | (at_builtin; go_loud (refine wp_apps 22 5 (.int .u8 0) 1 Tryd.underlying22 info_byte rfl w.heap.size (.slice a6 L6 c6) L6 (o.map (Value.int .u8)) rfl (.tmp 67) (.tmp 68) (by rfl) (by rfl) OW3.out (hbw3).size .u8 _ pl (by rfl) (RDP.out.below hbw3) (by rw [PLEN.out]; omega) (by decide) ?_); intro v2 w2 hown2 hg2 _; have hbx := (hbw3).trans (grown_below hg2 OW3.out (hbw3).size); rw [PLEN.out] at hown2; have OW2 := Lib.hid hown2; obtain ⟨a2, d2, rfl⟩ := ownsRow_slice hown2; clear hown2 hg2))
                        go_roundw
                        case rel =>
                          have ny := NX.out _ _ _ OW2.out (HP.out.rd.drop (m := k) (n' := (L - k)) (by have := PP.out.2.2; have := HL.out.1; omega) (by omega) rfl)
                          exact ⟨s.drop k, o ++ pl, _, (L - k), _, _, L6 + k, _, n + 0, rfl, rfl, by first | rfl | go_num, by omega, hbx, Lib.hid ny, Lib.hid ⟨by rw [List.length_drop, HL.out.1]; try omega, by rw [List.length_append, PLEN.out, HL.out.2]⟩⟩
                        case measure => simp [lenV] <;> (have := PP.out.2.1; omega)
                  | some tx =>
                    have PP : Hid (Pc ls (37 :: t) tx k 1) := Lib.hid (by have := pc_text (ls := ls) hy hj0 hj hf; rwa [hk] at this)
                    obtain ⟨T, hT⟩ : ∃ T, tx.length = T := ⟨_, rfl⟩
                    have PLEN : Hid (tx.length = T) := Lib.hid hT
                    have gT : T ≤ 400 := by rw [← hT]; exact find_len (fun p hp => (HG.out p hp).2.2.2) hf
                    have FN : Hid (Calls Tryd.prog 30 #[.slice (some ⟨g, off + 1, none⟩) (m - 1) (c - 1), .slice ap Lp cp] wr fun e w' => ∃ ta tc, e = .returned (.tuple #[.slice ta T tc, .bool true]) ∧ Below w.heap.size w w' ∧ Hid (w'.ownsRow w.heap.size 5 1 (.slice a6 L6 c6) L6 (o.map (Value.int .u8))) ∧ Hid (Rd w' .u8 (.slice ta T tc) tx)) := by
                      refine Lib.hid (FS.mono ?_)
                      rintro e w' ⟨hb, ⟨h1, _⟩ | ⟨tv, tx', h1, he, hr⟩⟩
                      · rw [hf] at h1; cases h1
                      · rw [hf] at h1
                        injection h1 with h1
                        subst h1
                        obtain ⟨ta, tc, rfl⟩ := hr.len
                        rw [hT] at he hr
                        exact ⟨ta, tc, he, below_then hbw hbw.size hb, Lib.hid (own_below OWN.out hb), Lib.hid hr⟩
                    obtain ⟨s, hs⟩ : ∃ s, 37 :: t = s := ⟨_, rfl⟩
                    rw [hs] at PP HP HL
                    clear hny hy hx0 hs hdy hj hf FS RN BN NL hm hk OWN hT
                    by_cases hth : most - (L6 : Int) < (T : Nat)
                    · have SV : Hid (subV ls most S = ([], -78)) := Lib.hid (HP.out.throw PP.out (by rw [PLEN.out, HL.out.2]; exact hth))
                      go_wp2_with (first | (go_at_call 29; (with_reducible refine (IX.out).mono ?_); rintro e w' ⟨rfl, rfl⟩) | (go_at_call 29; (with_reducible refine (JX.out).mono ?_); rintro e w' ⟨rfl, rfl⟩) | (go_at_call 30; (with_reducible refine (FN.out).mono ?_); rintro e w3 ⟨ta, tc, rfl, hbw3, OW3, RD3⟩))
                      go_ret2
                      exact ⟨hbw3, .slice none 0 0, by rw [SV.out] <;> rfl, by rw [SV.out]; exact Rd.nil _ _ _⟩
                    · have NX : Hid (∀ w2 v2 v', w2.ownsRow w.heap.size 5 1 v2 (L6 + T) (o.map (Value.int .u8) ++ tx.map (Value.int .u8)) → Rd w .u8 v' (s.drop k) → PS ls most S w w2 (s.drop k) (o ++ tx) v' v2 (n + 1)) := Lib.hid fun w2 v2 v' ho hr => HP.out.step PP.out (by rw [PLEN.out, HL.out.2]; omega) (by rw [PLEN.out, HL.out.2]; exact ho) hr
                      by_cases hcap : c = k
                      · skip
                        have hkL : k = L := by have := PP.out.2.2; have := HL.out.1; omega
                        subst hkL
                        have hkc : k = c := hcap.symm
                        subst hkc
                        go_wp2_with (first | (go_at_call 29; (with_reducible refine (IX.out).mono ?_); rintro e w' ⟨rfl, rfl⟩) | (go_at_call 29; (with_reducible refine (JX.out).mono ?_); rintro e w' ⟨rfl, rfl⟩) | (go_at_call 30; (with_reducible refine (FN.out).mono ?_); rintro e w3 ⟨ta, tc, rfl, hbw3, OW3, RD3⟩) | (at_builtin; go_loud (refine wp_apps 22 5 (.int .u8 0) 1 Tryd.underlying22 info_byte rfl w.heap.size (.slice a6 L6 c6) L6 (o.map (Value.int .u8)) rfl (.tmp 67) (.tmp 68) (by rfl) (by rfl) OW3.out (hbw3).size .u8 _ tx (by rfl) RD3.out (by rw [PLEN.out]; omega) (by decide) ?_); intro v2 w2 hown2 hg2 _; have hbx := (hbw3).trans (grown_below hg2 OW3.out (hbw3).size); rw [PLEN.out] at hown2; have OW2 := Lib.hid hown2; obtain ⟨a2, d2, rfl⟩ := ownsRow_slice hown2; clear hown2 hg2))
                        go_roundw
                        case rel =>
                          have ny := NX.out _ _ (.slice (some ⟨g, off, none⟩) 0 0) OW2.out (Rd.empty (by omega) (List.drop_eq_nil_of_le (by have := HL.out.1; omega)))
                          exact ⟨s.drop k, o ++ tx, _, 0, _, _, L6 + T, _, n + 1, rfl, rfl, by first | rfl | go_num, by omega, hbx, Lib.hid ny, Lib.hid ⟨by rw [List.length_drop, HL.out.1]; try omega, by rw [List.length_append, PLEN.out, HL.out.2]⟩⟩
                        case measure => simp [lenV] <;> (have := PP.out.2.1; omega)
                      · skip
                        go_wp2_with (first | (go_at_call 29; (with_reducible refine (IX.out).mono ?_); rintro e w' ⟨rfl, rfl⟩) | (go_at_call 29; (with_reducible refine (JX.out).mono ?_); rintro e w' ⟨rfl, rfl⟩) | (go_at_call 30; (with_reducible refine (FN.out).mono ?_); rintro e w3 ⟨ta, tc, rfl, hbw3, OW3, RD3⟩) | (at_builtin; go_loud (refine wp_apps 22 5 (.int .u8 0) 1 Tryd.underlying22 info_byte rfl w.heap.size (.slice a6 L6 c6) L6 (o.map (Value.int .u8)) rfl (.tmp 67) (.tmp 68) (by rfl) (by rfl) OW3.out (hbw3).size .u8 _ tx (by rfl) RD3.out (by rw [PLEN.out]; omega) (by decide) ?_); intro v2 w2 hown2 hg2 _; have hbx := (hbw3).trans (grown_below hg2 OW3.out (hbw3).size); rw [PLEN.out] at hown2; have OW2 := Lib.hid hown2; obtain ⟨a2, d2, rfl⟩ := ownsRow_slice hown2; clear hown2 hg2))
                        go_roundw
                        case rel =>
                          have ny := NX.out _ _ _ OW2.out (HP.out.rd.drop (m := k) (n' := (L - k)) (by have := PP.out.2.2; have := HL.out.1; omega) (by omega) rfl)
                          exact ⟨s.drop k, o ++ tx, _, (L - k), _, _, L6 + T, _, n + 1, rfl, rfl, by first | rfl | go_num, by omega, hbx, Lib.hid ny, Lib.hid ⟨by rw [List.length_drop, HL.out.1]; try omega, by rw [List.length_append, PLEN.out, HL.out.2]⟩⟩
                        case measure => simp [lenV] <;> (have := PP.out.2.1; omega)
          · rw [hx] at IX
            have PP : Hid (Pc ls s (s.take i) i 0) := Lib.hid (pc_front hn (by omega) (by have := HL.out.1; omega))
            have PLEN : Hid ((s.take i).length = i) := Lib.hid (by rw [List.length_take]; have := HL.out.1; omega)
            have RDP : Hid (Rd wr .u8 (.slice (some ⟨g, off, none⟩) i c) (s.take i)) := Lib.hid ((HP.out.rd.take (by omega)).below hbw)
            have IX := Lib.hid IX
            have q1 : (0 : Int) < i := by omega
            have q2 : ¬ (i : Int) = 0 := by omega
            have q3 : i ≤ c := by omega
            have q4 : (i : Int) ≤ c := by omega
            have q5 : i ≤ L := by omega
            have q6 : (i : Int) ≤ L := by omega
            obtain ⟨pl, hpl⟩ : ∃ pl, s.take i = pl := ⟨_, rfl⟩
            rw [hpl] at PP PLEN RDP
            clear hn hx hd hpl
            by_cases hth : most - (L6 : Int) < (i : Nat)
            · have SV : Hid (subV ls most S = ([], -78)) := Lib.hid (HP.out.throw PP.out (by rw [PLEN.out, HL.out.2]; exact hth))
              go_wp2_with (first | (go_at_call 29; (with_reducible refine (IX.out).mono ?_); rintro e w' ⟨rfl, rfl⟩))
              go_ret2
              exact ⟨hbw, .slice none 0 0, by rw [SV.out] <;> rfl, by rw [SV.out]; exact Rd.nil _ _ _⟩
            · have NX : Hid (∀ w2 v2 v', w2.ownsRow w.heap.size 5 1 v2 (L6 + i) (o.map (Value.int .u8) ++ pl.map (Value.int .u8)) → Rd w .u8 v' (s.drop i) → PS ls most S w w2 (s.drop i) (o ++ pl) v' v2 (n + 0)) := Lib.hid fun w2 v2 v' ho hr => HP.out.step PP.out (by rw [PLEN.out, HL.out.2]; omega) (by rw [PLEN.out, HL.out.2]; exact ho) hr
              by_cases hcap : c = i
              · skip
                omega
              · skip
                go_wp2_with (first | (go_at_call 29; (with_reducible refine (IX.out).mono ?_); rintro e w' ⟨rfl, rfl⟩) | (at_builtin; go_loud (refine wp_apps 22 5 (.int .u8 0) 1 Tryd.underlying22 info_byte rfl w.heap.size (.slice a6 L6 c6) L6 (o.map (Value.int .u8)) rfl (.tmp 67) (.tmp 68) (by rfl) (by rfl) OWN.out (hbw).size .u8 _ pl (by rfl) RDP.out (by rw [PLEN.out]; omega) (by decide) ?_); intro v2 w2 hown2 hg2 _; have hbx := (hbw).trans (grown_below hg2 OWN.out (hbw).size); rw [PLEN.out] at hown2; have OW2 := Lib.hid hown2; obtain ⟨a2, d2, rfl⟩ := ownsRow_slice hown2; clear hown2 hg2))
                go_roundw
                case rel =>
                  have ny := NX.out _ _ _ OW2.out (HP.out.rd.drop (m := i) (n' := (L - i)) (by have := PP.out.2.2; have := HL.out.1; omega) (by omega) rfl)
                  exact ⟨s.drop i, o ++ pl, _, (L - i), _, _, L6 + i, _, n + 0, rfl, rfl, by first | rfl | go_num, by omega, hbx, Lib.hid ny, Lib.hid ⟨by rw [List.length_drop, HL.out.1]; try omega, by rw [List.length_append, PLEN.out, HL.out.2]⟩⟩
                case measure => simp [lenV] <;> (have := PP.out.2.1; omega)
      · have hs0 : s = [] := List.eq_nil_of_length_eq_zero (by have := HL.out.1; omega)
        subst hs0
        have hL00 : L = 0 := by omega
        subst hL00
        have SV : Hid (subV ls most S = (o, (n : Int))) := Lib.hid HP.out.fin
        have RO : Hid (Rd wr .u8 (.slice a6 L6 c6) o) := Lib.hid (by have := HP.out.own; exact Rd.of_own this)
        clear HP
        go_wp2_with fail
        go_ret2
        exact ⟨hbw, .slice a6 L6 c6, by rw [SV.out] <;> rfl, by rw [SV.out]; exact RO.out⟩
end Go.Proofs.YtocmgdolinajmaaDoor
