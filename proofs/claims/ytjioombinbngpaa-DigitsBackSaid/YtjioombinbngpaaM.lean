/- The contract of the reference's Parse. -/
import Derived.Test.YtjioombinbngpaaL
namespace Go.Proofs.Ytjioombinbngpaa
set_option linter.unusedVariables false
set_option linter.unusedSimpArgs false
open Go.RowKit Go.Shelf

theorem neg_D (N : Int) : dlo (-(D (dlo N) (dhi N))) = dlo (-N) ∧ dhi (-(D (dlo N) (dhi N))) = dhi (-N) := by
  unfold D dlo dhi wrap64; exact ⟨by omega, by omega⟩
theorem rNeg_c (N : Int) (w : World) : Calls Try.prog 22 #[.int .i64 (dlo N), .int .i64 (dhi N)] w fun e w' =>
    e = .returned (.tuple #[.int .i64 (dlo (-N)), .int .i64 (dhi (-N))]) ∧ w = w' := by
  have c1 : Cell (dlo N) := by unfold Cell dlo wrap64; exact ⟨by omega, by omega⟩
  have c2 : Cell (dhi N) := by unfold Cell dhi wrap64; exact ⟨by omega, by omega⟩
  have H := Lib.hid (neg_D N)
  go_enter Try.func22, Try.ntmps22
  go_wp2_with (go_at_call 31; refine (rneg_c _ _ c1 c2 _).mono ?_; rintro e w' ⟨rfl, rfl⟩)
  go_ret2
  exact ⟨ret2 H.out.1 H.out.2, rfl⟩
theorem Rd.cons {w : World} {a : Option Addr} {n c : Nat} {x : Int} {t : List Int} (h : Rd w .u8 (.slice a n c) (x :: t)) : n = t.length + 1 ∧ n ≤ c ∧ ∃ g off, a = some ⟨g, off, none⟩ ∧ w.cell? ⟨g, off, none⟩ = some (.int .u8 x) ∧ ∀ i, i < (x :: t).length → w.cell? ⟨g, off + i, none⟩ = some (.int .u8 ((x :: t).getD i 0)) := by
  obtain ⟨a', c', e, hc, hr⟩ := h
  injection e with e1 e2 e3
  subst e1 e2 e3
  refine ⟨rfl, hc, ?_⟩
  rcases hr with h | ⟨g, off, rfl, hcl⟩
  · simp at h
  · exact ⟨g, off, rfl, by simpa using hcl 0 (by simp), hcl⟩
theorem Rd.snoc {w : World} {a : Option Addr} {n c : Nat} {x : Int} {t : List Int} (h : Rd w .u8 (.slice a n c) (t ++ [x])) : n = t.length + 1 ∧ n ≤ c ∧ ∃ g off, a = some ⟨g, off, none⟩ ∧ w.cell? ⟨g, off + t.length, none⟩ = some (.int .u8 x) ∧ ∀ i, i < t.length → w.cell? ⟨g, off + i, none⟩ = some (.int .u8 (t.getD i 0)) := by
  obtain ⟨a', c', e, hc, hr⟩ := h
  injection e with e1 e2 e3
  subst e1 e2 e3
  refine ⟨by simp, hc, ?_⟩
  rcases hr with h | ⟨g, off, rfl, hcl⟩
  · simp at h
  · refine ⟨g, off, rfl, ?_, fun i hi => ?_⟩
    · have := hcl t.length (by simp)
      simpa [List.getD_eq_getElem?_getD] using this
    · have := hcl i (by simp; omega)
      simpa [List.getD_eq_getElem?_getD, List.getElem?_append_left hi] using this
theorem nil_or_snoc (l : List Int) : l = [] ∨ ∃ t x, l = t ++ [x] := by
  rcases List.eq_nil_or_concat l with h | ⟨t, x, h⟩
  · exact .inl h
  · exact .inr ⟨t, x, by rw [h, List.concat_eq_append]⟩
theorem cutSb_snoc (k : Int) (t : List Int) (y : Int) : cutSb k (t ++ [y]) = decide (y = k) := by
  unfold cutSb
  rw [List.getLast?_append, List.getLast?_singleton]
  rw [Bool.eq_iff_iff]
  simp
theorem Rd.nilv {w : World} {a : Option Addr} {n c : Nat} (h : Rd w .u8 (.slice a n c) []) : n = 0 := by
  obtain ⟨a', c', e, hc, hr⟩ := h
  injection e with e1 e2 e3
set_option maxRecDepth 100000 in
set_option maxHeartbeats 2000000 in
theorem rparse_c (b : Int) (v : Value) (s : List Int) (w : World) (hr : Rd w .u8 v s) (hb : Byt s) (hs : s.length ≤ 9223372036854775807) :
    Calls Try.prog 10 #[v, .int .i64 b] w fun e w' => e = .returned (pnum s b) ∧ Below w.heap.size w w' := by
  have hr0 := hr
  obtain ⟨a, c, rfl, hc, hcell⟩ := hr
  obtain ⟨V, hV⟩ : ∃ V, pnum s b = V := ⟨_, rfl⟩
  rw [hV]
  have HV := Lib.hid hV
  clear hV
  obtain ⟨q, hq⟩ : ∃ q, decide (s.length = 3 ∧ s.getD 0 0 = 39 ∧ s.getD 2 0 = 39) = q := ⟨_, rfl⟩
  have HQ := Lib.hid hq
  clear hq
  go_enter Try.func10, Try.ntmps10
  go_upto_region 1 with (fail)
  go_cut [24] (fun v24 wc => v24 = .bool q ∧ w.alloc (.cells #[.int .i64 0, .int .i64 0, .int .i64 0] 24) = wc)
  case first =>
    by_cases h3 : s.length = 3
    · obtain ⟨g, off, rfl, hcl⟩ : ∃ g off, a = some ⟨g, off, none⟩ ∧ ∀ i, i < s.length → w.cell? ⟨g, off + i, none⟩ = some (.int .u8 (s.getD i 0)) := by
        rcases hcell with h | h
        · rw [h] at h3; simp at h3
        · exact h
      have c0 := hcl 0 (by omega)
      have c2 := hcl 2 (by omega)
      obtain ⟨x, hx⟩ : ∃ x, s.getD 0 0 = x := ⟨_, rfl⟩
      obtain ⟨z, hz⟩ : ∃ x, s.getD 2 0 = x := ⟨_, rfl⟩
      rw [hx] at c0
      rw [hz] at c2
      simp only [Nat.add_zero] at c0
      have HX := Lib.hid hx
      have HZ := Lib.hid hz
      have c0' := Lib.cell?_alloc_marked (.cells #[.int .i64 0, .int .i64 0, .int .i64 0] 24) c0
      have c2' := Lib.cell?_alloc_marked (.cells #[.int .i64 0, .int .i64 0, .int .i64 0] 24) c2
      clear hx hz hcl hcell hr0
      have t : ((s.length : Int) == 3) = true := by rw [h3]; rfl
      have l3 : 2 < s.length := by omega
      have H3 := Lib.hid h3
      clear h3
      by_cases x0 : x = 39
      · have x1 := beq_of x0
        clear x0
        by_cases z0 : z = 39
        · have z1 := beq_of z0
          have Z0 := Lib.hid z0
          clear z0
          go_wp2
          go_meet
          case rel => exact ⟨by rw [← HQ.out]; exact congrArg Value.bool (decide_eq_true ⟨H3.out, HX.out.trans (by simpa using x1), HZ.out.trans Z0.out⟩).symm, rfl⟩
        · have z1 := beq_no z0
          go_wp2
          go_meet
          case rel => exact ⟨by rw [← HQ.out]; exact congrArg Value.bool (decide_eq_false (fun h => z0 (HZ.out.symm.trans h.2.2))).symm, rfl⟩
      · have x1 := beq_no x0
        go_wp2
        go_meet
        case rel => exact ⟨by rw [← HQ.out]; exact congrArg Value.bool (decide_eq_false (fun h => x0 (HX.out.symm.trans h.2.1))).symm, rfl⟩
    · have t4 : ((s.length : Int) == 3) = false := by simp; omega
      go_wp2
      go_meet
      case rel => exact ⟨by rw [← HQ.out]; exact congrArg Value.bool (decide_eq_false (fun h => h3 h.1)).symm, rfl⟩
  case rest =>
    obtain ⟨rfl, rfl⟩ := hcut
    cases q
    case true =>
      have h := of_decide_eq_true HQ.out
      obtain ⟨g, off, rfl, hcl⟩ : ∃ g off, a = some ⟨g, off, none⟩ ∧ ∀ i, i < s.length → w.cell? ⟨g, off + i, none⟩ = some (.int .u8 (s.getD i 0)) := by
        rcases hcell with hh | hh
        · rw [hh] at h; simp at h
        · exact hh
      have c1 := hcl 1 (by omega)
      have E : pnum s b = .agg #[.int .i64 1, .int .i64 (s.getD 1 0), .int .i64 0] := by unfold pnum; rw [if_pos h]
      have by1 := hb (s.getD 1 0) (by have h1 : 1 < s.length := by omega
                                      simp [List.getD_eq_getElem?_getD, List.getElem?_eq_getElem h1])
      rw [HV.out] at E
      obtain ⟨y, hy⟩ : ∃ x, s.getD 1 0 = x := ⟨_, rfl⟩
      rw [hy] at c1 by1 E
      have EH := Lib.hid E
      have c1' := Lib.cell?_alloc_marked (.cells #[.int .i64 0, .int .i64 0, .int .i64 0] 24) c1
      have y0 := by1.1
      have y1 := by1.2
      have l3 : 1 < s.length := by omega
      clear E h hcl hcell hr0 hy by1
      go_wp2
      exact bodyPost_ret (v := .agg #[.int .i64 1, .int .i64 y, .int .i64 0]) (by simp [results, Try.results10, go_sem]) rfl ⟨by rw [EH.out], by repeat (first | exact Below.refl _ _ | assumption | refine Below.alloc ?_ (by first | exact Nat.le_refl _ | (simp; done) | (simp; omega)) _ | refine Below.setCell ?_ (Nat.le_refl _) _)⟩
    case false =>
      have hr1 := hr0.below ((Below.refl _ w).alloc (Nat.le_refl _) (.cells #[.int .i64 0, .int .i64 0, .int .i64 0] 24))
      clear hcell
      cases s with
      | nil =>
        have E : pnum [] b = .agg #[.int .i64 0, .int .i64 0, .int .i64 0] := by
          unfold pnum
          rw [if_neg (by simp), pk_pkv]
          exact pkv_zero (.inl (by simp [prefS, cutP, cutS, moU]))
        rw [HV.out] at E
        have EH := Lib.hid E
        clear E
        have n0 := hr1.nilv
        go_wp2
        exact bodyPost_ret (v := .agg #[.int .i64 0, .int .i64 0, .int .i64 0]) (by simp [results, Try.results10, go_sem]) rfl ⟨by rw [EH.out], by repeat (first | exact Below.refl _ _ | assumption | refine Below.alloc ?_ (by first | exact Nat.le_refl _ | (simp; done) | (simp; omega)) _ | refine Below.setCell ?_ (Nat.le_refl _) _)⟩
      | cons x t =>
        have hr2 := hr1
        obtain ⟨_, hcc, g, off, rfl, c0, hcl⟩ := hr1.cons
        clear hr0 hc
        simp only [List.length_cons] at hr2 hcc hs
        go_upto_block 0 with (fail)
        go_cut [0, 1] (fun v0 v1 wc => (Rd (w.alloc (.cells #[.int .i64 0, .int .i64 0, .int .i64 0] 24)) .u8 v0 (prefS (x :: t)) ∧ v1 = .int .i64 (prefB b (x :: t))) ∧ w.alloc (.cells #[.int .i64 0, .int .i64 0, .int .i64 0] 24) = wc)
        case first =>
          by_cases x1 : x = 35
          · subst x1
            go_wp2
            all_goals go_meet
            all_goals (case rel => exact ⟨⟨by simp only [prefS, true_or, if_true]; first | exact Rd.tail0 (a := none) rfl (by omega) | exact Rd.tail hcl (by omega) rfl, val_int (by simp [prefB])⟩, rfl⟩)
          · by_cases x2 : x = 36
            · subst x2
              go_wp2
              all_goals go_meet
              all_goals (case rel => exact ⟨⟨by simp only [prefS, true_or, or_true, if_true]; first | exact Rd.tail0 (a := none) rfl (by omega) | exact Rd.tail hcl (by omega) rfl, val_int (by simp [prefB])⟩, rfl⟩)
            · by_cases x3 : x = 37
              · subst x3
                go_wp2
                all_goals go_meet
                all_goals (case rel => exact ⟨⟨by simp only [prefS, true_or, or_true, if_true]; first | exact Rd.tail0 (a := none) rfl (by omega) | exact Rd.tail hcl (by omega) rfl, val_int (by simp [prefB])⟩, rfl⟩)
              · go_wp2
                go_meet
                case rel => exact ⟨⟨by simp only [prefS]; rw [if_neg (by omega)]; exact hr2, val_int (by simp only [prefB]; rw [if_neg x1, if_neg x2, if_neg x3])⟩, rfl⟩
        case rest =>
          obtain ⟨⟨hp, rfl⟩, rfl⟩ := hcut
          have E : pnum (x :: t) b = pk (cutPb 45 (prefS (x :: t))) (cutSb 46 (cutP 45 (prefS (x :: t)))) (prefB b (x :: t)) (cutS 46 (cutP 45 (prefS (x :: t)))) := by
            unfold pnum
            rw [if_neg (by simpa using HQ.out)]
          rw [HV.out] at E
          have hb1 := (prefS_sub (x :: t)).1 hb
          have hl1 := (prefS_sub (x :: t)).2
          simp only [List.length_cons] at hl1
          obtain ⟨b1, hb1'⟩ : ∃ b1, prefB b (x :: t) = b1 := ⟨_, rfl⟩
          obtain ⟨p1, hp1⟩ : ∃ p1, prefS (x :: t) = p1 := ⟨_, rfl⟩
          rw [hb1'] at E ⊢
          rw [hp1] at E hp hb1 hl1
          have E1 := Lib.hid E
          clear E hb1' hp1 HQ HV hr1 hr2 c0 hcl hb
          obtain ⟨a1, c1, rfl⟩ := hp.len
          have hl1' : p1.length ≤ 9223372036854775807 := by omega
          clear hl1
          obtain ⟨neg, hneg⟩ : ∃ x, cutPb 45 p1 = x := ⟨_, rfl⟩
          have HNEG := Lib.hid hneg
          clear hneg
          go_upto_region 15 with (fail)
          go_cut [5] (fun v5 wc => v5 = .bool neg ∧ (w.alloc (.cells #[.int .i64 0, .int .i64 0, .int .i64 0] 24)) = wc)
          case first =>
            cases p1 with
            | nil =>
              go_wp2
              go_meet
              case rel => exact ⟨by rw [← HNEG.out]; rfl, rfl⟩
            | cons y t1 =>
              obtain ⟨_, hc1, g1, off1, rfl, d0, dcl⟩ := hp.cons
              by_cases y0 : y = 45
              · have y1 := beq_of y0
                have Y := Lib.hid y0
                clear y0
                go_wp2
                go_meet
                case rel => exact ⟨by rw [← HNEG.out]; exact congrArg Value.bool (decide_eq_true Y.out).symm, rfl⟩
              · have y1 := beq_no y0
                go_wp2
                go_meet
                case rel => exact ⟨by rw [← HNEG.out]; exact congrArg Value.bool (decide_eq_false y0).symm, rfl⟩
          case rest =>
            obtain ⟨rfl, rfl⟩ := hcut
            go_upto_if 58 with (fail)
            go_cut [0] (fun v0 wc => Rd (w.alloc (.cells #[.int .i64 0, .int .i64 0, .int .i64 0] 24)) .u8 v0 (cutP 45 p1) ∧ (w.alloc (.cells #[.int .i64 0, .int .i64 0, .int .i64 0] 24)) = wc)
            case first =>
              cases neg
              · go_wp2
                go_meet
                case rel =>
                  refine ⟨?_, rfl⟩
                  cases p1 with
                  | nil => exact hp
                  | cons y t1 => simp only [cutP]; rw [if_neg (of_decide_eq_false HNEG.out)]; exact hp
              · cases p1 with
                | nil => exact absurd HNEG.out (by simp [cutPb])
                | cons y t1 =>
                  obtain ⟨_, hc1, g1, off1, rfl, d0, dcl⟩ := hp.cons
                  go_wp2
                  all_goals go_meet
                  all_goals (case rel => exact ⟨by simp only [cutP]; rw [if_pos (of_decide_eq_true HNEG.out)]; first | exact Rd.tail0 (a := none) rfl (by simp only [List.length_cons] at hc1; omega) | exact Rd.tail dcl (by simp only [List.length_cons] at hc1; omega) rfl, rfl⟩)
            case rest =>
              obtain ⟨hp2, rfl⟩ := hcut
              have hb2 := (cutP_sub 45 p1).1 hb1
              have hl2 := (cutP_sub 45 p1).2
              have E := E1.out
              rw [HNEG.out] at E
              obtain ⟨p2, hpp⟩ : ∃ p2, cutP 45 p1 = p2 := ⟨_, rfl⟩
              rw [hpp] at E hp2 hb2 hl2
              have E2 := Lib.hid E
              clear E E1 hpp HNEG hp hb1
              obtain ⟨a2, c2, rfl⟩ := hp2.len
              have hl2' : p2.length ≤ 9223372036854775807 := by omega
              clear hl1' hl2
              obtain ⟨dbl, hdbl⟩ : ∃ x, cutSb 46 p2 = x := ⟨_, rfl⟩
              have HDBL := Lib.hid hdbl
              clear hdbl
              go_upto_region 19 with (fail)
              go_cut [72] (fun v72 wc => v72 = .bool dbl ∧ (w.alloc (.cells #[.int .i64 0, .int .i64 0, .int .i64 0] 24)) = wc)
              case first =>
                rcases nil_or_snoc p2 with rfl | ⟨t2, y, rfl⟩
                · go_wp2
                  go_meet
                  case rel => exact ⟨by rw [← HDBL.out]; rfl, rfl⟩
                · obtain ⟨_, hc2, g2, off2, rfl, d0, dcl⟩ := hp2.snoc
                  simp only [List.length_append, List.length_singleton] at hl2'
                  have E3 : cutSb 46 (t2 ++ [y]) = decide (y = 46) := cutSb_snoc 46 t2 y
                  have E4 := Lib.hid (E3.symm.trans HDBL.out)
                  clear E3
                  by_cases y0 : y = 46
                  · have y1 := beq_of y0
                    have Y := Lib.hid y0
                    clear y0
                    go_wp2
                    go_meet
                    case rel => exact ⟨by rw [← E4.out]; exact congrArg Value.bool (decide_eq_true Y.out).symm, rfl⟩
                  · have y1 := beq_no y0
                    go_wp2
                    go_meet
                    case rel => exact ⟨by rw [← E4.out]; exact congrArg Value.bool (decide_eq_false y0).symm, rfl⟩
              case rest =>
                obtain ⟨rfl, rfl⟩ := hcut
                go_upto_if 72 with (fail)
                go_cut [0, 6] (fun v0 v6 wc => (Rd (w.alloc (.cells #[.int .i64 0, .int .i64 0, .int .i64 0] 24)) .u8 v0 (cutS 46 p2) ∧ v6 = .int .i64 (if dbl then 2 else 1)) ∧ (w.alloc (.cells #[.int .i64 0, .int .i64 0, .int .i64 0] 24)) = wc)
                case first =>
                  cases dbl
                  · go_wp2
                    go_meet
                    case rel => exact ⟨⟨by unfold cutS; rw [if_neg (by simpa [cutSb] using HDBL.out)]; exact hp2, rfl⟩, rfl⟩
                  · have hh : p2.getLast? = some 46 := by simpa [cutSb] using HDBL.out
                    rcases nil_or_snoc p2 with rfl | ⟨t2, y, rfl⟩
                    · simp at hh
                    · obtain ⟨_, hc2, g2, off2, rfl, d0, dcl⟩ := hp2.snoc
                      simp only [List.length_append, List.length_singleton] at hl2' hc2
                      have E3 : cutS 46 (t2 ++ [y]) = t2 := by unfold cutS; rw [if_pos hh, List.dropLast_concat]
                      have E4 := Lib.hid E3
                      clear E3 hh
                      go_wp2
                      go_meet
                      case rel => exact ⟨⟨by rw [E4.out]; exact Rd.mk g2 off2 (by simp) (by omega) dcl, rfl⟩, rfl⟩
                case rest =>
                  obtain ⟨⟨hp3, rfl⟩, rfl⟩ := hcut
                  have hb3 := (cutS_sub 46 p2).1 hb2
                  have hl3 := (cutS_sub 46 p2).2
                  have E := E2.out
                  rw [HDBL.out] at E
                  obtain ⟨p3, hpp⟩ : ∃ p3, cutS 46 p2 = p3 := ⟨_, rfl⟩
                  rw [hpp] at E hp3 hb3 hl3
                  obtain ⟨N, hN⟩ : ∃ x, moN b1 0 p3 = x := ⟨_, rfl⟩
                  obtain ⟨z, hz⟩ : ∃ x, moU b1 p3 = x := ⟨_, rfl⟩
                  obtain ⟨n, hn⟩ : ∃ x, p3.length = x := ⟨_, rfl⟩
                  have hq3 := hp3
                  obtain ⟨a3, c3, rfl⟩ := hp3.len
                  rw [hn] at hq3 ⊢
                  have zr := moU_range b1 p3
                  rw [hz, hn] at zr
                  rw [pk_pkv, hz, hn, hN] at E
                  have EH := Lib.hid E
                  have HN := Lib.hid hN
                  have HZ := Lib.hid hz
                  have HL := Lib.hid hn
                  replace hl3 : p3.length ≤ 9223372036854775807 := by omega
                  clear E E2 hpp HDBL hp2 hb2 hp3 hN hz hn hl2'
                  by_cases z0 : z = 0
                  · have z1 := beq_of z0
                    clear z0
                    go_wp2_with (go_at_call 13; refine (rmore0_c _ _ p3 z n N HZ.out HL.out HN.out _ hq3 hb3 hl3).mono ?_; rintro e w' ⟨rfl, rfl⟩)
                    all_goals exact bodyPost_ret (v := .agg #[.int .i64 0, .int .i64 0, .int .i64 0]) (by simp [results, Try.results10, go_sem]) rfl ⟨by rw [EH.out, pkv_zero (.inl (by simpa using z1))], by repeat (first | exact Below.refl _ _ | assumption | refine Below.alloc ?_ (by first | exact Nat.le_refl _ | (simp; done) | (simp; omega)) _ | refine Below.setCell ?_ (Nat.le_refl _) _)⟩
                  · by_cases z2 : z < n
                    · have z1 := beq_no z0
                      go_wp2_with (go_at_call 13; refine (rmore0_c _ _ p3 z n N HZ.out HL.out HN.out _ hq3 hb3 hl3).mono ?_; rintro e w' ⟨rfl, rfl⟩)
                      all_goals exact bodyPost_ret (v := .agg #[.int .i64 0, .int .i64 0, .int .i64 0]) (by simp [results, Try.results10, go_sem]) rfl ⟨by rw [EH.out, pkv_zero (.inr z2)], by repeat (first | exact Below.refl _ _ | assumption | refine Below.alloc ?_ (by first | exact Nat.le_refl _ | (simp; done) | (simp; omega)) _ | refine Below.setCell ?_ (Nat.le_refl _) _)⟩
                    · have z1 := beq_no z0
                      have z3 : (n : Int) ≤ z := by omega
                      cases dbl <;> cases neg
                      · go_wp2_with (first
                          | (go_at_call 13; refine (rmore0_c _ _ p3 z n N HZ.out HL.out HN.out _ hq3 hb3 hl3).mono ?_; rintro e w' ⟨rfl, rfl⟩)
                          | (go_at_call 22; refine (rNeg_c N _).mono ?_; rintro e w' ⟨rfl, rfl⟩))
                        exact bodyPost_ret (v := .agg #[.int .i64 1, .int .i64 (dlo N), .int .i64 0]) (by simp [results, Try.results10, go_sem]) rfl ⟨by rw [EH.out, pkv_one (neg := false) (a := dlo N) z0 z3 rfl], by repeat (first | exact Below.refl _ _ | assumption | refine Below.alloc ?_ (by first | exact Nat.le_refl _ | (simp; done) | (simp; omega)) _ | refine Below.setCell ?_ (Nat.le_refl _) _)⟩
                      · go_wp2_with (first
                          | (go_at_call 13; refine (rmore0_c _ _ p3 z n N HZ.out HL.out HN.out _ hq3 hb3 hl3).mono ?_; rintro e w' ⟨rfl, rfl⟩)
                          | (go_at_call 22; refine (rNeg_c N _).mono ?_; rintro e w' ⟨rfl, rfl⟩))
                        exact bodyPost_ret (v := .agg #[.int .i64 1, .int .i64 (dlo (-N)), .int .i64 0]) (by simp [results, Try.results10, go_sem]) rfl ⟨by rw [EH.out, pkv_one (neg := true) (a := dlo (-N)) z0 z3 rfl], by repeat (first | exact Below.refl _ _ | assumption | refine Below.alloc ?_ (by first | exact Nat.le_refl _ | (simp; done) | (simp; omega)) _ | refine Below.setCell ?_ (Nat.le_refl _) _)⟩
                      · go_wp2_with (first
                          | (go_at_call 13; refine (rmore0_c _ _ p3 z n N HZ.out HL.out HN.out _ hq3 hb3 hl3).mono ?_; rintro e w' ⟨rfl, rfl⟩)
                          | (go_at_call 22; refine (rNeg_c N _).mono ?_; rintro e w' ⟨rfl, rfl⟩))
                        exact bodyPost_ret (v := .agg #[.int .i64 2, .int .i64 (dlo N), .int .i64 (dhi N)]) (by simp [results, Try.results10, go_sem]) rfl ⟨by rw [EH.out, pkv_dbl (neg := false) (a := dlo N) (b := dhi N) z0 z3 rfl rfl], by repeat (first | exact Below.refl _ _ | assumption | refine Below.alloc ?_ (by first | exact Nat.le_refl _ | (simp; done) | (simp; omega)) _ | refine Below.setCell ?_ (Nat.le_refl _) _)⟩
                      · go_wp2_with (first
                          | (go_at_call 13; refine (rmore0_c _ _ p3 z n N HZ.out HL.out HN.out _ hq3 hb3 hl3).mono ?_; rintro e w' ⟨rfl, rfl⟩)
                          | (go_at_call 22; refine (rNeg_c N _).mono ?_; rintro e w' ⟨rfl, rfl⟩))
                        exact bodyPost_ret (v := .agg #[.int .i64 2, .int .i64 (dlo (-N)), .int .i64 (dhi (-N))]) (by simp [results, Try.results10, go_sem]) rfl ⟨by rw [EH.out, pkv_dbl (neg := true) (a := dlo (-N)) (b := dhi (-N)) z0 z3 rfl rfl], by repeat (first | exact Below.refl _ _ | assumption | refine Below.alloc ?_ (by first | exact Nat.le_refl _ | (simp; done) | (simp; omega)) _ | refine Below.setCell ?_ (Nat.le_refl _) _)⟩
end Go.Proofs.Ytjioombinbngpaa
