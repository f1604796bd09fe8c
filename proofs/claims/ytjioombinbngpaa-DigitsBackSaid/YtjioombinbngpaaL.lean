/- Contracts of digits.Parse and of the reference's. -/
import Derived.Test.YtjioombinbngpaaJ
import Derived.Lib.SlBytesConst
namespace Go.Proofs.Ytjioombinbngpaa
set_option linter.unusedVariables false
set_option linter.unusedSimpArgs false
open Go.RowKit Go.Shelf

def pk (neg dbl : Bool) (b : Int) (s : List Int) : Value :=
  if moU b s = 0 ∨ moU b s < s.length then .agg #[.int .i64 0, .int .i64 0, .int .i64 0]
  else if dbl then .agg #[.int .i64 2, .int .i64 (dlo (sg neg (moN b 0 s))), .int .i64 (dhi (sg neg (moN b 0 s)))]
  else .agg #[.int .i64 1, .int .i64 (dlo (sg neg (moN b 0 s))), .int .i64 0]
def pnum (s : List Int) (b : Int) : Value :=
  if s.length = 3 ∧ s.getD 0 0 = 39 ∧ s.getD 2 0 = 39 then .agg #[.int .i64 1, .int .i64 (s.getD 1 0), .int .i64 0]
  else pk (cutPb 45 (prefS s)) (cutSb 46 (cutP 45 (prefS s))) (prefB b s) (cutS 46 (cutP 45 (prefS s)))

theorem prefS_sub (s : List Int) : (Byt s → Byt (prefS s)) ∧ (prefS s).length ≤ s.length := by
  cases s with
  | nil => exact ⟨id, Nat.le_refl _⟩
  | cons x t =>
    simp only [prefS]
    split
    · exact ⟨fun h z hz => h z (List.mem_cons_of_mem _ hz), by simp⟩
    · exact ⟨id, Nat.le_refl _⟩
theorem cutP_sub (y : Int) (s : List Int) : (Byt s → Byt (cutP y s)) ∧ (cutP y s).length ≤ s.length := by
  cases s with
  | nil => exact ⟨id, Nat.le_refl _⟩
  | cons x t =>
    simp only [cutP]
    split
    · exact ⟨fun h z hz => h z (List.mem_cons_of_mem _ hz), by simp⟩
    · exact ⟨id, Nat.le_refl _⟩
theorem cutS_sub (y : Int) (s : List Int) : (Byt s → Byt (cutS y s)) ∧ (cutS y s).length ≤ s.length := by
  unfold cutS
  split
  · exact ⟨fun h z hz => h z (List.dropLast_subset _ hz), by simp⟩
  · exact ⟨id, Nat.le_refl _⟩

theorem conv1 (w : World) (y : Int) (N : Nat) (h : w.heap.size = N) : (convert 22 22 (.slice (some ⟨N, 0, none⟩) 1 1)).run Try.prog (w.alloc (.cells #[.int .u8 y] 5)) = .ok (.slice (some ⟨N, 0, none⟩) 1 1) (w.alloc (.cells #[.int .u8 y] 5 (1, 2))) := by
  subst h
  exact Go.Lib.run_convert_bytes_const w 22 5 #[.int .u8 y] 1 1 (by first | rfl | decide) (by first | rfl | decide)
theorem cell_new (w : World) (v : Value) (t : TypeId) (m : Nat × Nat) (N : Nat) (h : w.heap.size = N) : (w.alloc (.cells #[v] t m)).cell? ⟨N, 0, none⟩ = some v := by
  subst h
  rw [World.cell?_alloc_mark]
  rfl
theorem cutprefix_b (v : Value) (s : List Int) (y : Int) (bb : Bool) (hbb : cutPb y s = bb) (b2 o2 d : Nat) (w : World) (hr : Rd w .u8 v s) (hb : Byt s) (hy : 0 ≤ y ∧ y < 256) (h2 : w.cell? ⟨b2, o2, none⟩ = some (.int .u8 y)) :
    Calls Try.prog 19 #[v, .slice (some ⟨b2, o2, none⟩) 1 d] w fun e w' =>
      (∃ u, e = .returned (.tuple #[u, .bool bb]) ∧ Rd w .u8 u (cutP y s)) ∧ w = w' := by
  subst hbb; exact cutprefix_c v s y b2 o2 d w hr hb hy h2
theorem cutsuffix_b (v : Value) (s : List Int) (y : Int) (bb : Bool) (hbb : cutSb y s = bb) (b2 o2 d : Nat) (w : World) (hr : Rd w .u8 v s) (hb : Byt s) (hs : s.length ≤ 9223372036854775807) (hy : 0 ≤ y ∧ y < 256) (h2 : w.cell? ⟨b2, o2, none⟩ = some (.int .u8 y)) :
    Calls Try.prog 20 #[v, .slice (some ⟨b2, o2, none⟩) 1 d] w fun e w' =>
      (∃ u, e = .returned (.tuple #[u, .bool bb]) ∧ Rd w .u8 u (cutS y s)) ∧ w = w' := by
  subst hbb; exact cutsuffix_c v s y b2 o2 d w hr hb hs hy h2
theorem more0_c (b : Int) (v : Value) (s : List Int) (u : Int) (n : Nat) (N : Int) (hu : moU b s = u) (hn : s.length = n) (hN : moN b 0 s = N) (w : World) (hr : Rd w .u8 v s) (hb : Byt s) (hs : s.length ≤ 9223372036854775807) :
    Calls Try.prog 12 #[.int .i64 0, .int .i64 0, v, .int .i64 b] w fun e w' =>
      e = .returned (.tuple #[.int .i64 (dlo N), .int .i64 (dhi N), .int .i64 u]) ∧ w = w' := by
  subst hu hN
  exact more_c 0 0 b v s w ⟨by omega, by omega⟩ ⟨by omega, by omega⟩ hr hb hs
theorem rmore0_c (b : Int) (v : Value) (s : List Int) (u : Int) (n : Nat) (N : Int) (hu : moU b s = u) (hn : s.length = n) (hN : moN b 0 s = N) (w : World) (hr : Rd w .u8 v s) (hb : Byt s) (hs : s.length ≤ 9223372036854775807) :
    Calls Try.prog 13 #[.int .i64 0, .int .i64 0, v, .int .i64 b] w fun e w' =>
      e = .returned (.tuple #[.int .i64 (dlo N), .int .i64 (dhi N), .int .i64 u]) ∧ w = w' := by
  subst hu hN
  exact rmore_c 0 0 b v s w ⟨by omega, by omega⟩ ⟨by omega, by omega⟩ hr hb hs
def pkv (neg dbl : Bool) (u : Int) (n : Nat) (N : Int) : Value :=
  if u = 0 ∨ u < n then .agg #[.int .i64 0, .int .i64 0, .int .i64 0]
  else if dbl then .agg #[.int .i64 2, .int .i64 (dlo (sg neg N)), .int .i64 (dhi (sg neg N))]
  else .agg #[.int .i64 1, .int .i64 (dlo (sg neg N)), .int .i64 0]
theorem pkv_zero {neg dbl : Bool} {u : Int} {n : Nat} {N : Int} (h : u = 0 ∨ u < n) : pkv neg dbl u n N = .agg #[.int .i64 0, .int .i64 0, .int .i64 0] := by unfold pkv; rw [if_pos h]
theorem pkv_dbl {neg : Bool} {u : Int} {n : Nat} {N a b : Int} (h : ¬ u = 0) (g : (n : Int) ≤ u) (ha : a = dlo (sg neg N)) (hb : b = dhi (sg neg N)) : pkv neg true u n N = .agg #[.int .i64 2, .int .i64 a, .int .i64 b] := by
  unfold pkv; rw [if_neg (by omega), ha, hb]; rfl
theorem pkv_one {neg : Bool} {u : Int} {n : Nat} {N a : Int} (h : ¬ u = 0) (g : (n : Int) ≤ u) (ha : a = dlo (sg neg N)) : pkv neg false u n N = .agg #[.int .i64 1, .int .i64 a, .int .i64 0] := by
  unfold pkv; rw [if_neg (by omega), ha]; rfl
theorem neg_words (N : Int) (h0 : 0 ≤ N) (h1 : N < M2) : wrap64 ((0 - IntKind.u64.wrap (dlo N)) % 18446744073709551616) = dlo (-N) ∧ wrap64 ((0 - IntKind.u64.wrap (dhi N) - bor 0 (IntKind.u64.wrap (dlo N))) % 18446744073709551616) = dhi (-N) := by
  unfold M2 at h1
  rw [IntKind.wrap_u64, IntKind.wrap_u64]
  unfold dlo dhi bor wrap64
  exact ⟨by omega, by split <;> omega⟩
theorem pk_pkv (neg dbl : Bool) (b : Int) (s : List Int) : pk neg dbl b s = pkv neg dbl (moU b s) s.length (moN b 0 s) := rfl
theorem Rd.len {w : World} {k : IntKind} {v : Value} {l : List Int} (h : Rd w k v l) : ∃ a c, v = .slice a l.length c := by
  obtain ⟨a, c, rfl, _⟩ := h; exact ⟨a, c, rfl⟩
set_option maxRecDepth 100000 in
set_option maxHeartbeats 2000000 in
theorem parse_c (b : Int) (v : Value) (s : List Int) (w : World) (hr : Rd w .u8 v s) (hb : Byt s) (hs : s.length ≤ 9223372036854775807) :
    Calls Try.prog 9 #[v, .int .i64 b] w fun e w' => e = .returned (pnum s b) ∧ Below w.heap.size w w' := by
  have hr0 := hr
  obtain ⟨a, c, rfl, hc, hcell⟩ := hr
  obtain ⟨V, hV⟩ : ∃ V, pnum s b = V := ⟨_, rfl⟩
  rw [hV]
  have HV := Lib.hid hV
  clear hV
  obtain ⟨q, hq⟩ : ∃ q, decide (s.length = 3 ∧ s.getD 0 0 = 39 ∧ s.getD 2 0 = 39) = q := ⟨_, rfl⟩
  have HQ := Lib.hid hq
  clear hq
  go_enter Try.func9, Try.ntmps9
  go_upto_region 1 with (fail)
  go_cut [28] (fun v28 wc => v28 = .bool q ∧ w.alloc (.cells #[.int .i64 0, .int .i64 0, .int .i64 0] 24) = wc)
  case first =>
    by_cases h3 : s.length = 3
    · obtain ⟨g, off, rfl, hcl⟩ : ∃ g off, a = some ⟨g, off, none⟩ ∧ ∀ i, i < s.length → w.cell? ⟨g, off + i, none⟩ = some (.int .u8 (s.getD i 0)) := by
        rcases hcell with h | h
        · rw [h] at h3; simp at h3
        · exact h
      have c0 := hcl 0 (by omega)
      have c2 := hcl 2 (by omega)
      obtain ⟨x, hx⟩ : ∃ x, s.getD 0 0 = x := ⟨_, rfl⟩
      obtain ⟨z, hz⟩ : ∃ x, s.getD 2 0 = x := ⟨_, rfl⟩
      rw [hx] at c0
      rw [hz] at c2
      simp only [Nat.add_zero] at c0
      have HX := Lib.hid hx
      have HZ := Lib.hid hz
      have c0' := Lib.cell?_alloc_marked (.cells #[.int .i64 0, .int .i64 0, .int .i64 0] 24) c0
      have c2' := Lib.cell?_alloc_marked (.cells #[.int .i64 0, .int .i64 0, .int .i64 0] 24) c2
      clear hx hz hcl hcell hr0
      have t : ((s.length : Int) == 3) = true := by rw [h3]; rfl
      have l3 : 2 < s.length := by omega
      have H3 := Lib.hid h3
      clear h3
      by_cases x0 : x = 39
      · have x1 := beq_of x0
        clear x0
        by_cases z0 : z = 39
        · have z1 := beq_of z0
          have Z0 := Lib.hid z0
          clear z0
          go_wp2
          go_meet
          case rel => exact ⟨by rw [← HQ.out]; exact congrArg Value.bool (decide_eq_true ⟨H3.out, HX.out.trans (by simpa using x1), HZ.out.trans Z0.out⟩).symm, rfl⟩
        · have z1 := beq_no z0
          go_wp2
          go_meet
          case rel => exact ⟨by rw [← HQ.out]; exact congrArg Value.bool (decide_eq_false (fun h => z0 (HZ.out.symm.trans h.2.2))).symm, rfl⟩
      · have x1 := beq_no x0
        go_wp2
        go_meet
        case rel => exact ⟨by rw [← HQ.out]; exact congrArg Value.bool (decide_eq_false (fun h => x0 (HX.out.symm.trans h.2.1))).symm, rfl⟩
    · have t4 : ((s.length : Int) == 3) = false := by simp; omega
      go_wp2
      go_meet
      case rel => exact ⟨by rw [← HQ.out]; exact congrArg Value.bool (decide_eq_false (fun h => h3 h.1)).symm, rfl⟩
  case rest =>
    obtain ⟨rfl, rfl⟩ := hcut
    cases q
    case true =>
      have h := of_decide_eq_true HQ.out
      obtain ⟨g, off, rfl, hcl⟩ : ∃ g off, a = some ⟨g, off, none⟩ ∧ ∀ i, i < s.length → w.cell? ⟨g, off + i, none⟩ = some (.int .u8 (s.getD i 0)) := by
        rcases hcell with hh | hh
        · rw [hh] at h; simp at h
        · exact hh
      have c1 := hcl 1 (by omega)
      have E : pnum s b = .agg #[.int .i64 1, .int .i64 (s.getD 1 0), .int .i64 0] := by unfold pnum; rw [if_pos h]
      have by1 := hb (s.getD 1 0) (by have h1 : 1 < s.length := by omega
                                      simp [List.getD_eq_getElem?_getD, List.getElem?_eq_getElem h1])
      rw [HV.out] at E
      obtain ⟨y, hy⟩ : ∃ x, s.getD 1 0 = x := ⟨_, rfl⟩
      rw [hy] at c1 by1 E
      have EH := Lib.hid E
      have c1' := Lib.cell?_alloc_marked (.cells #[.int .i64 0, .int .i64 0, .int .i64 0] 24) c1
      have y0 := by1.1
      have y1 := by1.2
      have l3 : 1 < s.length := by omega
      clear E h hcl hcell hr0 hy by1
      go_wp2
      exact bodyPost_ret (v := .agg #[.int .i64 1, .int .i64 y, .int .i64 0]) (by simp [results, Try.results9, go_sem]) rfl ⟨by rw [EH.out], by repeat (first | exact Below.refl _ _ | assumption | refine Below.alloc ?_ (by first | exact Nat.le_refl _ | (simp; done) | (simp; omega)) _ | refine Below.setCell ?_ (Nat.le_refl _) _)⟩
    case false =>
      have hbp := (prefS_sub s).1 hb
      have hlp := (prefS_sub s).2
      have hbc := (cutP_sub 45 (prefS s)).1 hbp
      have hlc := (cutP_sub 45 (prefS s)).2
      have hbs := (cutS_sub 46 (cutP 45 (prefS s))).1 hbc
      have hls := (cutS_sub 46 (cutP 45 (prefS s))).2
      obtain ⟨neg, hneg⟩ : ∃ x, cutPb 45 (prefS s) = x := ⟨_, rfl⟩
      obtain ⟨dbl, hdbl⟩ : ∃ x, cutSb 46 (cutP 45 (prefS s)) = x := ⟨_, rfl⟩
      obtain ⟨N, hN⟩ : ∃ x, moN (prefB b s) 0 (cutS 46 (cutP 45 (prefS s))) = x := ⟨_, rfl⟩
      obtain ⟨z, hz⟩ : ∃ x, moU (prefB b s) (cutS 46 (cutP 45 (prefS s))) = x := ⟨_, rfl⟩
      obtain ⟨n, hn⟩ : ∃ x, (cutS 46 (cutP 45 (prefS s))).length = x := ⟨_, rfl⟩
      have zr := moU_range (prefB b s) (cutS 46 (cutP 45 (prefS s)))
      rw [hz, hn] at zr
      have nr := moN_range (prefB b s) (cutS 46 (cutP 45 (prefS s))) 0 (by omega) (by decide)
      rw [hN] at nr
      have W1 := word_wrap (dlo N)
      have W2 := word_wrap (dhi N)
      have k := bor_01 0 (IntKind.u64.wrap (dlo N))
      have NW := Lib.hid (neg_words N nr.1 nr.2)
      have HNEG := Lib.hid hneg
      have HDBL := Lib.hid hdbl
      have HN := Lib.hid hN
      have HZ := Lib.hid hz
      have HL := Lib.hid hn
      have E : pnum s b = pkv neg dbl z n N := by
        unfold pnum
        rw [if_neg (by simpa using HQ.out), pk_pkv, hneg, hdbl, hN, hz, hn]
      rw [HV.out] at E
      have EH := Lib.hid E
      rw [hn] at hls
      clear hneg hdbl hN hz E
      by_cases z0 : z = 0
      · have z1 := beq_of z0
        clear z0
        go_wp2_with (first
          | (go_at_call 18; refine (prefixed_c _ _ s _ (hr0.below (by repeat (first | exact Below.refl _ _ | assumption | refine Below.alloc ?_ (by first | exact Nat.le_refl _ | (simp; done) | (simp; omega)) _ | refine Below.setCell ?_ (Nat.le_refl _) _))) hs).mono ?_; rintro e w' ⟨⟨u, rfl, hu⟩, rfl⟩)
          | (go_at_call 19; refine (cutprefix_b _ (prefS s) 45 _ HNEG.out _ _ _ _ (hu.below (by repeat (first | exact Below.refl _ _ | assumption | refine Below.alloc ?_ (by first | exact Nat.le_refl _ | (simp; done) | (simp; omega)) _ | refine Below.setCell ?_ (Nat.le_refl _) _))) hbp ⟨by omega, by omega⟩ (cell_new _ _ _ _ _ (by simp))).mono ?_; rintro e w' ⟨⟨u2, rfl, hu2⟩, rfl⟩)
          | (go_at_call 20; refine (cutsuffix_b _ (cutP 45 (prefS s)) 46 _ HDBL.out _ _ _ _ (hu2.below (by repeat (first | exact Below.refl _ _ | assumption | refine Below.alloc ?_ (by first | exact Nat.le_refl _ | (simp; done) | (simp; omega)) _ | refine Below.setCell ?_ (Nat.le_refl _) _))) hbc (by omega) ⟨by omega, by omega⟩ (cell_new _ _ _ _ _ (by simp))).mono ?_; rintro e w' ⟨⟨u3, rfl, hu3⟩, rfl⟩; obtain ⟨a3, c3, rfl⟩ := hu3.len; rw [hn] at hu3)
          | (go_at_call 12; refine (more0_c _ _ (cutS 46 (cutP 45 (prefS s))) z n N HZ.out hn HN.out _ hu3 hbs (by omega)).mono ?_; rintro e w' ⟨rfl, rfl⟩)
          | simp only [sub64_0 0 _ (Int.le_refl 0) W1.1 W1.2]
          | simp only [sub64 0 _ _ (Int.le_refl 0) W2.1 W2.2 k.1 k.2]
          | rw [conv1 _ _ _ (by simp)])
        exact bodyPost_ret (v := .agg #[.int .i64 0, .int .i64 0, .int .i64 0]) (by simp [results, Try.results9, go_sem]) rfl ⟨by rw [EH.out, pkv_zero (.inl (by simpa using z1))], by repeat (first | exact Below.refl _ _ | assumption | refine Below.alloc ?_ (by first | exact Nat.le_refl _ | (simp; done) | (simp; omega)) _ | refine Below.setCell ?_ (Nat.le_refl _) _)⟩
      · by_cases z2 : z < n
        · have z1 := beq_no z0
          go_wp2_with (first
            | (go_at_call 18; refine (prefixed_c _ _ s _ (hr0.below (by repeat (first | exact Below.refl _ _ | assumption | refine Below.alloc ?_ (by first | exact Nat.le_refl _ | (simp; done) | (simp; omega)) _ | refine Below.setCell ?_ (Nat.le_refl _) _))) hs).mono ?_; rintro e w' ⟨⟨u, rfl, hu⟩, rfl⟩)
            | (go_at_call 19; refine (cutprefix_b _ (prefS s) 45 _ HNEG.out _ _ _ _ (hu.below (by repeat (first | exact Below.refl _ _ | assumption | refine Below.alloc ?_ (by first | exact Nat.le_refl _ | (simp; done) | (simp; omega)) _ | refine Below.setCell ?_ (Nat.le_refl _) _))) hbp ⟨by omega, by omega⟩ (cell_new _ _ _ _ _ (by simp))).mono ?_; rintro e w' ⟨⟨u2, rfl, hu2⟩, rfl⟩)
            | (go_at_call 20; refine (cutsuffix_b _ (cutP 45 (prefS s)) 46 _ HDBL.out _ _ _ _ (hu2.below (by repeat (first | exact Below.refl _ _ | assumption | refine Below.alloc ?_ (by first | exact Nat.le_refl _ | (simp; done) | (simp; omega)) _ | refine Below.setCell ?_ (Nat.le_refl _) _))) hbc (by omega) ⟨by omega, by omega⟩ (cell_new _ _ _ _ _ (by simp))).mono ?_; rintro e w' ⟨⟨u3, rfl, hu3⟩, rfl⟩; obtain ⟨a3, c3, rfl⟩ := hu3.len; rw [hn] at hu3)
            | (go_at_call 12; refine (more0_c _ _ (cutS 46 (cutP 45 (prefS s))) z n N HZ.out hn HN.out _ hu3 hbs (by omega)).mono ?_; rintro e w' ⟨rfl, rfl⟩)
            | simp only [sub64_0 0 _ (Int.le_refl 0) W1.1 W1.2]
            | simp only [sub64 0 _ _ (Int.le_refl 0) W2.1 W2.2 k.1 k.2]
            | rw [conv1 _ _ _ (by simp)])
          exact bodyPost_ret (v := .agg #[.int .i64 0, .int .i64 0, .int .i64 0]) (by simp [results, Try.results9, go_sem]) rfl ⟨by rw [EH.out, pkv_zero (.inr z2)], by repeat (first | exact Below.refl _ _ | assumption | refine Below.alloc ?_ (by first | exact Nat.le_refl _ | (simp; done) | (simp; omega)) _ | refine Below.setCell ?_ (Nat.le_refl _) _)⟩
        · have z1 := beq_no z0
          have z3 : (n : Int) ≤ z := by omega
          cases dbl <;> cases neg
          · go_wp2_with (first
              | (go_at_call 18; refine (prefixed_c _ _ s _ (hr0.below (by repeat (first | exact Below.refl _ _ | assumption | refine Below.alloc ?_ (by first | exact Nat.le_refl _ | (simp; done) | (simp; omega)) _ | refine Below.setCell ?_ (Nat.le_refl _) _))) hs).mono ?_; rintro e w' ⟨⟨u, rfl, hu⟩, rfl⟩)
              | (go_at_call 19; refine (cutprefix_b _ (prefS s) 45 _ HNEG.out _ _ _ _ (hu.below (by repeat (first | exact Below.refl _ _ | assumption | refine Below.alloc ?_ (by first | exact Nat.le_refl _ | (simp; done) | (simp; omega)) _ | refine Below.setCell ?_ (Nat.le_refl _) _))) hbp ⟨by omega, by omega⟩ (cell_new _ _ _ _ _ (by simp))).mono ?_; rintro e w' ⟨⟨u2, rfl, hu2⟩, rfl⟩)
              | (go_at_call 20; refine (cutsuffix_b _ (cutP 45 (prefS s)) 46 _ HDBL.out _ _ _ _ (hu2.below (by repeat (first | exact Below.refl _ _ | assumption | refine Below.alloc ?_ (by first | exact Nat.le_refl _ | (simp; done) | (simp; omega)) _ | refine Below.setCell ?_ (Nat.le_refl _) _))) hbc (by omega) ⟨by omega, by omega⟩ (cell_new _ _ _ _ _ (by simp))).mono ?_; rintro e w' ⟨⟨u3, rfl, hu3⟩, rfl⟩; obtain ⟨a3, c3, rfl⟩ := hu3.len; rw [hn] at hu3)
              | (go_at_call 12; refine (more0_c _ _ (cutS 46 (cutP 45 (prefS s))) z n N HZ.out hn HN.out _ hu3 hbs (by omega)).mono ?_; rintro e w' ⟨rfl, rfl⟩)
              | simp only [sub64_0 0 _ (Int.le_refl 0) W1.1 W1.2]
              | simp only [sub64 0 _ _ (Int.le_refl 0) W2.1 W2.2 k.1 k.2]
              | rw [conv1 _ _ _ (by simp)])
            exact bodyPost_ret (v := .agg #[.int .i64 1, .int .i64 (dlo N), .int .i64 0]) (by simp [results, Try.results9, go_sem]) rfl ⟨by rw [EH.out, pkv_one (neg := false) (a := dlo N) z0 z3 rfl], by repeat (first | exact Below.refl _ _ | assumption | refine Below.alloc ?_ (by first | exact Nat.le_refl _ | (simp; done) | (simp; omega)) _ | refine Below.setCell ?_ (Nat.le_refl _) _)⟩
          · go_wp2_with (first
              | (go_at_call 18; refine (prefixed_c _ _ s _ (hr0.below (by repeat (first | exact Below.refl _ _ | assumption | refine Below.alloc ?_ (by first | exact Nat.le_refl _ | (simp; done) | (simp; omega)) _ | refine Below.setCell ?_ (Nat.le_refl _) _))) hs).mono ?_; rintro e w' ⟨⟨u, rfl, hu⟩, rfl⟩)
              | (go_at_call 19; refine (cutprefix_b _ (prefS s) 45 _ HNEG.out _ _ _ _ (hu.below (by repeat (first | exact Below.refl _ _ | assumption | refine Below.alloc ?_ (by first | exact Nat.le_refl _ | (simp; done) | (simp; omega)) _ | refine Below.setCell ?_ (Nat.le_refl _) _))) hbp ⟨by omega, by omega⟩ (cell_new _ _ _ _ _ (by simp))).mono ?_; rintro e w' ⟨⟨u2, rfl, hu2⟩, rfl⟩)
              | (go_at_call 20; refine (cutsuffix_b _ (cutP 45 (prefS s)) 46 _ HDBL.out _ _ _ _ (hu2.below (by repeat (first | exact Below.refl _ _ | assumption | refine Below.alloc ?_ (by first | exact Nat.le_refl _ | (simp; done) | (simp; omega)) _ | refine Below.setCell ?_ (Nat.le_refl _) _))) hbc (by omega) ⟨by omega, by omega⟩ (cell_new _ _ _ _ _ (by simp))).mono ?_; rintro e w' ⟨⟨u3, rfl, hu3⟩, rfl⟩; obtain ⟨a3, c3, rfl⟩ := hu3.len; rw [hn] at hu3)
              | (go_at_call 12; refine (more0_c _ _ (cutS 46 (cutP 45 (prefS s))) z n N HZ.out hn HN.out _ hu3 hbs (by omega)).mono ?_; rintro e w' ⟨rfl, rfl⟩)
              | simp only [sub64_0 0 _ (Int.le_refl 0) W1.1 W1.2]
              | simp only [sub64 0 _ _ (Int.le_refl 0) W2.1 W2.2 k.1 k.2]
              | rw [conv1 _ _ _ (by simp)])
            exact bodyPost_ret (v := .agg #[.int .i64 1, .int .i64 (wrap64 ((0 - IntKind.u64.wrap (dlo N)) % 18446744073709551616)), .int .i64 0]) (by simp [results, Try.results9, go_sem]) rfl ⟨by rw [EH.out, pkv_one (neg := true) z0 z3 NW.out.1], by repeat (first | exact Below.refl _ _ | assumption | refine Below.alloc ?_ (by first | exact Nat.le_refl _ | (simp; done) | (simp; omega)) _ | refine Below.setCell ?_ (Nat.le_refl _) _)⟩
          · go_wp2_with (first
              | (go_at_call 18; refine (prefixed_c _ _ s _ (hr0.below (by repeat (first | exact Below.refl _ _ | assumption | refine Below.alloc ?_ (by first | exact Nat.le_refl _ | (simp; done) | (simp; omega)) _ | refine Below.setCell ?_ (Nat.le_refl _) _))) hs).mono ?_; rintro e w' ⟨⟨u, rfl, hu⟩, rfl⟩)
              | (go_at_call 19; refine (cutprefix_b _ (prefS s) 45 _ HNEG.out _ _ _ _ (hu.below (by repeat (first | exact Below.refl _ _ | assumption | refine Below.alloc ?_ (by first | exact Nat.le_refl _ | (simp; done) | (simp; omega)) _ | refine Below.setCell ?_ (Nat.le_refl _) _))) hbp ⟨by omega, by omega⟩ (cell_new _ _ _ _ _ (by simp))).mono ?_; rintro e w' ⟨⟨u2, rfl, hu2⟩, rfl⟩)
              | (go_at_call 20; refine (cutsuffix_b _ (cutP 45 (prefS s)) 46 _ HDBL.out _ _ _ _ (hu2.below (by repeat (first | exact Below.refl _ _ | assumption | refine Below.alloc ?_ (by first | exact Nat.le_refl _ | (simp; done) | (simp; omega)) _ | refine Below.setCell ?_ (Nat.le_refl _) _))) hbc (by omega) ⟨by omega, by omega⟩ (cell_new _ _ _ _ _ (by simp))).mono ?_; rintro e w' ⟨⟨u3, rfl, hu3⟩, rfl⟩; obtain ⟨a3, c3, rfl⟩ := hu3.len; rw [hn] at hu3)
              | (go_at_call 12; refine (more0_c _ _ (cutS 46 (cutP 45 (prefS s))) z n N HZ.out hn HN.out _ hu3 hbs (by omega)).mono ?_; rintro e w' ⟨rfl, rfl⟩)
              | simp only [sub64_0 0 _ (Int.le_refl 0) W1.1 W1.2]
              | simp only [sub64 0 _ _ (Int.le_refl 0) W2.1 W2.2 k.1 k.2]
              | rw [conv1 _ _ _ (by simp)])
            exact bodyPost_ret (v := .agg #[.int .i64 2, .int .i64 (dlo N), .int .i64 (dhi N)]) (by simp [results, Try.results9, go_sem]) rfl ⟨by rw [EH.out, pkv_dbl (neg := false) (a := dlo N) (b := dhi N) z0 z3 rfl rfl], by repeat (first | exact Below.refl _ _ | assumption | refine Below.alloc ?_ (by first | exact Nat.le_refl _ | (simp; done) | (simp; omega)) _ | refine Below.setCell ?_ (Nat.le_refl _) _)⟩
          · go_wp2_with (first
              | (go_at_call 18; refine (prefixed_c _ _ s _ (hr0.below (by repeat (first | exact Below.refl _ _ | assumption | refine Below.alloc ?_ (by first | exact Nat.le_refl _ | (simp; done) | (simp; omega)) _ | refine Below.setCell ?_ (Nat.le_refl _) _))) hs).mono ?_; rintro e w' ⟨⟨u, rfl, hu⟩, rfl⟩)
              | (go_at_call 19; refine (cutprefix_b _ (prefS s) 45 _ HNEG.out _ _ _ _ (hu.below (by repeat (first | exact Below.refl _ _ | assumption | refine Below.alloc ?_ (by first | exact Nat.le_refl _ | (simp; done) | (simp; omega)) _ | refine Below.setCell ?_ (Nat.le_refl _) _))) hbp ⟨by omega, by omega⟩ (cell_new _ _ _ _ _ (by simp))).mono ?_; rintro e w' ⟨⟨u2, rfl, hu2⟩, rfl⟩)
              | (go_at_call 20; refine (cutsuffix_b _ (cutP 45 (prefS s)) 46 _ HDBL.out _ _ _ _ (hu2.below (by repeat (first | exact Below.refl _ _ | assumption | refine Below.alloc ?_ (by first | exact Nat.le_refl _ | (simp; done) | (simp; omega)) _ | refine Below.setCell ?_ (Nat.le_refl _) _))) hbc (by omega) ⟨by omega, by omega⟩ (cell_new _ _ _ _ _ (by simp))).mono ?_; rintro e w' ⟨⟨u3, rfl, hu3⟩, rfl⟩; obtain ⟨a3, c3, rfl⟩ := hu3.len; rw [hn] at hu3)
              | (go_at_call 12; refine (more0_c _ _ (cutS 46 (cutP 45 (prefS s))) z n N HZ.out hn HN.out _ hu3 hbs (by omega)).mono ?_; rintro e w' ⟨rfl, rfl⟩)
              | simp only [sub64_0 0 _ (Int.le_refl 0) W1.1 W1.2]
              | simp only [sub64 0 _ _ (Int.le_refl 0) W2.1 W2.2 k.1 k.2]
              | rw [conv1 _ _ _ (by simp)])
            exact bodyPost_ret (v := .agg #[.int .i64 2, .int .i64 (wrap64 ((0 - IntKind.u64.wrap (dlo N)) % 18446744073709551616)), .int .i64 (wrap64 ((0 - IntKind.u64.wrap (dhi N) - bor 0 (IntKind.u64.wrap (dlo N))) % 18446744073709551616))]) (by simp [results, Try.results9, go_sem]) rfl ⟨by rw [EH.out, pkv_dbl (neg := true) z0 z3 NW.out.1 NW.out.2], by repeat (first | exact Below.refl _ _ | assumption | refine Below.alloc ?_ (by first | exact Nat.le_refl _ | (simp; done) | (simp; omega)) _ | refine Below.setCell ?_ (Nat.le_refl _) _)⟩
end Go.Proofs.Ytjioombinbngpaa
