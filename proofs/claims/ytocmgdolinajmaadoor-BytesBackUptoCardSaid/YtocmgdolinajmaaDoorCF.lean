/- bytes.Replace of percent signs by two, where there are some. -/
import Derived.Test.YtocmgdolinajmaaDoorCE
namespace Go.Proofs.YtocmgdolinajmaaDoor
set_option linter.unusedVariables false
set_option linter.unusedSimpArgs false
open Go.RowKit

theorem TR.keep {w w' : World} {g T : Nat} {D : List Int} (h : TR w g T D) (hb : Below w.heap.size w w') (hg : g < w.heap.size) : TR w' g T D := by
  obtain ⟨Z, h1, h2⟩ := h
  exact ⟨Z, (hb.block g hg).trans h1, h2⟩
theorem TR.lt {w : World} {g T : Nat} {D : List Int} (h : TR w g T D) : g < w.heap.size := by
  obtain ⟨Z, h1, h2⟩ := h
  exact (Array.getElem?_eq_some_iff.1 h1).1
theorem TR.own {w : World} {g T B : Nat} {D : List Int} (h : TR w g T D) (hT : D.length = T) (hB : B ≤ g) (hm : T ≤ 1000) : w.ownsRow B 5 1 (.slice (some ⟨g, 0, none⟩) T T) T (D.map (Value.int .u8)) := by
  obtain ⟨Z, h1, h2⟩ := h
  have hz : Z = [] := List.eq_nil_of_length_eq_zero (by omega)
  subst hz
  refine ⟨by simp [hT], .inr ⟨g, T, (D.map (Value.int .u8)).toArray, rfl, hB, by simpa using h1, Nat.le_refl _, by unfold maxLen; omega, by simp [hT], by rw [List.take_of_length_le (by simp; omega)]⟩⟩
theorem TR.new (w : World) (R : Array Value) : TR (w.alloc (.cells R 5)) w.heap.size R.size [] := ⟨R.toList, by have := heap_alloc_new w (.cells R 5); rw [this]; simp, by simp⟩
/-- make([]byte, T). -/
theorem make_b (T : Nat) (hT : T ≤ 1000) : ∃ R : Array Value, R.size = T ∧ ∀ w : World, (Instr.makeSlice 22 (.int .i64 (T : Int)) (.int .i64 (T : Int))).run Tryd.prog w = .ok (.slice (some ⟨w.heap.size, 0, none⟩) T T) (w.alloc (.cells R 5)) := by
  obtain ⟨i0, hi, hz0, hz2, hz3⟩ := info_parts info_byte
  refine ⟨madeCells (Value.int .u8 0).cells (T * i0.size), by rw [size_madeCells, hz2]; omega, fun w => ?_⟩
  have := run_make (P := Tryd.prog) w 22 5 i0 (.int .u8 0) Tryd.underlying22 hi hz0 .i64 .i64 T T (by omega) (Int.le_refl _) (by rw [hz3]; omega) (by omega)
  simpa using this
/-- Where the loop stands. -/
def RI (w0 w : World) (l : List Int) (g T m i st wv : Nat) : Prop := ∃ D : List Int, D.length = wv ∧ TR w g T D ∧ dbl l = D ++ dbl (l.drop st) ∧ cnt (l.drop st) + i = m ∧ st ≤ l.length ∧ Below w0.heap.size w0 w ∧ w0.heap.size ≤ g
theorem ri_next {w0 wr : World} {l : List Int} {g T m i st wv : Nat} (h : RI w0 wr l g T m i st wv) (hi : i < m) (hT : (dbl l).length = T) :
    ∃ (D pre : List Int) (p : Nat), D.length = wv ∧ TR wr g T D ∧ pre.length = p ∧ pre = (l.drop st).take p ∧ idxI (l.drop st) [37] = (p : Int) ∧ st + p < l.length ∧ wv + p + 2 ≤ T ∧ Below w0.heap.size w0 wr ∧ w0.heap.size ≤ g ∧
      (∀ w2, TR w2 g T ((D ++ pre) ++ [37, 37]) → Below w0.heap.size w0 w2 → RI w0 w2 l g T m (i + 1) (st + p + 1) (wv + p + 2)) := by
  obtain ⟨D, h1, h2, h3, h4, h5, h6, h7⟩ := h
  obtain ⟨pre, rest, e1, e2, e3, e4⟩ := next_pct (l.drop st) (by omega)
  have hlen := congrArg List.length e1
  rw [List.length_drop] at hlen
  simp only [List.length_append, List.length_cons] at hlen
  have hrest : rest = l.drop (st + pre.length + 1) := by
    have := congrArg (List.drop (pre.length + 1)) e1
    rw [List.drop_drop, show (pre ++ 37 :: rest) = (pre ++ [37]) ++ rest by simp, List.drop_left' (by simp)] at this
    rw [show st + pre.length + 1 = st + (pre.length + 1) by omega]
    exact this.symm
  have hd : dbl l = ((D ++ pre) ++ [37, 37]) ++ dbl (l.drop (st + pre.length + 1)) := by
    rw [h3, e4, hrest]; simp
  have hTl := congrArg List.length hd
  simp only [List.length_append, List.length_cons, List.length_nil] at hTl
  refine ⟨D, pre, pre.length, h1, h2, rfl, by rw [e1, List.take_left' rfl], e2, by omega, by omega, h6, h7, fun w2 t2 b2 => ⟨_, by simp; omega, t2, hd, by rw [← hrest]; omega, by omega, b2, h7⟩⟩
theorem ri_end {w0 wr : World} {l : List Int} {g T m st wv : Nat} (h : RI w0 wr l g T m m st wv) (hT : (dbl l).length = T) :
    ∃ (D : List Int), D.length = wv ∧ TR wr g T D ∧ dbl l = D ++ l.drop st ∧ st ≤ l.length ∧ wv + (l.length - st) = T ∧ Below w0.heap.size w0 wr ∧ w0.heap.size ≤ g := by
  obtain ⟨D, h1, h2, h3, h4, h5, h6, h7⟩ := h
  rw [dbl_none (l.drop st) (by omega)] at h3
  have hTl := congrArg List.length h3
  simp only [List.length_append, List.length_drop] at hTl
  exact ⟨D, h1, h2, h3, h5, by omega, h6, h7⟩
theorem src_of {w : World} {gs o n c p : Nat} {l : List Int} (h : Rd w .u8 (.slice (some ⟨gs, o, none⟩) n c) l) {pre : List Int} (hp : pre = l.take p) : ∃ ad, some (⟨gs, o, none⟩ : Addr) = some ad ∧ ∀ j v, (pre.map (Value.int .u8))[j]? = some v → w.cell? (ad.add j) = some v := by
  refine ⟨_, rfl, fun j v hj => rd_cells h j v ?_⟩
  subst hp
  rw [List.map_take] at hj
  have hlt := (List.getElem?_eq_some_iff.1 hj).1
  rw [List.getElem?_take] at hj
  split at hj
  · exact hj
  · cases hj
set_option maxRecDepth 100000 in
set_option maxHeartbeats 8000000 in
theorem prepl_m (gs off L c : Nat) (l : List Int) (w : World) (hsh : w.ShapedOpen Tryd.prog) (hu : Rd w .u8 (.slice (some ⟨gs, off, none⟩) L c) l) (bl : Byt l) (hL : l.length = L) (hl : L ≤ 400) (o q d1 d2 m T : Nat) (co : w.cell? ⟨o, 0, none⟩ = some (.int .u8 37)) (hd1 : 1 ≤ d1) (hd2 : 2 ≤ d2) (hq : Rd w .u8 (.slice (some ⟨q, 0, none⟩) 2 d2) [37, 37]) (hm : cnt l = m) (h0 : 0 < m) (hT : L + m = T) :
    Calls Tryd.prog 33 #[.slice (some ⟨gs, off, none⟩) L c, .slice (some ⟨o, 0, none⟩) 1 d1, .slice (some ⟨q, 0, none⟩) 2 d2, .int .i64 (-1)] w fun e w' => ∃ v, e = .returned v ∧ w'.ownsRow w.heap.size 5 1 v (dbl l).length ((dbl l).map (Value.int .u8)) ∧ Below w.heap.size w w' := by
  have CO : Hid (Calls Tryd.prog 45 #[.slice (some ⟨gs, off, none⟩) L c, .slice (some ⟨o, 0, none⟩) 1 d1] w fun e w' => e = .returned (.int .i64 m) ∧ w = w') := by
    have := bcount_c _ l o d1 w hu bl co
    rw [hm] at this
    exact Lib.hid this
  have hmL : m ≤ L := by have := cnt_le l; omega
  have HT := Lib.hid hT
  have HDL : Hid ((dbl l).length = T) := Lib.hid (by rw [dbl_len]; omega)
  have hcap : L ≤ c := hu.capge
  have hn : Rd w .u8 (.slice (some ⟨o, 0, none⟩) 1 d1) [37] := ⟨_, d1, rfl, hd1, .inr ⟨o, 0, rfl, fun i hi => by
    have : i = 0 := by simp at hi; omega
    subst this
    exact co⟩⟩
  obtain ⟨R, hRT, hmk⟩ := make_b T (by omega)
  have START : Hid (RI w (w.alloc (.cells R 5)) l w.heap.size T m 0 0 0) := Lib.hid ⟨[], rfl, hRT ▸ TR.new w R, rfl, by rw [List.drop_zero]; omega, Nat.zero_le _, (Below.refl _ _).alloc (Nat.le_refl _) _, Nat.le_refl _⟩
  have h2 : ¬ m = 0 := by omega
  have h3 : ¬ (m : Int) = 0 := by omega
  have h4 : ((m : Int) == 0) = false := beq_no h3
  have hT3 : T ≤ 1000 := by omega
  have nT : IntKind.i64.wrap ((L : Int) + m) = (T : Int) := by simp only [IntKind.wrap_i64]; omega
  have FR : Hid (∀ w3 st, Below w.heap.size w w3 → st < L → Rd w3 .u8 (.slice (some ⟨gs, off + st, none⟩) (L - st) (c - st)) (l.drop st)) := Lib.hid (fun w3 st hb hst => (hu.below hb).from_ (m := st) (by omega) gs off rfl _ (fun _ => rfl))
  have IX : Hid (∀ w3 st (p : Nat), Below w.heap.size w w3 → st < L → idxI (l.drop st) [37] = (p : Int) → Calls Tryd.prog 24 #[.slice (some ⟨gs, off + st, none⟩) (L - st) (c - st), .slice (some ⟨o, 0, none⟩) 1 d1] w3 fun e w' => e = .returned (.int .i64 p) ∧ Below w3.heap.size w3 w') := Lib.hid (fun w3 st p hb hst hp => by
    rw [← hp]
    exact bindex_c _ _ (l.drop st) [37] w3 (shaped_below hsh hb) (FR.out w3 st hb hst) (hn.below hb) (.inr ⟨_, _, _, rfl⟩) (.inr ⟨_, _, _, rfl⟩) (fun x hx => bl x (List.mem_of_mem_drop hx)) (fun x hx => by simp at hx; omega) (by rw [List.length_drop]; omega) (by simp))
  have HQ := Lib.hid hq
  have HLL := Lib.hid hL
  clear hm hT hsh hu hn hq hL bl co hRT
  go_enter Tryd.func33, Tryd.ntmps33
  go_wp2_with (go_at_call 45; (with_reducible refine (CO.out).mono ?_); rintro e w' ⟨rfl, rfl⟩)
  go_loopw [11, 12, 49] (fun x11 x12 x49 wr => ∃ i st wv : Nat, x49 = .int .i64 i ∧ x12 = .int .i64 st ∧ x11 = .int .i64 wv ∧ i ≤ m ∧ Hid (RI w wr l w.heap.size T m i st wv)) (fun _ _ x49 _ => m - (intOf x49).toNat)
  case atStart => exact ⟨0, 0, 0, rfl, rfl, rfl, Nat.zero_le _, START⟩
  case round =>
    obtain ⟨i, st, wv, rfl, rfl, rfl, hi, HR⟩ := hrel
    clear START
    by_cases him : i < m
    · obtain ⟨D, pre, p, k1, k2, k3, k4, k5, k6, k7, k8, k9, NX⟩ := ri_next HR.out him HDL.out
      have HNX := Lib.hid NX
      have K1 := Lib.hid k1
      have K2 := Lib.hid k2
      have K3 := Lib.hid k3
      have K4 := Lib.hid k4
      have K8 := Lib.hid k8
      have K9 := Lib.hid k9
      rw [HLL.out] at k6
      have hst : st < L := by omega
      have CI := Lib.hid (IX.out wr st p k8 hst k5)
      have n1 : ¬ c = st := by omega
      have n2 : st ≤ c := by omega
      obtain ⟨j, hj⟩ : ∃ j, st + p = j := ⟨_, rfl⟩
      obtain ⟨v2, hv⟩ : ∃ v2, wv + p = v2 := ⟨_, rfl⟩
      have HJ := Lib.hid hj
      have HV := Lib.hid hv
      have n3 : IntKind.i64.wrap ((st : Int) + p) = (j : Int) := by simp only [IntKind.wrap_i64]; omega
      have n10 : st ≤ j := by omega
      have n11 : j ≤ c := by omega
      have n12 : j < L := by omega
      have n5 : ¬ T = wv := by omega
      have n6 : wv ≤ T := by omega
      have n7 : IntKind.i64.wrap ((wv : Int) + ((j - st : Nat) : Int)) = (v2 : Int) := by simp only [IntKind.wrap_i64]; omega
      have n8 : ¬ T = v2 := by omega
      have n9 : v2 ≤ T := by omega
      have H7 := Lib.hid k7
      clear hj hv k7 k6
      clear NX k1 k2 k3 k4 k5 k8 k9 HR
      obtain ⟨wo, hwo⟩ : ∃ wo, wo = wr := ⟨_, rfl⟩
      subst hwo
      go_wp2_with (go_at_call 24; (with_reducible refine (CI.out).mono ?_); rintro e w2 ⟨rfl, b2⟩; have B2 := Lib.hid (below_then K8.out K8.out.size b2); have T2 := Lib.hid (TR.keep K2.out b2 K2.out.lt); clear b2)
      go_region_law (refine step_cp rfl (.tmp 61) (.tmp 65) rfl (some ⟨w.heap.size, wv, none⟩) (some ⟨gs, off + st, none⟩) (T - wv) (T - wv) (j - st) (c - st) (by simp [Act.eval, Act.put]) (by simp [Act.eval, Act.put]) w.heap.size wv T D pre T2.out K1.out (by have := K3.out; have := HJ.out; omega) (by have := HJ.out; have := H7.out; omega) (by have := HJ.out; have := H7.out; omega) (fun _ => rfl) (fun _ => src_of (FR.out w2 st B2.out hst) K4.out) w.heap.size w B2.out.drew (Nat.le_refl _) ?_; intro w3 t3 b3; have T3 := Lib.hid t3; have B3 := Lib.hid b3; clear t3 b3)
      all_goals
        go_wp2_with (refine wp_cp (o := ⟨some 73, _, _, _, _, _⟩) rfl (.tmp 71) (.tmp 72) (by rfl) (some ⟨w.heap.size, v2, none⟩) (some ⟨q, 0, none⟩) (T - v2) (T - v2) 2 d2 (by rfl) (by rfl) w.heap.size v2 T (D ++ pre) [37, 37] T3.out (by rw [List.length_append, K1.out, K3.out, HV.out]) rfl (by have := HV.out; have := H7.out; omega) (by have := HV.out; have := H7.out; omega) (fun _ => rfl) (fun _ => src_of (p := 2) (HQ.out.below B3.out) rfl) w.heap.size w B3.out (Nat.le_refl _) ?_; intro w4 t4 b4; have R4 := Lib.hid (HNX.out w4 t4 b4); clear t4 b4)
        go_roundw
        case rel => exact ⟨i + 1, j + 1, v2 + 2, by go_num, by go_num, by go_num, by omega, by have := R4; rw [HJ.out, HV.out] at this; exact this⟩
        case measure => simp [intOf]; omega
    · have him2 : i = m := by omega
      subst him2
      obtain ⟨D, k1, k2, k3, k4, k5, k6, k7⟩ := ri_end HR.out HDL.out
      rw [HLL.out] at k4 k5
      have K1 := Lib.hid k1
      have K2 := Lib.hid k2
      have K3 := Lib.hid k3
      have K6 := Lib.hid k6
      have K5 := Lib.hid k5
      have FIN : Hid (∀ w3, TR w3 w.heap.size T (D ++ l.drop st) → w3.ownsRow w.heap.size 5 1 (.slice (some ⟨w.heap.size, 0, none⟩) T T) (dbl l).length ((dbl l).map (Value.int .u8))) := Lib.hid (fun w3 h => by
        rw [HDL.out, K3.out]
        exact h.own (by have := HDL.out; rw [K3.out] at this; exact this) (Nat.le_refl _) hT3)
      have H5 := Lib.hid k5
      have HS : Hid (st < L → Rd wr .u8 (.slice (some ⟨gs, off + st, none⟩) (L - st) (c - st)) (l.drop st)) := Lib.hid (fun h => FR.out wr st K6.out h)
      have HLD : Hid ((l.drop st).length = L - st) := Lib.hid (by rw [List.length_drop, HLL.out])
      have hk5 := k5
      clear k1 k2 k3 k6 k7 k5 HR IX
      obtain ⟨wo, hwo⟩ : ∃ wo, wo = wr := ⟨_, rfl⟩
      subst hwo
      by_cases hst : st < L
      · have n1 : ¬ c = st := by omega
        have n12 : st ≤ L := by omega
        have n2 : st ≤ c := by omega
        have n5 : ¬ T = wv := by omega
        have n6 : wv ≤ T := by omega
        have n7 : IntKind.i64.wrap ((wv : Int) + ((L - st : Nat) : Int)) = (T : Int) := by simp only [IntKind.wrap_i64]; omega
        clear k4 hk5
        go_wp2_with fail
        go_region_law (refine step_cp rfl (.tmp 123) (.tmp 126) rfl (some ⟨w.heap.size, wv, none⟩) (some ⟨gs, off + st, none⟩) (T - wv) (T - wv) (L - st) (c - st) (by simp [Act.eval, Act.put]) (by simp [Act.eval, Act.put]) w.heap.size wv T D (l.drop st) K2.out K1.out HLD.out (by have := H5.out; omega) (by have := H5.out; omega) (fun _ => rfl) (fun _ => src_of (p := L) (HS.out hst) (by rw [List.take_of_length_le (by rw [HLD.out]; omega)])) w.heap.size w K6.out.drew (Nat.le_refl _) ?_; intro w3 t3 b3; have X3 := Lib.hid (FIN.out w3 t3); have B3 := Lib.hid b3; clear t3 b3)
        all_goals
          go_wp2_with fail
          go_ret
          exact ⟨_, rfl, X3.out, B3.out⟩
      · obtain rfl : st = L := by omega
        obtain rfl : T = wv := by omega
        clear hst k4 hk5 HS
        by_cases hc : c = st
        · subst hc
          go_wp2_with fail
          go_region_law (refine step_cp rfl (.tmp 123) (.tmp 126) rfl (some ⟨w.heap.size, 0, none⟩) (some ⟨gs, off, none⟩) 0 0 0 0 (by simp [Act.eval, Act.put]) (by simp [Act.eval, Act.put]) w.heap.size T T D (l.drop c) K2.out K1.out (by rw [HLD.out]; omega) (Nat.le_refl _) (by omega) (fun h => by omega) (fun h => by omega) w.heap.size w K6.out.drew (Nat.le_refl _) ?_; intro w3 t3 b3; have X3 := Lib.hid (FIN.out w3 t3); have B3 := Lib.hid b3; clear t3 b3)
          all_goals
            go_wp2_with fail
            go_ret
            exact ⟨_, rfl, X3.out, B3.out⟩
        · have n2 : st ≤ c := hcap
          go_wp2_with fail
          go_region_law (refine step_cp rfl (.tmp 123) (.tmp 126) rfl (some ⟨w.heap.size, 0, none⟩) (some ⟨gs, off + st, none⟩) 0 0 0 (c - st) (by simp [Act.eval, Act.put]) (by simp [Act.eval, Act.put]) w.heap.size T T D (l.drop st) K2.out K1.out (by rw [HLD.out]; omega) (Nat.le_refl _) (by omega) (fun h => by omega) (fun h => by omega) w.heap.size w K6.out.drew (Nat.le_refl _) ?_; intro w3 t3 b3; have X3 := Lib.hid (FIN.out w3 t3); have B3 := Lib.hid b3; clear t3 b3)
          all_goals
            go_wp2_with fail
            go_ret
            exact ⟨_, rfl, X3.out, B3.out⟩
end Go.Proofs.YtocmgdolinajmaaDoor
