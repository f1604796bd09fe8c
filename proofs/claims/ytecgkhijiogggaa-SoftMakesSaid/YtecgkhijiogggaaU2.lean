/- The words of numbers: Sub, arrays, Shift of the reference. -/
import Derived.Test.YtecgkhijiogggaaU1
namespace Go.Proofs.Ytecgkhijiogggaa
set_option linter.unusedVariables false
set_option linter.unusedSimpArgs false
open Go.RowKit Go.ChangeShapes Go.WideShapes SF
/-- A difference on its way. -/
def SubInv (la lb : List Int) (k : Nat) (o : List Int) (c : Int) : Prop := o.length = k ∧ Words o ∧ 0 ≤ c ∧ c ≤ 1 ∧ (wv o : Int) + wv (lb.take k) = wv (la.take k) + Q k * c
theorem subInv_zero (la lb : List Int) : SubInv la lb 0 [] 0 := ⟨rfl, words_nil, by decide, by decide, by rw [List.take_zero, List.take_zero, wi_nil]; simp⟩
theorem subInv_next {la lb o : List Int} {k : Nat} {c t : Int} (wa : Words la) (wb : Words lb) (I : SubInv la lb k o c) (ht : t = la.getD k 0 - c - lb.getD k 0) : SubInv la lb (k + 1) (o ++ [t % 4294967296]) (-(t / 4294967296)) := by
  obtain ⟨h1, h2, h3, h4, h5⟩ := I
  have g0 := getD_word wa k
  have g1 := getD_word wb k
  exact ⟨by simp [h1], words_snoc h2 (by omega) (by omega), by omega, by omega, sub_step wa wb h1 h5 ht⟩
theorem subInv_end {la lb o : List Int} {k : Nat} {c : Int} (I : SubInv la lb k o c) (ha : la.length ≤ k) (hb : lb.length ≤ k) (h : wv lb ≤ wv la) : Words o ∧ wv o = wv la - wv lb := by
  obtain ⟨h1, h2, h3, h4, h5⟩ := I
  refine ⟨h2, ?_⟩
  have e := wi_lt h2
  rw [h1] at e
  rw [List.take_of_length_le ha, List.take_of_length_le hb] at h5
  have hq := Q_pos k
  have c0 : c = 0 := by
    rcases (show c = 0 ∨ c = 1 by omega) with h | h
    · exact h
    · subst h; omega
  subst c0
  omega
theorem wrap_lo (t : Int) : t % 18446744073709551616 % 4294967296 = t % 4294967296 := by omega
theorem ret_tv {v : Value} : Ending.returned (.tuple #[v, .int .i64 0]) = .returned (.tuple #[v, .int .i64 0]) := rfl
set_option maxRecDepth 100000 in
set_option maxHeartbeats 2000000 in
theorem rsub_w (a : Option Addr) (n c : Nat) (la : List Int) (b : Option Addr) (m d : Nat) (lb : List Int) (w : World) (ha : Rd w .u32 (.slice a n c) la) (wa : Words la) (hn : n ≤ 1000000) (hb : Rd w .u32 (.slice b m d) lb) (wb : Words lb) (hm : m ≤ 1000000) (hle : wv lb ≤ wv la) :
    Calls Try.prog 87 #[.slice a n c, .slice b m d] w fun e w' => ∃ v, e = .returned (.tuple #[v, .int .i64 0]) ∧ Nw w' v (wv la - wv lb) ∧ Below w.heap.size w w' ∧ New w v := by
  have na := ha.parts.1
  have HC := rncmp_c a n c la b m d lb w ha wa (by omega) hb wb (by omega)
  obtain ⟨R, hR⟩ : ∃ R, cmpI (wv la : Int) (wv lb : Int) = R := ⟨_, rfl⟩
  have hR0 : ¬ R < 0 := by rw [← hR]; unfold cmpI; split <;> (try split) <;> omega
  rw [hR] at HC
  have HC := Lib.hid HC
  have HT := Lib.hid (fun w1 (h : Below w.heap.size w w1) => rtrim_c b m d lb w1 (hb.below h) wb (by omega))
  have lb' := ws_len_mono hle
  have la' := ws_len_le (len_bound wa)
  have B0 : wv (ws (wv lb)) = wv lb := wv_ws _
  obtain ⟨B, hB⟩ : ∃ B, wv lb = B := ⟨_, rfl⟩
  rw [hB] at HT lb' hle B0 ⊢
  have wb2 := words_ws B
  have HB := Lib.hid (fun (w1 : World) (k : Nat) (hv : Nw w1 (.slice b (ws B).length d) B) (h : k < (ws B).length) => show ∃ g off, b = some ⟨g, off, none⟩ ∧ w1.cell? ⟨g, off + k, none⟩ = some (.int .u32 ((ws B).getD k 0)) by
    obtain ⟨g, off, e, hc⟩ := hv.addr (by omega); exact ⟨g, off, e, hc k h⟩)
  obtain ⟨lc, hlc⟩ : ∃ lc, ws B = lc := ⟨_, rfl⟩
  rw [hlc] at HB lb' B0 wb2 HT
  obtain ⟨r, hr⟩ : ∃ r, lc.length = r := ⟨_, rfl⟩
  rw [hr] at HB lb' HT
  have HN := Lib.hid (fun (k : Nat) (o : List Int) (c t : Int) (I : SubInv la lc k o c) => subInv_next (t := t) wa wb2 I)
  have HE := Lib.hid (fun (k : Nat) (o : List Int) (c : Int) (I : SubInv la lc k o c) (h1 : n ≤ k) => show Words o ∧ wv o = wv la - B by
    have := subInv_end I (by omega) (by omega) (by omega)
    rw [B0] at this; exact this)
  have GA := Lib.hid (fun k => getD_word wa k)
  have GB := Lib.hid (fun k => getD_word wb2 k)
  have ZB := Lib.hid (fun (k : Nat) (h : r ≤ k) => @getD0 lc k (by omega))
  have HA := Lib.hid (fun (k : Nat) (h : k < n) => show ∃ g off, a = some ⟨g, off, none⟩ ∧ w.cell? ⟨g, off + k, none⟩ = some (.int .u32 (la.getD k 0)) by
    obtain ⟨g, off, e, hc⟩ := ha.addr (by omega); exact ⟨g, off, e, hc k h⟩)
  have I0 := Lib.hid (subInv_zero la lc)
  have wcap := ha.parts.2.1
  have hrn : r ≤ n := by omega
  clear na ha hb wa wb hR hB hlc hr B0 wb2 lb' la' hle
  go_enter Try.func87, Try.ntmps87
  go_wp2_with (first
    | (go_at_call 81; (with_reducible refine (HC.out).mono ?_); rintro e1 w1 ⟨rfl, hb1⟩)
    | (go_at_call 110; refine (HT.out _ hb1).mono ?_; rintro e1 w2 ⟨rfl, hv, rfl⟩))
  go_loopw [6, 7, 8, 9] (fun v6 v7 v8 v9 wr => ∃ (k : Nat) (z : Int) (o : List Int) (a2 : Option Addr) (c2 : Nat), k ≤ n ∧ 0 ≤ z ∧ z ≤ 1 ∧ v6 = .slice a2 k c2 ∧ v7 = .int .u64 z ∧ v8 = .int .i64 k ∧ Below w1.heap.size w1 wr ∧ Hid (wr.ownsRow w1.heap.size 35 1 (.slice a2 k c2) k (o.map (Value.int .u32)) ∧ SubInv la lc k o z))
    (fun _ _ v8 _ _ => n - (intOf v8).toNat)
  case atStart => exact ⟨0, 0, [], none, 0, by omega, by decide, by decide, rfl, rfl, rfl, Below.refl _ _, World.ownsRow_nil _ _ _ _, I0.out⟩
  case round =>
    obtain ⟨k, z, o, a2, c2, hk, z0, z1, rfl, rfl, rfl, hbw, HO⟩ := hrel
    have ga := GA.out k
    have gb := GB.out k
    have zb := ZB.out k
    have HX := Lib.hid (fun t => HN.out k o z t HO.out.2)
    by_cases ka : k < n
    · obtain ⟨g, off, rfl, ca⟩ := HA.out k ka
      have ca' := cell_below hbw (cell_below hb1 ca)
      obtain ⟨x, hx⟩ : ∃ x, la.getD k 0 = x := ⟨_, rfl⟩
      rw [hx] at ca' ga HX
      clear hx ca
      by_cases kb : k < r
      · obtain ⟨g', off', rfl, cb⟩ := HB.out _ k hv kb
        have cb' := cell_below hbw cb
        obtain ⟨y, hy⟩ : ∃ y, lc.getD k 0 = y := ⟨_, rfl⟩
        rw [hy] at cb' gb HX
        clear hy cb zb
        obtain ⟨T, hT⟩ : ∃ T, IntKind.u64.wrap (IntKind.u64.wrap (x - z) - y) = T := ⟨_, rfl⟩
        have hw1 : T % 4294967296 = (x - z - y) % 4294967296 ∧ T / 9223372036854775808 = -((x - z - y) / 4294967296) ∧ 0 ≤ T ∧ T < 18446744073709551616 := by
          rw [← hT]; simp only [IntKind.wrap_u64]; omega
        have HS := Lib.hid (show SubInv la lc (k + 1) (o ++ [T % 4294967296]) (T / 9223372036854775808) by
          rw [hw1.1, hw1.2.1]; exact HX.out _ (by omega))
        have t0 := hw1.2.2.1
        have t1 := hw1.2.2.2
        clear hw1 HX
        go_wp2_with (at_builtin; go_loud (refine wp_app 41 35 (.int .u32 0) 4 Try.underlying41 info_u32 rfl w1.heap.size (.slice a2 k c2) k _ (.int .u32 (T % 4294967296)) wr _ rfl (by rfl) (.tmp 40) (.tmp 43) (by rfl) (by rfl) (by rfl) HO.out.1 hbw.size rfl (by omega) (by decide) ?_); intro v' w' hown hbel)
        obtain ⟨a', c', rfl⟩ := ownsRow_slice hown
        have H := Lib.hid hown
        clear hown
        go_wp2
        go_roundw
        case rel =>
          have N := HS.out
          refine ⟨k + 1, _, o ++ [T % 4294967296], a', c', by omega, N.2.2.1, N.2.2.2.1, rfl, rfl, by go_num, hbw.trans hbel, ?_, N⟩
          have := H.out
          rw [List.map_append]
          exact this
        case measure => simp [intOf]; omega
      · have zb := zb (by omega)
        rw [zb] at HX
        clear gb zb
        obtain ⟨T, hT⟩ : ∃ T, IntKind.u64.wrap (x - z) = T := ⟨_, rfl⟩
        have hw1 : T % 4294967296 = (x - z) % 4294967296 ∧ T / 9223372036854775808 = -((x - z) / 4294967296) ∧ 0 ≤ T ∧ T < 18446744073709551616 := by
          rw [← hT]; simp only [IntKind.wrap_u64]; omega
        have HS := Lib.hid (show SubInv la lc (k + 1) (o ++ [T % 4294967296]) (T / 9223372036854775808) by
          rw [hw1.1, hw1.2.1]; exact HX.out _ (by omega))
        have t0 := hw1.2.2.1
        have t1 := hw1.2.2.2
        clear hw1 HX
        go_wp2_with (at_builtin; go_loud (refine wp_app 41 35 (.int .u32 0) 4 Try.underlying41 info_u32 rfl w1.heap.size (.slice a2 k c2) k _ (.int .u32 (T % 4294967296)) wr _ rfl (by rfl) (.tmp 40) (.tmp 43) (by rfl) (by rfl) (by rfl) HO.out.1 hbw.size rfl (by omega) (by decide) ?_); intro v' w' hown hbel)
        obtain ⟨a', c', rfl⟩ := ownsRow_slice hown
        have H := Lib.hid hown
        clear hown
        go_wp2
        go_roundw
        case rel =>
          have N := HS.out
          refine ⟨k + 1, _, o ++ [T % 4294967296], a', c', by omega, N.2.2.1, N.2.2.2.1, rfl, rfl, by go_num, hbw.trans hbel, ?_, N⟩
          have := H.out
          rw [List.map_append]
          exact this
        case measure => simp [intOf]; omega
    · have E := HE.out k o z HO.out.2 (by omega)
      have HW := Lib.hid E
      clear ga gb zb E HX
      go_wp2_with (go_at_call 106; refine (rnorm_n _ _ _ o _ (own_rd HO.out.1) HW.out.1 (by omega)).mono ?_; rintro e1 w2 ⟨v, rfl, hv2, hb2, hn2⟩)
      go_ret2
      exact ⟨v, rfl, by rw [HW.out.2] at hv2; exact hv2, btn hb1 (btn hbw hb2), fun g hg => Nat.le_trans (btn hb1 hbw).size (hn2 g hg)⟩
/-- A made array of words, of the call's own. -/
def Arr (w : World) (G n : Nat) (o : List Int) : Prop := w.ownsRow G 35 1 (.slice (some ⟨G, 0, none⟩) n n) n (o.map (Value.int .u32))
theorem Arr.len {w : World} {G n : Nat} {o : List Int} (h : Arr w G n o) : o.length = n := by have := h.1; simpa using this
theorem Arr.cell {w : World} {G n : Nat} {o : List Int} (h : Arr w G n o) {j : Nat} (hj : j < n) : w.cell? ⟨G, j, none⟩ = some (.int .u32 (o.getD j 0)) := by
  have hl := h.len
  rw [World.ownsRow.cellAt h j (by omega), List.getElem?_map, List.getElem?_eq_getElem (by omega), List.getD_eq_getElem?_getD, List.getElem?_eq_getElem (by omega)]; rfl
theorem Arr.frozen {w : World} {G n : Nat} {o : List Int} (h : Arr w G n o) (j : Nat) : w.frozen? ⟨G, j, none⟩ = false := World.ownsRow.frozenAt h j
theorem Arr.set {w : World} {G n : Nat} {o : List Int} (h : Arr w G n o) (j : Nat) (x : Int) : Arr (w.setCell ⟨G, j, none⟩ (.int .u32 x)) G n (o.set j x) := by
  have := (World.ownsRow.stored h j (.int .u32 x)).1
  unfold Arr
  rw [List.map_set]; exact this
theorem Arr.rd {w : World} {G n : Nat} {o : List Int} (h : Arr w G n o) : Rd w .u32 (.slice (some ⟨G, 0, none⟩) n n) o := own_rd h
theorem Arr.below {w w' : World} {G n : Nat} {o : List Int} (h : Arr w G n o) (hb : Below w.heap.size w w') : Arr w' G n o := by
  rcases h.2 with ⟨h', _⟩ | ⟨g', cap', cur, h', h3, h4, h5, h6, h7, h8⟩
  · simp at h'
  · simp only [Value.slice.injEq, Option.some.injEq, Addr.mk.injEq, and_true, true_and] at h'
    obtain ⟨rfl, rfl⟩ := h'
    refine ⟨h.1, .inr ⟨_, _, cur, rfl, h3, ?_, h5, h6, h7, h8⟩⟩
    have hl : G < w.heap.size := by
      rcases Nat.lt_or_ge G w.heap.size with h | h
      · exact h
      · rw [Array.getElem?_eq_none h] at h4; simp at h4
    rw [hb.block _ hl]; exact h4
theorem wp_make {P : Program} (T : TypeId) (ht : P.underlying T = some (.slice 35)) (hinfo : (P.info? 35).map (fun i => (i.zero, i.size, i.bytes)) = some (some (.int .u32 0), 1, 4)) (w : World) {ops : Array Oper} {rest : List Oper} {o : Oper} {a : Act} {Q : Exit → Act → World → Prop} (hg : o.guard = none) (l : Operand) (hop : o.op = Op.makeSlice T l l) (L : Int) (n : Nat) (hl : a.eval l = .int .i64 L) (hL : L = (n : Int)) (hn : n ≤ 1000000)
    (hK : ∀ w', Arr w' w.heap.size n (List.replicate n 0) → Below w.heap.size w w' → wpList P ops Q rest (a.put o.dst (.slice (some ⟨w.heap.size, 0, none⟩) n n)) w') : wpList P ops Q (o :: rest) a w := by
  obtain ⟨i0, hi, hz0, hz2, hz3⟩ := info_parts hinfo
  refine wpList_make_full w hg l l T hop w.heap.size 35 i0 (.int .u32 0) 1 ht hi hz0 hz2 .i64 .i64 L L n hl hl hL hL (by rw [hz3]; omega) (by unfold maxLen; omega) (Nat.le_refl _) ?_
  intro w' h1 h2
  refine hK w' ?_ ((Below.refl _ w).grown h2 (Nat.le_refl _) (fun k hk => by simp at hk))
  have e : (madeCells (Value.int .u32 0).cells (n * 1)).toList = (List.replicate n (0 : Int)).map (Value.int .u32) := by
    rw [List.map_replicate, Nat.mul_one]
    exact toList_madeCells_one _ _
  rw [e] at h1
  exact h1
theorem or32_zero {y : Int} (hy : 0 ≤ y ∧ y < 4294967296) : bits .or .u32 0 y = y := by
  obtain ⟨Y, rfl⟩ := Int.eq_ofNat_of_zero_le hy.1
  rw [show (0 : Int) = ((0 : Nat) : Int) from rfl, u32_or_nat _ _ (by decide) (by omega), Nat.zero_or]
theorem or32_join {r : Nat} {z x : Int} (hz : 0 ≤ z ∧ z < (2 : Int) ^ r) (hx : 0 ≤ x ∧ x < 4294967296) (hm : x % (2 : Int) ^ r = 0) (hr : r < 32) : bits .or .u32 z x = z + x ∧ z + x < 4294967296 := by
  obtain ⟨Z, rfl⟩ := Int.eq_ofNat_of_zero_le hz.1
  obtain ⟨X, rfl⟩ := Int.eq_ofNat_of_zero_le hx.1
  have p : ((2 : Int) ^ r) = ((2 ^ r : Nat) : Int) := by rw [Int.natCast_pow]; rfl
  rw [p] at hz hm
  have hz' : Z < 2 ^ r := by omega
  have hm' : X % 2 ^ r = 0 := by have := hm; rw [← Int.natCast_emod] at this; omega
  have e32 : (4294967296 : Nat) = 2 ^ r * 2 ^ (32 - r) := pow_split32 (by omega)
  have hX : X < 4294967296 := by omega
  have hfit : Z + X < 4294967296 := by
    have h1 : X = 2 ^ r * (X / 2 ^ r) := by have := Nat.div_add_mod X (2 ^ r); omega
    have h2 : X / 2 ^ r < 2 ^ (32 - r) := by rw [Nat.div_lt_iff_lt_mul (Nat.two_pow_pos _), Nat.mul_comm, ← e32]; exact hX
    have h3 : 2 ^ r * (X / 2 ^ r + 1) ≤ 2 ^ r * 2 ^ (32 - r) := Nat.mul_le_mul_left _ h2
    rw [← e32, Nat.mul_add, ← h1, Nat.mul_one] at h3
    omega
  have p32 : 2 ^ r ≤ 2 ^ 31 := Nat.pow_le_pow_right (by decide) (by omega)
  have p31 : (2 : Nat) ^ 31 = 2147483648 := by decide
  refine ⟨?_, by omega⟩
  rw [u32_or_nat _ _ (by omega) (by omega), Nat.or_comm, nat_join r X Z hm' hz']
  omega
/-- A shift to the left on its way. -/
def ShlInv (la : List Int) (q r k : Nat) (o : List Int) : Prop := Words o ∧ o.length = la.length + q + 1 ∧ (wv o : Int) = Q q * (2 : Int) ^ r * wv (la.take k) ∧ (∀ j, k + q < j → o.getD j 0 = 0) ∧ o.getD (k + q) 0 < (2 : Int) ^ r
theorem two_pos (r : Nat) : (0 : Int) < (2 : Int) ^ r := by
  have : ((2 : Int) ^ r) = ((2 ^ r : Nat) : Int) := by rw [Int.natCast_pow]; rfl
  rw [this]; exact Int.natCast_pos.2 (Nat.two_pow_pos r)
theorem shlInv_zero (la : List Int) (q r : Nat) : ShlInv la q r 0 (List.replicate (la.length + q + 1) 0) := by
  have z : ∀ j, (List.replicate (la.length + q + 1) (0 : Int)).getD j 0 = 0 := fun j => by
    rw [List.getD_eq_getElem?_getD, List.getElem?_replicate]; split <;> rfl
  refine ⟨words_zeros _, List.length_replicate, ?_, fun j _ => z j, by rw [z]; exact two_pos r⟩
  rw [List.take_zero, wi_nil, wv_zeros']; simp
theorem shl_word {x : Int} {r : Nat} (hx : 0 ≤ x ∧ x < 4294967296) (hr : r < 32) : 0 ≤ x * (2 : Int) ^ r ∧ x * (2 : Int) ^ r < 18446744073709551616 ∧ x * (2 : Int) ^ r % 4294967296 % (2 : Int) ^ r = 0 ∧ x * (2 : Int) ^ r / 4294967296 < (2 : Int) ^ r := by
  obtain ⟨X, rfl⟩ := Int.eq_ofNat_of_zero_le hx.1
  have p : ((2 : Int) ^ r) = ((2 ^ r : Nat) : Int) := by rw [Int.natCast_pow]; rfl
  have s := shl_parts (a := X) (r := r) (by omega) hr
  have e : (X : Int) * (2 : Int) ^ r = ((X * 2 ^ r : Nat) : Int) := by rw [p, Int.natCast_mul]
  rw [e, p]
  refine ⟨Int.natCast_nonneg _, by omega, ?_, by omega⟩
  have h1 : ((X * 2 ^ r : Nat) : Int) % 4294967296 = ((X * 2 ^ r % 4294967296 : Nat) : Int) := by omega
  rw [h1, s.1, ← Int.natCast_emod, Nat.mul_mod_left]; rfl
theorem shlInv_next {la o : List Int} {q r k : Nat} {x X v : Int} (wa : Words la) (hr : r < 32) (I : ShlInv la q r k o) (hk : k < la.length) (hx : la.getD k 0 = x) (hX : x * (2 : Int) ^ r = X) :
    bits .or .u32 (o.getD (k + q) 0) (X % 4294967296) = o.getD (k + q) 0 + X % 4294967296 ∧ o.getD (k + q) 0 + X % 4294967296 < 4294967296 ∧ 0 ≤ o.getD (k + q) 0 ∧ o.getD (k + q) 0 < 4294967296 ∧ 0 ≤ X ∧ X < 18446744073709551616 ∧
    ShlInv la q r (k + 1) ((o.set (k + q) (o.getD (k + q) 0 + X % 4294967296)).set (k + q + 1) (X / 4294967296)) := by
  obtain ⟨h1, h2, h3, h4, h5⟩ := I
  have g := getD_word wa k
  rw [hx] at g
  have sw := shl_word g hr
  rw [hX] at sw
  have gz := getD_word h1 (k + q)
  have j := or32_join ⟨gz.1, h5⟩ (x := X % 4294967296) ⟨by omega, by omega⟩ sw.2.2.1 hr
  have hset : Words (o.set (k + q) (o.getD (k + q) 0 + X % 4294967296)) := words_set h1 (by omega) j.2
  refine ⟨j.1, j.2, gz.1, gz.2, sw.1, sw.2.1, words_set hset (by omega) (by omega), by rw [List.length_set, List.length_set]; exact h2, ?_, ?_, ?_⟩
  · have := shl_step (o := o) (a := la) (i := k) (s := q) (D := (2 : Int) ^ r) (x := X) h1 wa (by omega) (two_pos r) (by rw [hx]; exact hX.symm) h3 (h4 _ (by omega)) j.2
    exact this
  · intro i hi
    rw [getD_set (by rw [List.length_set]; omega), if_neg (by omega), getD_set (by omega), if_neg (by omega)]
    exact h4 i (by omega)
  · rw [getD_set (by rw [List.length_set]; omega), if_pos (by omega)]
    exact sw.2.2.2
theorem shlInv_end {la o : List Int} {q r s : Nat} (I : ShlInv la q r la.length o) (hs : 32 * q + r = s) : Words o ∧ wv o = wv la * 2 ^ s := by
  obtain ⟨h1, h2, h3, h4, h5⟩ := I
  refine ⟨h1, ?_⟩
  rw [List.take_of_length_le (Nat.le_refl _)] at h3
  have e : Q q * (2 : Int) ^ r = ((2 ^ s : Nat) : Int) := by
    unfold Q
    have p : ((2 : Int) ^ r) = ((2 ^ r : Nat) : Int) := by rw [Int.natCast_pow]; rfl
    rw [p, ← Int.natCast_mul, ← Nat.pow_add, hs]
  rw [e, ← Int.natCast_mul] at h3
  have := Int.ofNat_inj.1 h3
  rw [this, Nat.mul_comm]
set_option maxRecDepth 100000 in
set_option maxHeartbeats 2000000 in
theorem rshl_c (a : Option Addr) (n c : Nat) (la : List Int) (s : Nat) (w : World) (ha : Rd w .u32 (.slice a n c) la) (wa : Words la) (hn : n ≤ 2000) (hs : 0 < s) (hb : bl (wv la) + s ≤ 64000) :
    Calls Try.prog 78 #[.slice a n c, .int .i64 (s : Int)] w fun e w' => ∃ v, e = .returned (.tuple #[v, .int .i64 0]) ∧ Nw w' v (wv la * 2 ^ s) ∧ Below w.heap.size w w' := by
  have HL := rlarge_c a n c la w ha wa (by omega)
  rw [show decide (64000 < bl (wv la)) = false from decide_eq_false (by omega)] at HL
  have HL := Lib.hid HL
  have HT := Lib.hid (rtrim_c a n c la w ha wa (by omega))
  have la' := ws_len_le (len_bound wa)
  have na := ha.parts.1
  obtain ⟨A, hA⟩ : ∃ A, wv la = A := ⟨_, rfl⟩
  rw [hA] at HT la' hb ⊢
  have w2 := words_ws A
  have A0 : wv (ws A) = A := wv_ws A
  have HA := Lib.hid (fun (w1 : World) (k : Nat) (hv : Nw w1 (.slice a (ws A).length c) A) (h : k < (ws A).length) => show ∃ g off, a = some ⟨g, off, none⟩ ∧ w1.cell? ⟨g, off + k, none⟩ = some (.int .u32 ((ws A).getD k 0)) by
    obtain ⟨g, off, e, hc⟩ := hv.addr (by omega); exact ⟨g, off, e, hc k h⟩)
  obtain ⟨lc, hlc⟩ : ∃ lc, ws A = lc := ⟨_, rfl⟩
  rw [hlc] at HA la' w2 HT A0
  obtain ⟨m, hm⟩ : ∃ m, lc.length = m := ⟨_, rfl⟩
  rw [hm] at HA la' HT
  obtain ⟨q, hq⟩ : ∃ q, s / 32 = q := ⟨_, rfl⟩
  obtain ⟨r, hr⟩ : ∃ r, s % 32 = r := ⟨_, rfl⟩
  obtain ⟨S, hS⟩ : ∃ S : Int, (s : Int) = S := ⟨_, rfl⟩
  have q0 : S / 32 = (q : Int) := by omega
  have r0 : S % 32 = (r : Int) := by omega
  have hS0 : 0 < S := by omega
  have hS1 : S ≤ 64000 := by omega
  have hqb : q ≤ 2000 := by omega
  have hr32 : r < 32 := by omega
  have hm2 : m ≤ 2000 := by omega
  have hsum : 32 * q + r = s := by omega
  have HI := Lib.hid (shlInv_zero lc q r)
  rw [hm] at HI
  have HN := Lib.hid (fun (o : List Int) (k : Nat) (x X : Int) (I : ShlInv lc q r k o) (hk : k < m) => @shlInv_next lc o q r k x X 0 w2 hr32 I (by omega))
  have HE := Lib.hid (fun (o : List Int) (k : Nat) (I : ShlInv lc q r k o) (hk : k = m) => show Words o ∧ wv o = A * 2 ^ s by
    have := shlInv_end (s := s) (by rw [hm, ← hk]; exact I) hsum
    rw [A0] at this; exact this)
  have HP := Lib.hid (show (ws (A * 2 ^ s)).length ≤ 2000 by
    have := bl_shl A s
    exact ws_len_le (by omega))
  have GW := Lib.hid (fun k => getD_word w2 k)
  rw [hS]
  obtain ⟨N, hN⟩ : ∃ N, A * 2 ^ s = N := ⟨_, rfl⟩
  rw [hN] at HE HP ⊢
  clear hN hA ha wa na hq hr hS hm hlc A0 w2 hsum hb
  go_enter Try.func78, Try.ntmps78
  go_wp2_with (first
    | (go_at_call 111; (with_reducible refine (HL.out).mono ?_); rintro e1 w1 ⟨rfl, rfl⟩)
    | (go_at_call 110; (with_reducible refine (HT.out).mono ?_); rintro e1 w1 ⟨rfl, hv, rfl⟩)
    | (at_make; go_loud (refine wp_make 41 Try.underlying41 info_u32 w rfl (.tmp 27) rfl _ (m + q + 1) rfl (by omega) (by omega) ?_); intro w3 harr hb3))
  have HAR := Lib.hid harr
  clear harr
  go_loopw [7, 8] (fun v7 _ wr => ∃ (k : Nat) (o : List Int), k ≤ m ∧ v7 = .int .i64 k ∧ Below w.heap.size w wr ∧ Hid (Arr wr w.heap.size (m + q + 1) o ∧ ShlInv lc q r k o)) (fun v7 _ _ => m - (intOf v7).toNat)
  case atStart => exact ⟨0, _, by omega, rfl, hb3, HAR.out, HI.out⟩
  case round =>
    obtain ⟨k, o, hk, rfl, hbw, HO⟩ := hrel
    by_cases km : k < m
    · obtain ⟨g, off, rfl, ca⟩ := HA.out _ k hv km
      have ca' := cell_below hbw ca
      have gx := GW.out k
      have HX := HN.out o k
      obtain ⟨x, hx⟩ : ∃ x, lc.getD k 0 = x := ⟨_, rfl⟩
      rw [hx] at ca' gx
      obtain ⟨X, hX⟩ : ∃ X, x * (2 : Int) ^ r = X := ⟨_, rfl⟩
      obtain ⟨j1, j2, j3, j4, j5, j6, j7⟩ := HX x X HO.out.2 km hx hX
      have cz := HO.out.1.cell (j := k + q) (by omega)
      have c1 := (HO.out.1.set (k + q) (o.getD (k + q) 0 + X % 4294967296)).cell (j := k + q + 1) (by omega)
      have hlen := HO.out.1.len
      have ez : (o.set (k + q) (o.getD (k + q) 0 + X % 4294967296)).getD (k + q + 1) 0 = 0 := by
        rw [getD_set (by omega), if_neg (by omega)]; exact HO.out.2.2.2.2.1 _ (by omega)
      rw [ez] at c1
      have f1 := HO.out.1.frozen (k + q)
      have f2 := (HO.out.1.set (k + q) (o.getD (k + q) 0 + X % 4294967296)).frozen (k + q + 1)
      have HZ := Lib.hid ((HO.out.1.set (k + q) (o.getD (k + q) 0 + X % 4294967296)).set (k + q + 1) (X / 4294967296))
      obtain ⟨z, hz⟩ : ∃ z, o.getD (k + q) 0 = z := ⟨_, rfl⟩
      simp only [hz] at j1 j2 j3 j4 j7 cz c1 f2 HZ
      have H7 := Lib.hid j7
      have or0 := or32_zero (y := X / 4294967296) ⟨by omega, by omega⟩
      clear hz hx ca j7 HX ez hlen
      go_wp2
      go_roundw
      case rel => exact ⟨k + 1, _, by omega, by go_num, (hbw.setCell (Nat.le_refl _) _).setCell (Nat.le_refl _) _, HZ.out, H7.out⟩
      case measure => simp [intOf]; omega
    · have E := HE.out o k HO.out.2 (by omega)
      have HW := Lib.hid E
      have HR := Lib.hid HO.out.1.rd
      have HPP := HP.out
      clear E
      go_wp2_with (go_at_call 106; refine (rnorm_c _ _ _ o _ HR.out HW.out.1 (by omega)).mono ?_; rintro e1 w5 ⟨v, rfl, hv5, hb5⟩; rw [HW.out.2] at hv5; obtain ⟨a5, c5, rfl⟩ := Rd.len hv5)
      go_ret2
      exact ⟨_, rfl, hv5, btn hbw hb5⟩
/-- A shift to the right on its way. -/
def ShrInv (la : List Int) (q r k : Nat) (o : List Int) : Prop := o.length = k ∧ Words o ∧ wv o = wv (la.drop q) / 2 ^ r % 2 ^ (32 * k)
theorem shrInv_zero (la : List Int) (q r : Nat) : ShrInv la q r 0 [] := ⟨rfl, words_nil, by rw [Nat.mul_zero, Nat.pow_zero, Nat.mod_one]; rfl⟩
theorem getD_drop (la : List Int) (q k : Nat) : (la.drop q).getD k 0 = la.getD (q + k) 0 := by
  rw [List.getD_eq_getElem?_getD, List.getD_eq_getElem?_getD, List.getElem?_drop]
theorem shrInv_next {la o : List Int} {q r k : Nat} {X Y : Int} (wa : Words la) (hr : r < 32) (I : ShrInv la q r k o) (hX : X = la.getD (q + k) 0 + 4294967296 * la.getD (q + k + 1) 0) (hY : X / (2 : Int) ^ r = Y) : 0 ≤ Y ∧ Y < 18446744073709551616 ∧ ShrInv la q r (k + 1) (o ++ [Y % 4294967296]) := by
  obtain ⟨h1, h2, h3⟩ := I
  have wb := words_drop wa q
  have s := shr_step wb h1 hr h3
  rw [getD_drop, getD_drop, ← Nat.add_assoc] at s
  have g0 := getD_word wa (q + k)
  have g1 := getD_word wa (q + k + 1)
  have p : ((2 : Int) ^ r) = ((2 ^ r : Nat) : Int) := by rw [Int.natCast_pow]; rfl
  have e : Y = ((((la.getD (q + k) 0).toNat + 4294967296 * (la.getD (q + k + 1) 0).toNat) / 2 ^ r : Nat) : Int) := by
    rw [← hY, hX, p, Int.natCast_ediv]; congr 1; omega
  have l := Nat.div_le_self ((la.getD (q + k) 0).toNat + 4294967296 * (la.getD (q + k + 1) 0).toNat) (2 ^ r)
  generalize ((la.getD (q + k) 0).toNat + 4294967296 * (la.getD (q + k + 1) 0).toNat) / 2 ^ r = Z at *
  subst e
  refine ⟨by omega, by omega, by rw [List.length_append, h1]; rfl, words_snoc h2 (by omega) (by omega), ?_⟩
  rw [← s]; rfl
theorem shrInv_end {la o : List Int} {q r s : Nat} {k : Nat} (wa : Words la) (I : ShrInv la q r k o) (hk : la.length ≤ q + k) (hs : 32 * q + r = s) (hr : r < 32) : Words o ∧ wv o = wv la / 2 ^ s := by
  obtain ⟨h1, h2, h3⟩ := I
  refine ⟨h2, ?_⟩
  have hl : (la.drop q).length ≤ k := by rw [List.length_drop]; omega
  have e : wv (la.drop q) / 2 ^ r % 2 ^ (32 * k) = wv (la.drop q) / 2 ^ r := by
    apply Nat.mod_eq_of_lt
    refine Nat.lt_of_le_of_lt (Nat.div_le_self _ _) (Nat.lt_of_lt_of_le (wv_lt (words_drop wa q)) (pow_le ?_))
    omega
  have q0 : s / 32 = q := by omega
  have r0 : s % 32 = r := by omega
  have := shr_all wa s
  rw [q0, r0] at this
  rw [h3, e, this]
def ShrRel (w : World) (lc : List Int) (m q r : Nat) (v9 v10 : Value) (wr : World) : Prop := ∃ (k i : Nat) (o : List Int) (a2 : Option Addr) (c2 : Nat), k ≤ m - q ∧ i ≤ 4000 ∧ v9 = .slice a2 k c2 ∧ v10 = .int .i64 (i : Int) ∧ Hid (i = q + k) ∧ Below w.heap.size w wr ∧ Hid (wr.ownsRow w.heap.size 35 1 (.slice a2 k c2) k (o.map (Value.int .u32)) ∧ ShrInv lc q r k o)
set_option maxRecDepth 100000 in
set_option maxHeartbeats 2000000 in
theorem rshr_c (a : Option Addr) (n c : Nat) (la : List Int) (s : Nat) (w : World) (ha : Rd w .u32 (.slice a n c) la) (wa : Words la) (hn : n ≤ 1000000) (hs : s ≤ 1000000000) (hb : bl (wv la) ≤ 64000) :
    Calls Try.prog 78 #[.slice a n c, .int .i64 (-(s : Int))] w fun e w' => ∃ v, e = .returned (.tuple #[v, .int .i64 0]) ∧ Nw w' v (wv la / 2 ^ s) ∧ Below w.heap.size w w' := by
  have HL := rlarge_c a n c la w ha wa (by omega)
  rw [show decide (64000 < bl (wv la)) = false from decide_eq_false (by omega)] at HL
  have HL := Lib.hid HL
  have HT := Lib.hid (rtrim_c a n c la w ha wa (by omega))
  have la' := ws_len_le (len_bound wa)
  have hm2 : (ws (wv la)).length ≤ 2000 := ws_len_le (by omega)
  have na := ha.parts.1
  obtain ⟨A, hA⟩ : ∃ A, wv la = A := ⟨_, rfl⟩
  rw [hA] at HT la' hb hm2 ⊢
  obtain ⟨S, hS⟩ : ∃ S : Int, (s : Int) = S := ⟨_, rfl⟩
  by_cases big : 64000 ≤ s
  · have e0 : A / 2 ^ s = 0 := Nat.div_eq_of_lt (Nat.lt_of_lt_of_le (bl_lt A) (pow_le (by omega)))
    have HZ := Lib.hid e0
    have hS1 : 64000 ≤ S := by omega
    have hS2 : S ≤ 1000000000 := by omega
    rw [hS]
    clear hA ha wa na hS e0 hb la' hm2
    go_enter Try.func78, Try.ntmps78
    go_wp2_with (first
      | (go_at_call 111; (with_reducible refine (HL.out).mono ?_); rintro e1 w1 ⟨rfl, rfl⟩)
      | (go_at_call 110; (with_reducible refine (HT.out).mono ?_); rintro e1 w1 ⟨rfl, hv, rfl⟩))
    go_ret2
    exact ⟨_, rfl, by rw [HZ.out]; unfold Nw; rw [ws_zero]; exact Rd.nil _ _ _, Below.refl _ _⟩
  have w2 := words_ws A
  have A0 : wv (ws A) = A := wv_ws A
  have HA := Lib.hid (fun (w1 : World) (k : Nat) (hv : Nw w1 (.slice a (ws A).length c) A) (h : k < (ws A).length) => show ∃ g off, a = some ⟨g, off, none⟩ ∧ w1.cell? ⟨g, off + k, none⟩ = some (.int .u32 ((ws A).getD k 0)) by
    obtain ⟨g, off, e, hc⟩ := hv.addr (by omega); exact ⟨g, off, e, hc k h⟩)
  obtain ⟨lc, hlc⟩ : ∃ lc, ws A = lc := ⟨_, rfl⟩
  rw [hlc] at HA la' w2 HT A0 hm2
  obtain ⟨m, hm⟩ : ∃ m, lc.length = m := ⟨_, rfl⟩
  rw [hm] at HA la' HT hm2
  obtain ⟨q, hq⟩ : ∃ q, s / 32 = q := ⟨_, rfl⟩
  obtain ⟨r, hr⟩ : ∃ r, s % 32 = r := ⟨_, rfl⟩
  have q0 : S / 32 = (q : Int) := by omega
  have r0 : S % 32 = (r : Int) := by omega
  have hS0 : 0 ≤ S := by omega
  have hS1 : S < 64000 := by omega
  have hqb : q ≤ 2000 := by omega
  have hr32 : r < 32 := by omega
  have hsum : 32 * q + r = s := by omega
  have HI := Lib.hid (shrInv_zero lc q r)
  have HN := Lib.hid (fun (o : List Int) (k : Nat) (X Y : Int) (I : ShrInv lc q r k o) => @shrInv_next lc o q r k X Y w2 hr32 I)
  have HE := Lib.hid (fun (o : List Int) (k : Nat) (I : ShrInv lc q r k o) (hk : m ≤ q + k) => show Words o ∧ wv o = A / 2 ^ s by
    have := shrInv_end (s := s) w2 I (by omega) hsum hr32
    rw [A0] at this; exact this)
  have GW := Lib.hid (fun k => getD_word w2 k)
  have ZW := Lib.hid (fun (k : Nat) (h : m ≤ k) => @getD0 lc k (by omega))
  obtain ⟨N, hN⟩ : ∃ N, A / 2 ^ s = N := ⟨_, rfl⟩
  rw [hN] at HE ⊢
  rw [hS]
  clear hN hA ha wa na hq hr hS hm hlc A0 w2 hsum hb big
  go_enter Try.func78, Try.ntmps78
  go_wp2_with (first
    | (go_at_call 111; (with_reducible refine (HL.out).mono ?_); rintro e1 w1 ⟨rfl, rfl⟩)
    | (go_at_call 110; (with_reducible refine (HT.out).mono ?_); rintro e1 w1 ⟨rfl, hv, rfl⟩))
  have HQ0 := Lib.hid q0
  clear q0
  go_loopw [9, 10, 11] (fun v9 v10 _ wr => ShrRel w lc m q r v9 v10 wr) (fun _ v10 _ _ => m - (intOf v10).toNat)
  case atStart => unfold ShrRel; exact ⟨0, q, [], none, 0, Nat.zero_le _, by omega, rfl, val_int HQ0.out, Lib.hid rfl, Below.refl _ _, World.ownsRow_nil _ _ _ _, HI.out⟩
  case round =>
    obtain ⟨k, i, o, a2, c2, hk, hi, rfl, rfl, HQ, hbw, HO⟩ := hrel
    by_cases km : i < m
    · obtain ⟨g, off, rfl, ca⟩ := HA.out _ i hv km
      have ca' := cell_below hbw ca
      have gx := GW.out i
      have gy := GW.out (i + 1)
      have HX := HN.out o k
      rw [← HQ.out] at HX
      have zy := ZW.out (i + 1)
      have hkb : k ≤ 2000 := by omega
      have hk2 := HQ.out
      have HK := Lib.hid (show k + 1 ≤ m - q by omega)
      clear hk hk2
      by_cases kn : i + 1 < m
      · obtain ⟨g2, off2, e2, cb⟩ := HA.out _ (i + 1) hv kn
        injection e2 with e2
        injection e2 with e2 e3
        subst e2 e3
        have cb' := cell_below hbw cb
        obtain ⟨x, hx⟩ : ∃ x, lc.getD i 0 = x := ⟨_, rfl⟩
        obtain ⟨y, hy⟩ : ∃ y, lc.getD (i + 1) 0 = y := ⟨_, rfl⟩
        rw [hx] at ca' gx HX
        rw [hy] at cb' gy HX
        have ol := or_low gx gy
        obtain ⟨X, hX⟩ : ∃ X, x + 4294967296 * y = X := ⟨_, rfl⟩
        have X0 : 0 ≤ X := by omega
        have X1 : X < 18446744073709551616 := by omega
        rw [hX] at ol HX
        obtain ⟨Y, hY⟩ : ∃ Y, X / (2 : Int) ^ r = Y := ⟨_, rfl⟩
        obtain ⟨y0, y1, hI⟩ := HX X Y HO.out.2 rfl hY
        have H7 := Lib.hid hI
        clear hx hy hX ca cb hI HX zy
        go_wp2_with (at_builtin; go_loud (refine wp_app 41 35 (.int .u32 0) 4 Try.underlying41 info_u32 rfl w.heap.size (.slice a2 k c2) k _ (.int .u32 (Y % 4294967296)) wr _ rfl (by rfl) (.tmp 115) (.tmp 121) (by rfl) (by rfl) (by rfl) HO.out.1 hbw.size rfl (by omega) (by decide) ?_); intro v' w' hown hbel)
        obtain ⟨a', c', rfl⟩ := ownsRow_slice hown
        have H := Lib.hid hown
        clear hown
        go_wp2
        go_roundw
        case rel =>
          unfold ShrRel
          refine ⟨k + 1, i + 1, o ++ [Y % 4294967296], a', c', HK.out, by omega, rfl, by go_num, Lib.hid (by rw [HQ.out]; rfl), hbw.trans hbel, ?_, H7.out⟩
          have := H.out
          rw [List.map_append]
          exact this
        case measure => simp [intOf]; omega
      · have zy := zy (by omega)
        rw [zy] at HX
        obtain ⟨x, hx⟩ : ∃ x, lc.getD i 0 = x := ⟨_, rfl⟩
        rw [hx] at ca' gx HX
        obtain ⟨Y, hY⟩ : ∃ Y, x / (2 : Int) ^ r = Y := ⟨_, rfl⟩
        obtain ⟨y0, y1, hI⟩ := HX x Y HO.out.2 (by omega) hY
        have H7 := Lib.hid hI
        clear hx ca hI HX zy gy
        go_wp2_with (at_builtin; go_loud (refine wp_app 41 35 (.int .u32 0) 4 Try.underlying41 info_u32 rfl w.heap.size (.slice a2 k c2) k _ (.int .u32 (Y % 4294967296)) wr _ rfl (by rfl) (.tmp 115) (.tmp 121) (by rfl) (by rfl) (by rfl) HO.out.1 hbw.size rfl (by omega) (by decide) ?_); intro v' w' hown hbel)
        obtain ⟨a', c', rfl⟩ := ownsRow_slice hown
        have H := Lib.hid hown
        clear hown
        go_wp2
        go_roundw
        case rel =>
          unfold ShrRel
          refine ⟨k + 1, i + 1, o ++ [Y % 4294967296], a', c', HK.out, by omega, rfl, by go_num, Lib.hid (by rw [HQ.out]; rfl), hbw.trans hbel, ?_, H7.out⟩
          have := H.out
          rw [List.map_append]
          exact this
        case measure => simp [intOf]; omega
    · have E := HE.out o k HO.out.2 (by have := HQ.out; omega)
      have HW := Lib.hid E
      have HR := Lib.hid (own_rd HO.out.1)
      have hkb : k ≤ 2000 := by omega
      clear E hk
      go_wp2_with (go_at_call 106; refine (rnorm_c _ _ _ o _ HR.out HW.out.1 (by omega)).mono ?_; rintro e1 w5 ⟨v, rfl, hv5, hb5⟩)
      go_ret2
      exact ⟨v, rfl, by rw [HW.out.2] at hv5; exact hv5, btn hbw hb5⟩
end Go.Proofs.Ytecgkhijiogggaa
