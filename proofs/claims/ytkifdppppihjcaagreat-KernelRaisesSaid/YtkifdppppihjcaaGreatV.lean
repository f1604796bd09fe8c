/- Texts U5 U8, for this seat. -/
import Derived.Test.YtkifdppppihjcaaGreatU
import Derived.IntWalk
namespace Go.Proofs.YtkifdppppihjcaaGreat
set_option linter.unusedVariables false
set_option linter.unusedSimpArgs false
open Go.RowKit Go.ChangeShapes Go.WideShapes SF
/-- A product on its way: behind i rows; within a row. -/
def MulOut (la lb : List Int) (i : Nat) (o : List Int) : Prop := Words o ∧ o.length = la.length + lb.length ∧ (wv o : Int) = wv (la.take i) * wv lb ∧ ∀ j, i + lb.length ≤ j → o.getD j 0 = 0
def MulIn (la lb : List Int) (i k : Nat) (o : List Int) (c : Int) : Prop := Words o ∧ o.length = la.length + lb.length ∧ (wv o : Int) + Q (i + k) * c = wv (la.take i) * wv lb + Q i * la.getD i 0 * wv (lb.take k) ∧ (∀ j, i + lb.length ≤ j → o.getD j 0 = 0) ∧ 0 ≤ c ∧ c < 4294967296
theorem mulOut_zero (la lb : List Int) : MulOut la lb 0 (List.replicate (la.length + lb.length) 0) := by
  refine ⟨words_zeros _, List.length_replicate, ?_, fun j _ => ?_⟩
  · rw [List.take_zero, wi_nil, wv_zeros']; simp
  · rw [List.getD_eq_getElem?_getD, List.getElem?_replicate]; split <;> rfl
theorem mulIn_zero {la lb o : List Int} {i : Nat} (h : MulOut la lb i o) : MulIn la lb i 0 o 0 := by
  obtain ⟨h1, h2, h3, h4⟩ := h
  exact ⟨h1, h2, by rw [List.take_zero, wi_nil]; simp [h3], h4, by decide, by decide⟩
theorem mulIn_next {la lb o : List Int} {i k : Nat} {c x y z t : Int} (wa : Words la) (wb : Words lb) (h : MulIn la lb i k o c) (hi : i < la.length) (hk : k < lb.length) (hx : la.getD i 0 = x) (hy : lb.getD k 0 = y) (hz : o.getD (i + k) 0 = z) (ht : t = c + x * y + z) :
    MulIn la lb i (k + 1) (o.set (i + k) (t % 4294967296)) (t / 4294967296) := by
  obtain ⟨h1, h2, h3, h4, h5, h6⟩ := h
  have gx := getD_word wa i
  have gy := getD_word wb k
  have gz := getD_word h1 (i + k)
  rw [hx] at gx
  rw [hy] at gy
  rw [hz] at gz
  have f := mul_fits gx gy gz ⟨h5, h6⟩
  rw [← ht] at f
  refine ⟨words_set h1 (by omega) (by omega), by rw [List.length_set]; exact h2, ?_, ?_, f.2.2.2, f.2.2.1⟩
  · rw [hx] at h3 ⊢
    exact mul_step h1 wb (by omega) h3 (by rw [hy, hz]; exact ht)
  · intro j hj
    rw [getD_set (by omega), if_neg (by omega)]
    exact h4 j hj
theorem mulIn_end {la lb o : List Int} {i k : Nat} {c : Int} (wa : Words la) (h : MulIn la lb i k o c) (hi : i < la.length) (hk : k = lb.length) : MulOut la lb (i + 1) (o.set (i + k) c) := by
  subst hk
  obtain ⟨h1, h2, h3, h4, h5, h6⟩ := h
  refine ⟨words_set h1 h5 h6, by rw [List.length_set]; exact h2, mul_row h1 wa (by omega) (h4 _ (Nat.le_refl _)) h5 h3, ?_⟩
  intro j hj
  rw [getD_set (by omega), if_neg (by omega)]
  exact h4 j (by omega)
theorem mulOut_end {la lb o : List Int} {i : Nat} (h : MulOut la lb i o) (hi : la.length ≤ i) : Words o ∧ wv o = wv la * wv lb := by
  obtain ⟨h1, h2, h3, h4⟩ := h
  rw [List.take_of_length_le hi, ← Int.natCast_mul] at h3
  exact ⟨h1, Int.ofNat_inj.1 h3⟩
def MulRelO (w : World) (la lb : List Int) (na nb G : Nat) (v7 : Value) (wr : World) : Prop := ∃ (i : Nat) (o : List Int), i ≤ na ∧ v7 = .int .i64 (i : Int) ∧ Below w.heap.size w wr ∧ Hid (Arr wr G (na + nb) o ∧ MulOut la lb i o)
def MulRelI (w : World) (la lb : List Int) (na nb G i : Nat) (v8 v9 : Value) (wr : World) : Prop := ∃ (k : Nat) (c : Int) (o : List Int), k ≤ nb ∧ 0 ≤ c ∧ c < 4294967296 ∧ v8 = .int .u64 c ∧ v9 = .int .i64 (k : Int) ∧ Below w.heap.size w wr ∧ Hid (Arr wr G (na + nb) o ∧ MulIn la lb i k o c)
theorem Arr.drewN {w : World} {G n : Nat} {o : List Int} (h : Arr w G n o) (k : Nat) : Arr (w.drewN k) G n o := h.below (below_drewN (Below.refl _ _) k)
set_option maxRecDepth 100000 in
set_option maxHeartbeats 4000000 in
theorem rmul_c (a : Option Addr) (n c : Nat) (la : List Int) (b : Option Addr) (m d : Nat) (lb : List Int) (w : World) (ha : Rd w .u32 (.slice a n c) la) (wa : Words la) (hn : n ≤ 1000000) (hb : Rd w .u32 (.slice b m d) lb) (wb : Words lb) (hm : m ≤ 1000000) (hs : bl (wv la) + bl (wv lb) ≤ 64000) :
    Calls Tryz.prog 145 #[.slice a n c, .slice b m d] w fun e w' => ∃ v, e = .returned (.tuple #[v, .int .i64 0]) ∧ Nw w' v (wv la * wv lb) ∧ Below w.heap.size w w' := by
  have HL1 := rlarge_c a n c la w ha wa (by omega)
  have HL2 := rlarge_c b m d lb w hb wb (by omega)
  rw [show decide (64000 < bl (wv la)) = false from decide_eq_false (by omega)] at HL1
  rw [show decide (64000 < bl (wv lb)) = false from decide_eq_false (by omega)] at HL2
  have HL1 := Lib.hid HL1
  have HL2 := Lib.hid HL2
  have HT1 := Lib.hid (rtrim_c a n c la w ha wa (by omega))
  have HT2 := Lib.hid (rtrim_c b m d lb w hb wb (by omega))
  have na2 : (ws (wv la)).length ≤ 2000 := ws_len_le (by omega)
  have nb2 : (ws (wv lb)).length ≤ 2000 := ws_len_le (by omega)
  have HP := Lib.hid (show (ws (wv la * wv lb)).length ≤ 2000 from ws_len_le (by have := bl_mulb (Nat.le_refl (bl (wv la))) (Nat.le_refl (bl (wv lb))); omega))
  clear ha hb wa wb hn hm
  obtain ⟨A, hA⟩ : ∃ A, wv la = A := ⟨_, rfl⟩
  obtain ⟨B, hB⟩ : ∃ B, wv lb = B := ⟨_, rfl⟩
  rw [hA] at HT1 na2 HP hs ⊢
  rw [hB] at HT2 nb2 HP hs ⊢
  have wa := words_ws A
  have wb := words_ws B
  have A0 : wv (ws A) = A := wv_ws A
  have B0 : wv (ws B) = B := wv_ws B
  have HA := Lib.hid (fun (w1 : World) (k : Nat) (hv : Nw w1 (.slice a (ws A).length c) A) (h : k < (ws A).length) => show ∃ g off, a = some ⟨g, off, none⟩ ∧ w1.cell? ⟨g, off + k, none⟩ = some (.int .u32 ((ws A).getD k 0)) by
    obtain ⟨g, off, e, hc⟩ := hv.addr (by omega); exact ⟨g, off, e, hc k h⟩)
  have HB := Lib.hid (fun (w1 : World) (k : Nat) (hv : Nw w1 (.slice b (ws B).length d) B) (h : k < (ws B).length) => show ∃ g off, b = some ⟨g, off, none⟩ ∧ w1.cell? ⟨g, off + k, none⟩ = some (.int .u32 ((ws B).getD k 0)) by
    obtain ⟨g, off, e, hc⟩ := hv.addr (by omega); exact ⟨g, off, e, hc k h⟩)
  obtain ⟨lx, hlx⟩ : ∃ l, ws A = l := ⟨_, rfl⟩
  obtain ⟨ly, hly⟩ : ∃ l, ws B = l := ⟨_, rfl⟩
  rw [hlx] at HA na2 wa HT1 A0
  rw [hly] at HB nb2 wb HT2 B0
  obtain ⟨na, hna⟩ : ∃ m, lx.length = m := ⟨_, rfl⟩
  obtain ⟨nb, hnb⟩ : ∃ m, ly.length = m := ⟨_, rfl⟩
  rw [hna] at HA na2 HT1
  rw [hnb] at HB nb2 HT2
  have HI := mulOut_zero lx ly
  rw [hna, hnb] at HI
  have HI := Lib.hid HI
  have HS := Lib.hid (fun (o : List Int) (i : Nat) (h : MulOut lx ly i o) => mulIn_zero h)
  have HN := Lib.hid (fun (o : List Int) (i k : Nat) (c x y z t : Int) (h : MulIn lx ly i k o c) (hi : i < na) (hk : k < nb) => @mulIn_next lx ly o i k c x y z t wa wb h (by omega) (by omega))
  have HR := Lib.hid (fun (o : List Int) (i k : Nat) (c : Int) (h : MulIn lx ly i k o c) (hi : i < na) (hk : k = nb) => @mulIn_end lx ly o i k c wa h (by omega) (by omega))
  obtain ⟨N, hN⟩ : ∃ N, A * B = N := ⟨_, rfl⟩
  have HE := Lib.hid (fun (o : List Int) (i : Nat) (h : MulOut lx ly i o) (hi : na ≤ i) => show Words o ∧ wv o = N by
    have := mulOut_end h (by omega)
    rw [A0, B0, hN] at this; exact this)
  rw [hN] at HP ⊢
  have GX := Lib.hid (fun k => getD_word wa k)
  have GY := Lib.hid (fun k => getD_word wb k)
  clear hN hA hB wa wb hlx hly hna hnb A0 B0 hs
  go_enter Tryz.func145, Tryz.ntmps145
  go_wp2_with (first
    | (go_at_call 153; (with_reducible refine (HL1.out).mono ?_); rintro e1 w1 ⟨rfl, rfl⟩)
    | (go_at_call 153; (with_reducible refine (HL2.out).mono ?_); rintro e1 w1 ⟨rfl, rfl⟩)
    | (go_at_call 154; (with_reducible refine (HT1.out).mono ?_); rintro e1 w1 ⟨rfl, hva, rfl⟩)
    | (go_at_call 154; (with_reducible refine (HT2.out).mono ?_); rintro e1 w1 ⟨rfl, hvb, rfl⟩)
    | (at_make; go_loud (refine wp_make 37 Tryz.underlying37 info_u32 w rfl (.tmp 24) rfl _ (na + nb) rfl (by omega) (by omega) ?_); intro w3 harr hb3))
  have HAR := Lib.hid harr
  clear harr
  go_loopw [7, 8, 9] (fun v7 _ _ wr => MulRelO w lx ly na nb w.heap.size v7 wr) (fun v7 _ _ _ => na - (intOf v7).toNat)
  case atStart => unfold MulRelO; exact ⟨0, _, by omega, rfl, hb3, HAR.out, HI.out⟩
  case round =>
    obtain ⟨i, o, hi, rfl, hbw, HO⟩ := hrel
    by_cases im : i < na
    · obtain ⟨g, off, rfl, ca⟩ := HA.out _ i hva im
      have gx := GX.out i
      have HN2 := HN.out
      obtain ⟨x, hx⟩ : ∃ x, lx.getD i 0 = x := ⟨_, rfl⟩
      rw [hx] at ca gx
      have HX := Lib.hid hx
      clear hx HN2
      go_wp2
      go_loopw [8, 9] (fun v8 v9 wr => MulRelI w lx ly na nb w.heap.size i v8 v9 wr) (fun _ v9 _ => nb - (intOf v9).toNat)
      case atStart => unfold MulRelI; exact ⟨0, 0, o, by omega, by decide, by decide, rfl, rfl, hbw, HO.out.1, HS.out _ _ HO.out.2⟩
      case round =>
        obtain ⟨k, z0, o2, hk, c0, c1, rfl, rfl, hbw2, HO2⟩ := hrel
        by_cases kb : k < nb
        · obtain ⟨g', off', rfl, cb⟩ := HB.out _ k hvb kb
          have ca2 := cell_below hbw2 ca
          have cb2 := cell_below hbw2 cb
          have gy := GY.out k
          have cz := HO2.out.1.cell (j := i + k) (by omega)
          have gz := getD_word HO2.out.2.1 (i + k)
          have HN2 := HN.out o2 i k z0 x
          obtain ⟨y, hy⟩ : ∃ y, ly.getD k 0 = y := ⟨_, rfl⟩
          obtain ⟨z, hz⟩ : ∃ z, o2.getD (i + k) 0 = z := ⟨_, rfl⟩
          rw [hy] at cb2 gy
          rw [hz] at cz gz
          have P1 := mul_fits gx gy gz ⟨c0, c1⟩
          have P0 : 0 ≤ x * y := Int.mul_nonneg gx.1 gy.1
          obtain ⟨P, hP⟩ : ∃ P, x * y = P := ⟨_, rfl⟩
          have HM := Lib.hid (HN2 y z (z0 + P + z) HO2.out.2 im kb HX.out hy hz (by rw [hP]))
          rw [hP] at P1 P0
          obtain ⟨T, hT⟩ : ∃ T, z0 + P + z = T := ⟨_, rfl⟩
          rw [hT] at P1 HM
          have u1 : IntKind.u64.wrap (x * y) = P := by rw [hP, IntKind.wrap_u64]; omega
          have u2 : IntKind.u64.wrap (z0 + P) = z0 + P := by rw [IntKind.wrap_u64]; omega
          have u3 : IntKind.u64.wrap (z0 + P + z) = T := by rw [hT, IntKind.wrap_u64]; omega
          have u4 : IntKind.i64.wrap ((i : Int) + (k : Int)) = (i : Int) + (k : Int) := IntWalk.i64_in _ (by omega)
          have u5 : ((i : Int) + (k : Int)).toNat = i + k := by omega
          have u6 : 0 ≤ (i : Int) + (k : Int) := by omega
          have u7 : i + k < na + nb := by omega
          have u8 : (i : Int) + (k : Int) < (na : Int) + (nb : Int) := by omega
          have u9 : IntKind.u64.wrap x = x := by rw [IntKind.wrap_u64]; omega
          have u10 : IntKind.u64.wrap y = y := by rw [IntKind.wrap_u64]; omega
          have u11 : IntKind.u64.wrap z = z := by rw [IntKind.wrap_u64]; omega
          have T0 := P1.1
          have T1 := P1.2.1
          have HF := Lib.hid (fun j => (HO2.out.1.drewN j).frozen (i + k))
          have HW := Lib.hid (fun j => (HO2.out.1.drewN j).set (i + k) (T % 4294967296))
          clear hy hz hP hT ca cb P1 HN2 P0
          go_wp2_with fail
          go_quiet (fail)
          have f0 := HO2.out.1.frozen (i + k)
          have f1 := HF.out nq
          clear u1 u2 u3 u4 u5 u9 u10 u11
          go_wp2
          go_roundw
          case rel =>
            unfold MulRelI
            exact ⟨k + 1, _, o2.set (i + k) (T % 4294967296), by omega, HM.out.2.2.2.2.1, HM.out.2.2.2.2.2, rfl, by go_num, (below_drewN hbw2 _).setCell (Nat.le_refl _) _, HW.out _, HM.out⟩
          case measure => simp [intOf]; omega
        · have HM := Lib.hid (HR.out o2 i k z0 HO2.out.2 im (by omega))
          have cz := HO2.out.1.cell (j := i + k) (by omega)
          have f0 := HO2.out.1.frozen (i + k)
          have HW := Lib.hid (HO2.out.1.set (i + k) z0)
          obtain rfl : k = nb := by omega
          clear ca
          go_wp2
          go_roundw
          case rel =>
            unfold MulRelO
            exact ⟨i + 1, _, by omega, by go_num, hbw2.setCell (Nat.le_refl _) _, HW.out, HM.out⟩
          case measure => simp [intOf]; omega
    · have E := HE.out o i HO.out.2 (by omega)
      have HW := Lib.hid E
      have HR2 := Lib.hid HO.out.1.rd
      have HPP := HP.out
      clear E
      go_wp2_with (go_at_call 155; refine (rnorm_c _ _ _ o _ HR2.out HW.out.1 (by omega)).mono ?_; rintro e1 w5 ⟨v, rfl, hv5, hb5⟩; rw [HW.out.2] at hv5; obtain ⟨a5, c5, rfl⟩ := Rd.len hv5)
      go_ret2
      exact ⟨_, rfl, hv5, btn hbw hb5⟩
/-- A quotient on its way, from the highest word. -/
def DivInv (la : List Int) (D : Int) (p : Nat) (o : List Int) (r : Int) : Prop := Words o ∧ o.length = la.length ∧ (wv (la.drop p) : Int) = wv (o.drop p) * D + r ∧ 0 ≤ r ∧ r < D ∧ ∀ j, j < p → o.getD j 0 = 0
theorem divInv_zero (la : List Int) {D : Int} (hD : 0 < D) : DivInv la D la.length (List.replicate la.length 0) 0 := by
  refine ⟨words_zeros _, List.length_replicate, ?_, by decide, hD, fun j _ => ?_⟩
  · rw [List.drop_of_length_le (Nat.le_refl _), List.drop_of_length_le (by rw [List.length_replicate]; exact Nat.le_refl _), wi_nil]; simp
  · rw [List.getD_eq_getElem?_getD, List.getElem?_replicate]; split <;> rfl
theorem divInv_next {la o : List Int} {D : Int} {p : Nat} {r T x : Int} (wa : Words la) (hD : 0 < D) (I : DivInv la D (p + 1) o r) (hp : p < la.length) (hx : la.getD p 0 = x) (hT : r * 4294967296 + x = T) :
    0 ≤ T ∧ 0 ≤ T / D ∧ T / D < 4294967296 ∧ 0 ≤ T % D ∧ T % D < D ∧ DivInv la D p (o.set p (T / D)) (T % D) := by
  obtain ⟨h1, h2, h3, h4, h5, h6⟩ := I
  have g := getD_word wa p
  rw [hx] at g
  have t0 : 0 ≤ T := by omega
  have d0 : 0 ≤ T / D := Int.ediv_nonneg t0 (Int.le_of_lt hD)
  have d1 : T / D < 4294967296 := by
    apply Int.ediv_lt_of_lt_mul hD
    have : (r + 1) * 4294967296 ≤ D * 4294967296 := Int.mul_le_mul_of_nonneg_right (by omega) (by decide)
    rw [Int.mul_comm 4294967296 D]
    omega
  have m0 := Int.emod_nonneg T (show D ≠ 0 by omega)
  have m1 := Int.emod_lt_of_pos T hD
  refine ⟨t0, d0, d1, m0, m1, words_set h1 d0 d1, by rw [List.length_set]; exact h2, ?_, m0, m1, ?_⟩
  · exact small_step h1 wa (by omega) (h6 p (by omega)) hD (by rw [hx]; exact hT.symm) d0 h3
  · intro j hj
    rw [getD_set (by omega), if_neg (by omega)]
    exact h6 j (by omega)
theorem divInv_end {la o : List Int} {D : Nat} {r : Int} (I : DivInv la D 0 o r) : Words o ∧ wv o = wv la / D ∧ r = ((wv la % D : Nat) : Int) := by
  obtain ⟨h1, h2, h3, h4, h5, h6⟩ := I
  rw [List.drop_zero, List.drop_zero] at h3
  obtain ⟨R, rfl⟩ := Int.eq_ofNat_of_zero_le h4
  rw [← Int.natCast_mul, ← Int.natCast_add] at h3
  have e := Int.ofNat_inj.1 h3
  have hR : R < D := by omega
  refine ⟨h1, ?_, ?_⟩
  · rw [e, Nat.add_comm, Nat.add_mul_div_right _ _ (by omega), Nat.div_eq_of_lt hR, Nat.zero_add]
  · rw [e, Nat.add_comm, Nat.add_mul_mod_self_right, Nat.mod_eq_of_lt hR]
theorem or_high {x r : Int} (hx : 0 ≤ x ∧ x < 4294967296) (hr : 0 ≤ r ∧ r < 4294967296) : bits .or .u64 (r * 4294967296) x = r * 4294967296 + x := by
  obtain ⟨X, rfl⟩ := Int.eq_ofNat_of_zero_le hx.1
  obtain ⟨Y, rfl⟩ := Int.eq_ofNat_of_zero_le hr.1
  have e : (Y : Int) * 4294967296 = ((Y * 4294967296 : Nat) : Int) := by omega
  rw [e, u64_or_nat _ _ (by omega) (by omega), nat_join 32 (Y * 4294967296) X (by rw [show (2 : Nat) ^ 32 = 4294967296 by decide]; omega) (by rw [show (2 : Nat) ^ 32 = 4294967296 by decide]; omega)]
  omega
def SmallRel (w : World) (la : List Int) (n G : Nat) (D : Int) (v7 v8 : Value) (wr : World) : Prop := ∃ (p : Nat) (o : List Int) (r : Int), p ≤ n ∧ 0 ≤ r ∧ r < D ∧ v7 = .int .u64 r ∧ v8 = .int .i64 ((p : Int) - 1) ∧ Below w.heap.size w wr ∧ Hid (Arr wr G n o ∧ DivInv la D p o r)
theorem Nw.below {w w' : World} {v : Value} {n : Nat} (h : Nw w v n) (hb : Below w.heap.size w w') : Nw w' v n := Rd.below h hb
set_option maxRecDepth 100000 in
set_option maxHeartbeats 4000000 in
theorem rsmall_c (a : Option Addr) (n c : Nat) (la : List Int) (d : Nat) (w : World) (ha : Rd w .u32 (.slice a n c) la) (wa : Words la) (hn : n ≤ 100000) (d0 : 0 < d) (d1 : d < 4294967296) :
    Calls Tryz.prog 169 #[.slice a n c, .int .u32 (d : Int)] w fun e w' => ∃ v u, e = .returned (.tuple #[v, u]) ∧ Nw w' v (wv la / d) ∧ Nw w' u (wv la % d) ∧ Below w.heap.size w w' := by
  have na := ha.parts.1
  have hcap := ha.parts.2.1
  have HA := Lib.hid (fun (k : Nat) (h : k < n) => show ∃ g off, a = some ⟨g, off, none⟩ ∧ w.cell? ⟨g, off + k, none⟩ = some (.int .u32 (la.getD k 0)) by
    obtain ⟨g, off, e, hc⟩ := ha.addr (by omega); exact ⟨g, off, e, hc k h⟩)
  have GX := Lib.hid (fun k => getD_word wa k)
  obtain ⟨D, hD⟩ : ∃ D : Int, (d : Int) = D := ⟨_, rfl⟩
  have D0 : 0 < D := by omega
  have D1 : D < 4294967296 := by omega
  have HI := divInv_zero la D0
  rw [← na] at HI
  have HI := Lib.hid HI
  have HN := Lib.hid (fun (o : List Int) (p : Nat) (r T x : Int) (I : DivInv la D (p + 1) o r) (hp : p < n) => @divInv_next la o D p r T x wa D0 I (by omega))
  have HE := Lib.hid (fun (o : List Int) (r : Int) (I : DivInv la D 0 o r) => show Words o ∧ wv o = wv la / d ∧ Words [r] ∧ wv [r] = wv la % d by
    rw [← hD] at I
    have := divInv_end I
    refine ⟨this.1, this.2.1, words_cons.2 ⟨⟨by rw [this.2.2]; omega, ?_⟩, words_nil⟩, by rw [this.2.2, wv_one]⟩
    have h5 := I.2.2.2.2.1
    omega)
  rw [hD]
  obtain ⟨N, hN⟩ : ∃ N, wv la / d = N := ⟨_, rfl⟩
  obtain ⟨M, hM⟩ : ∃ N, wv la % d = N := ⟨_, rfl⟩
  rw [hN, hM] at HE ⊢
  clear hN hM hD d0 d1 na ha wa
  go_enter Tryz.func169, Tryz.ntmps169
  go_wp2_with (at_make; go_loud (refine wp_make 37 Tryz.underlying37 info_u32 w rfl (.tmp 10) rfl _ n rfl (by omega) (by omega) ?_); intro w3 harr hb3)
  have HAR := Lib.hid harr
  clear harr
  go_loopw [7, 8] (fun v7 v8 wr => SmallRel w la n w.heap.size D v7 v8 wr) (fun _ v8 _ => (intOf v8 + 1).toNat)
  case atStart => unfold SmallRel; exact ⟨n, _, 0, Nat.le_refl _, by decide, D0, rfl, rfl, hb3, HAR.out, HI.out⟩
  case round =>
    obtain ⟨p, o, r, hp, r0, r1, rfl, rfl, hbw, HO⟩ := hrel
    cases p with
    | zero =>
      have HW := Lib.hid (HE.out o r HO.out.2)
      have HC1 := Lib.hid (rnorm_c _ n n o _ HO.out.1.rd HW.out.1 (by omega))
      go_wp2_with (first
        | (go_at_call 155; (with_reducible refine (HC1.out).mono ?_); rintro e1 w5 ⟨v, rfl, hv5, hb5⟩; rw [HW.out.2.1] at hv5)
        | (go_at_call 155; refine (rnorm_c _ 1 1 [r] _ (rd_one _ _ _) HW.out.2.2.1 (by decide)).mono ?_; rintro e1 w6 ⟨u, rfl, hv6, hb6⟩; rw [HW.out.2.2.2] at hv6))
      go_ret2
      have hb7 := btn ((Below.refl w5.heap.size w5).alloc (Nat.le_refl _) _) hb6
      exact ⟨v, u, rfl, hv5.below hb7, hv6, btn (btn hbw hb5) hb7⟩
    | succ i =>
      obtain ⟨g, off, rfl, ca⟩ := HA.out i (by omega)
      have ca' := cell_below hbw ca
      have gx := GX.out i
      have HN2 := HN.out o i r
      obtain ⟨x, hx⟩ : ∃ x, la.getD i 0 = x := ⟨_, rfl⟩
      rw [hx] at ca' gx
      have ol := or_high gx ⟨r0, by omega⟩
      obtain ⟨T, hT⟩ : ∃ T, r * 4294967296 + x = T := ⟨_, rfl⟩
      obtain ⟨t0, t1, t2, t3, t4, t5⟩ := HN2 T x HO.out.2 (by omega) hx hT
      rw [hT] at ol
      have tm : T < 18446744073709551616 := by omega
      have H5 := Lib.hid t5
      have cz := HO.out.1.cell (j := i) (by omega)
      have f0 := HO.out.1.frozen i
      have HW := Lib.hid (HO.out.1.set i (T / D))
      have hi : i < n := by omega
      clear hx hT ca HN2 t5
      go_wp2
      go_roundw
      case rel =>
        unfold SmallRel
        exact ⟨i, _, _, by omega, t3, t4, rfl, rfl, hbw.setCell (Nat.le_refl _) _, HW.out, H5.out⟩
      case measure => simp [intOf]
theorem Nw.sz {w : World} {a : Option Addr} {n c N : Nat} (h : Nw w (.slice a n c) N) {k : Nat} (hk : bl N ≤ 32 * k) : n ≤ k := by
  have := Rd.parts h
  have := ws_len_le hk
  omega
theorem Nw.slice {w : World} {v : Value} {N : Nat} (h : Nw w v N) : ∃ a n c, v = .slice a n c := by
  obtain ⟨a, c, e⟩ := Rd.len h
  exact ⟨a, _, c, e⟩
variable {w : World} {a b : Option Addr} {n c m d A B : Nat}
theorem rbits_n (ha : Nw w (.slice a n c) A) (hA : bl A ≤ 64000) : Calls Tryz.prog 121 #[.slice a n c] w fun e w' => e = .returned (.int .i64 (bl A : Int)) ∧ w = w' := by
  have := rbits_c a n c (ws A) w ha (words_ws A) (by have := ha.sz (k := 2000) hA; omega)
  rw [wv_ws] at this; exact this
theorem rlow_n (ha : Nw w (.slice a n c) A) (hA : bl A ≤ 64000) : Calls Tryz.prog 124 #[.slice a n c] w fun e w' => e = .returned (.int .u64 ((A % 18446744073709551616 : Nat) : Int)) ∧ w = w' := by
  have := rlow_c a n c (ws A) w ha (words_ws A) (by have := ha.sz (k := 2000) hA; omega)
  rw [wv_ws] at this; exact this
theorem rcmp_n (ha : Nw w (.slice a n c) A) (hA : bl A ≤ 64000) (hb : Nw w (.slice b m d) B) (hB : bl B ≤ 64000) : Calls Tryz.prog 123 #[.slice a n c, .slice b m d] w fun e w' => e = .returned (.int .i64 (cmpI (A : Int) (B : Int))) ∧ Below w.heap.size w w' := by
  have := rncmp_c a n c (ws A) b m d (ws B) w ha (words_ws A) (by have := ha.sz (k := 2000) hA; omega) hb (words_ws B) (by have := hb.sz (k := 2000) hB; omega)
  rw [wv_ws, wv_ws] at this; exact this
/-- One value, new, that reads as a number. -/
def One (w : World) (N : Nat) (e : Ending) (w' : World) : Prop := ∃ a n c, e = .returned (.slice a n c) ∧ Nw w' (.slice a n c) N ∧ Below w.heap.size w w'
/-- And a word that all went well. -/
def OneOk (w : World) (N : Nat) (e : Ending) (w' : World) : Prop := ∃ a n c, e = .returned (.tuple #[.slice a n c, .int .i64 0]) ∧ Nw w' (.slice a n c) N ∧ Below w.heap.size w w'
theorem radd_n (ha : Nw w (.slice a n c) A) (hA : bl A ≤ 64000) (hb : Nw w (.slice b m d) B) (hB : bl B ≤ 64000) : Calls Tryz.prog 146 #[.slice a n c, .slice b m d] w (One w (A + B)) := by
  have := radd_c a n c (ws A) b m d (ws B) w ha (words_ws A) (by have := ha.sz (k := 2000) hA; omega) hb (words_ws B) (by have := hb.sz (k := 2000) hB; omega)
  rw [wv_ws, wv_ws] at this
  refine this.mono ?_
  rintro e w' ⟨v, rfl, hv, hb⟩
  obtain ⟨a, n, c, rfl⟩ := hv.slice
  exact ⟨a, n, c, rfl, hv, hb⟩
theorem rsub_n (ha : Nw w (.slice a n c) A) (hA : bl A ≤ 64000) (hb : Nw w (.slice b m d) B) (h : B ≤ A) : Calls Tryz.prog 151 #[.slice a n c, .slice b m d] w fun e w' => ∃ a n c, e = .returned (.tuple #[.slice a n c, .int .i64 0]) ∧ Nw w' (.slice a n c) (A - B) ∧ Below w.heap.size w w' ∧ New w (.slice a n c) := by
  have hB : bl B ≤ 64000 := Nat.le_trans (bl_mono h) hA
  have := rsub_w a n c (ws A) b m d (ws B) w ha (words_ws A) (by have := ha.sz (k := 2000) hA; omega) hb (words_ws B) (by have := hb.sz (k := 2000) hB; omega) (by rw [wv_ws, wv_ws]; exact h)
  rw [wv_ws, wv_ws] at this
  refine this.mono ?_
  rintro e w' ⟨v, rfl, hv, hb, hn⟩
  obtain ⟨a, n, c, rfl⟩ := hv.slice
  exact ⟨a, n, c, rfl, hv, hb, hn⟩
theorem rsub_o (ha : Nw w (.slice a n c) A) (hA : bl A ≤ 64000) (hb : Nw w (.slice b m d) B) (h : B ≤ A) : Calls Tryz.prog 151 #[.slice a n c, .slice b m d] w (OneOk w (A - B)) :=
  (rsub_n ha hA hb h).mono fun _ _ ⟨a, n, c, h1, h2, h3, _⟩ => ⟨a, n, c, h1, h2, h3⟩
theorem rmul_n (ha : Nw w (.slice a n c) A) (hb : Nw w (.slice b m d) B) (h : bl A + bl B ≤ 64000) : Calls Tryz.prog 145 #[.slice a n c, .slice b m d] w (OneOk w (A * B)) := by
  have := rmul_c a n c (ws A) b m d (ws B) w ha (words_ws A) (by have := ha.sz (k := 2000) (by omega); omega) hb (words_ws B) (by have := hb.sz (k := 2000) (by omega); omega) (by rw [wv_ws, wv_ws]; exact h)
  rw [wv_ws, wv_ws] at this
  refine this.mono ?_
  rintro e w' ⟨v, rfl, hv, hb⟩
  obtain ⟨a, n, c, rfl⟩ := hv.slice
  exact ⟨a, n, c, rfl, hv, hb⟩
theorem rshl_n (s : Nat) (ha : Nw w (.slice a n c) A) (h : bl A + s ≤ 64000) : Calls Tryz.prog 120 #[.slice a n c, .int .i64 (s : Int)] w (OneOk w (A * 2 ^ s)) := by
  by_cases h0 : s = 0
  · subst h0
    have := rshr_c a n c (ws A) 0 w ha (words_ws A) (by have := ha.sz (k := 2000) (by omega); omega) (by decide) (by rw [wv_ws]; omega)
    rw [wv_ws, Nat.pow_zero, Nat.div_one] at this
    rw [Nat.pow_zero, Nat.mul_one]
    refine this.mono ?_
    rintro e w' ⟨v, rfl, hv, hb⟩
    obtain ⟨a, n, c, rfl⟩ := hv.slice
    exact ⟨a, n, c, rfl, hv, hb⟩
  · have := rshl_c a n c (ws A) s w ha (words_ws A) (ha.sz (k := 2000) (by omega)) (by omega) (by rw [wv_ws]; exact h)
    rw [wv_ws] at this
    refine this.mono ?_
    rintro e w' ⟨v, rfl, hv, hb⟩
    obtain ⟨a, n, c, rfl⟩ := hv.slice
    exact ⟨a, n, c, rfl, hv, hb⟩
theorem rshr_n (s : Nat) (ha : Nw w (.slice a n c) A) (h : bl A ≤ 64000) (hs : s ≤ 1000000000) : Calls Tryz.prog 120 #[.slice a n c, .int .i64 (-(s : Int))] w (OneOk w (A / 2 ^ s)) := by
  have := rshr_c a n c (ws A) s w ha (words_ws A) (by have := ha.sz (k := 2000) (by omega); omega) hs (by rw [wv_ws]; exact h)
  rw [wv_ws] at this
  refine this.mono ?_
  rintro e w' ⟨v, rfl, hv, hb⟩
  obtain ⟨a, n, c, rfl⟩ := hv.slice
  exact ⟨a, n, c, rfl, hv, hb⟩
theorem rof_n (x : Nat) (w : World) (hx : W x) : Calls Tryz.prog 122 #[.int .u64 (x : Int)] w (One w x) := by
  refine (rof_c x w hx).mono ?_
  rintro e w' ⟨v, rfl, hv, hb⟩
  obtain ⟨a, n, c, rfl⟩ := hv.slice
  exact ⟨a, n, c, rfl, hv, hb⟩
theorem Nw.setCell {w0 : World} {j : Nat} {G : Nat} {u : Value} (h : Nw w (.slice a n c) A) (hn : New w0 (.slice a n c)) (hG : G < w0.heap.size) : Nw (w.setCell ⟨G, j, none⟩ u) (.slice a n c) A := by
  obtain ⟨e1, e2, e3⟩ := Rd.parts h
  refine ⟨a, c, by rw [e1], by omega, ?_⟩
  rcases e3 with e3 | ⟨g, off, rfl, hc⟩
  · exact .inl e3
  · refine .inr ⟨g, off, rfl, fun i hi => ?_⟩
    have hg : w0.heap.size ≤ g := hn g rfl
    rw [← hc i (by omega)]
    unfold World.cell?
    rw [Below.heap_setCell _ _ _ _ (show g ≠ G by omega)]
end Go.Proofs.YtkifdppppihjcaaGreat

namespace Go.Proofs.YtkifdppppihjcaaGreat
set_option linter.unusedVariables false
set_option linter.unusedSimpArgs false
open Go.RowKit Go.ChangeShapes Go.WideShapes SF

theorem divInv_skip {la o : List Int} {D : Int} {p : Nat} {r T x : Int} (wa : Words la) (hD : 0 < D) (I : DivInv la D (p + 1) o r) (hp : p < la.length) (hx : la.getD p 0 = x) (hT : r * 4294967296 + x = T) (hlt : T < D) : DivInv la D p o T := by
  have h := divInv_next wa hD I hp hx hT
  have e0 : T / D = 0 := Int.ediv_eq_zero_of_lt h.1 hlt
  have e1 : T % D = T := Int.emod_eq_of_lt h.1 hlt
  rw [e0, e1] at h
  have e2 : o.set p 0 = o := by
    apply List.ext_getElem?
    intro i
    by_cases c : p = i
    · subst c
      have hl : p < o.length := by rw [I.2.1]; exact hp
      have := I.2.2.2.2.2 p (by omega)
      rw [List.getD_eq_getElem?_getD, List.getElem?_eq_getElem hl] at this
      rw [List.getElem?_set_self hl, List.getElem?_eq_getElem hl]
      exact congrArg some this.symm
    · rw [List.getElem?_set_ne c]
  rw [e2] at h
  exact h.2.2.2.2.2
/-- A word ahead of a number's words. -/
theorem cons_words (x : Nat) (R : Nat) (hx : x < 4294967296) : Words ((x : Int) :: ws R) ∧ wv ((x : Int) :: ws R) = R * 4294967296 + x := by
  refine ⟨words_cons.2 ⟨⟨by omega, by omega⟩, words_ws R⟩, ?_⟩
  rw [wv, wv_ws, Int.toNat_natCast]; omega
theorem rone_nw (w : World) (m : Nat) (hm : m < 4294967296) (t : TypeId) : Rd (w.alloc (.cells #[.int .u32 (m : Int)] t)) .u32 (.slice (some ⟨w.heap.size, 0, none⟩) 1 1) [(m : Int)] ∧ Words [(m : Int)] ∧ wv [(m : Int)] = m :=
  ⟨rd_one _ _ _, words_cons.2 ⟨⟨by omega, by omega⟩, words_nil⟩, wv_one m⟩
theorem rmul1 {w : World} {b : Option Addr} {n d B m : Nat} (hb : Nw w (.slice b n d) B) (hB : bl B ≤ 63900) (hm : m < 4294967296) (t : TypeId) : Calls Tryz.prog 145 #[.slice b n d, .slice (some ⟨w.heap.size, 0, none⟩) 1 1] (w.alloc (.cells #[.int .u32 (m : Int)] t)) (OneOk w (B * m)) := by
  have h1 := rone_nw w m hm t
  have hb1 : Nw (w.alloc (.cells #[.int .u32 (m : Int)] t)) (.slice b n d) B := hb.below ((Below.refl _ _).alloc (Nat.le_refl _) _)
  have bm : bl m ≤ 32 := bl_le_of_lt (k := 32) (by rw [show (2 : Nat) ^ 32 = 4294967296 by decide]; exact hm)
  have := rmul_c b n d (ws B) (some ⟨w.heap.size, 0, none⟩) 1 1 [(m : Int)] _ hb1 (words_ws B) (by have := hb.sz (k := 2000) (by omega); omega) h1.1 h1.2.1 (by decide) (by rw [wv_ws, h1.2.2]; omega)
  rw [wv_ws, h1.2.2] at this
  refine this.mono ?_
  rintro e w' ⟨v, rfl, hv, hb2⟩
  obtain ⟨a, n, c, rfl⟩ := hv.slice
  exact ⟨a, n, c, rfl, hv, btn ((Below.refl _ _).alloc (Nat.le_refl _) _) hb2⟩
theorem Arr.lt {w : World} {G n : Nat} {o : List Int} (h : Arr w G n o) : G < w.heap.size := (World.ownsRow.lt h G rfl).2
/-- Three values. -/
def Two3 (w : World) (N M : Nat) (e : Ending) (w' : World) : Prop := ∃ a n c b m d, e = .returned (.tuple #[.slice a n c, .slice b m d, .int .i64 0]) ∧ Nw w' (.slice a n c) N ∧ Nw w' (.slice b m d) M ∧ Below w.heap.size w w'
def DivRel (w : World) (la : List Int) (n G B : Nat) (v10 v11 : Value) (wr : World) : Prop := ∃ (p R n5 c5 : Nat) (o : List Int) (a5 : Option Addr), p ≤ n ∧ R < B ∧ v10 = .slice a5 n5 c5 ∧ v11 = .int .i64 ((p : Int) - 1) ∧ Below w.heap.size w wr ∧ Hid (Arr wr G n o ∧ DivInv la (B : Int) p o (R : Int) ∧ Nw wr (.slice a5 n5 c5) R)
def HalfRel (w : World) (B T : Nat) (v12 v13 : Value) (wr : World) : Prop := ∃ lo hi : Nat, 1 ≤ lo ∧ lo ≤ hi ∧ hi < 4294967296 ∧ v12 = .int .u64 (lo : Int) ∧ v13 = .int .u64 (hi : Int) ∧ Below w.heap.size w wr ∧ Hid (lo * B ≤ T ∧ T < (hi + 1) * B)
set_option maxRecDepth 100000 in
set_option maxHeartbeats 4000000 in
theorem rdiv_small {w : World} {a b : Option Addr} {n c m d A B : Nat} (ha : Nw w (.slice a n c) A) (hA : bl A ≤ 64000) (hb : Nw w (.slice b m d) B) (hB : B < 4294967296) (h0 : B ≠ 0) : Calls Tryz.prog 168 #[.slice a n c, .slice b m d] w fun e w' => ∃ a n c b m d, e = .returned (.tuple #[.slice a n c, .slice b m d, .int .i64 0]) ∧ Nw w' (.slice a n c) (A / B) ∧ Nw w' (.slice b m d) (A % B) ∧ Below w.heap.size w w' := by
  have bB : bl B ≤ 32 := bl_le_of_lt (k := 32) (by rw [show (2 : Nat) ^ 32 = 4294967296 by decide]; exact hB)
  have sa := ha.sz (k := 2000) hA
  have HL1 := rlarge_c a n c (ws A) w ha (words_ws A) (by omega)
  have HL2 := rlarge_c b m d (ws B) w hb (words_ws B) (by have := hb.sz (k := 1) bB; omega)
  have HT1 := rtrim_c a n c (ws A) w ha (words_ws A) (by omega)
  have HT2 := rtrim_c b m d (ws B) w hb (words_ws B) (by have := hb.sz (k := 1) bB; omega)
  have e1 : n = (ws A).length := (Rd.parts ha).1
  have e2 : m = (ws B).length := (Rd.parts hb).1
  rw [wv_ws, show decide (64000 < bl A) = false from decide_eq_false (by omega)] at HL1
  rw [wv_ws, show decide (64000 < bl B) = false from decide_eq_false (by omega)] at HL2
  rw [wv_ws, ← e1] at HT1
  rw [wv_ws, ← e2] at HT2
  have m1 : m = 1 := by rw [e2, ws_small hB h0]; rfl
  subst m1
  obtain ⟨g, off, rfl, cb⟩ := Rd.addr hb (by decide)
  have cb := cb 0 (by decide)
  rw [ws_small hB h0, Nat.add_zero] at cb
  have HS := rsmall_c a n c (ws A) B w ha (words_ws A) (by omega) (by omega) hB
  rw [wv_ws] at HS
  have HL1 := Lib.hid HL1
  have HL2 := Lib.hid HL2
  have HT1 := Lib.hid HT1
  have HT2 := Lib.hid HT2
  have HS := Lib.hid HS
  have cb1 : w.cell? ⟨g, off, none⟩ = some (.int .u32 (B : Int)) := cb
  clear cb e1 e2 h0 hB bB ha hb
  go_enter Tryz.func168, Tryz.ntmps168
  go_wp2_with (first
    | (go_at_call 153; (with_reducible refine (HL1.out).mono ?_); rintro e1 w1 ⟨rfl, rfl⟩)
    | (go_at_call 153; (with_reducible refine (HL2.out).mono ?_); rintro e1 w1 ⟨rfl, rfl⟩)
    | (go_at_call 154; (with_reducible refine (HT1.out).mono ?_); rintro e1 w1 ⟨rfl, hva, rfl⟩)
    | (go_at_call 154; (with_reducible refine (HT2.out).mono ?_); rintro e1 w1 ⟨rfl, hvb, rfl⟩)
    | (go_at_call 169; (with_reducible refine (HS.out).mono ?_); rintro e1 w1 ⟨v, u, rfl, hv, hu, hb1⟩; obtain ⟨a1, n1, c1, rfl⟩ := hv.slice; obtain ⟨a2, n2, c2, rfl⟩ := hu.slice))
  go_ret3
  exact ⟨_, _, _, _, _, _, rfl, hv, hu, hb1⟩
theorem cmp_lt0 {A B : Nat} (h : A < B) : cmpI (A : Int) (B : Int) < 0 := by rw [cmpN_lt h]; decide
theorem cmp_ge0 {A B : Nat} (h : B ≤ A) : ¬ cmpI (A : Int) (B : Int) < 0 := by
  rcases Nat.lt_or_ge B A with g | g
  · rw [cmpN_gt g]; decide
  · rw [cmpN_eq (by omega)]; decide
theorem cmp_le0 {A B : Nat} (h : A ≤ B) : cmpI (A : Int) (B : Int) ≤ 0 := by
  rcases Nat.lt_or_ge A B with g | g
  · rw [cmpN_lt g]; decide
  · rw [cmpN_eq (by omega)]; decide
theorem cmp_gt0 {A B : Nat} (h : B < A) : ¬ cmpI (A : Int) (B : Int) ≤ 0 := by rw [cmpN_gt h]; decide
set_option maxRecDepth 100000 in
set_option maxHeartbeats 8000000 in
theorem rdiv_great {w : World} {a b : Option Addr} {n c m d A B : Nat} (ha : Nw w (.slice a n c) A) (hA : bl A ≤ 64000) (hb : Nw w (.slice b m d) B) (hB : 4294967296 ≤ B) (bB : bl B ≤ 63900) : Calls Tryz.prog 168 #[.slice a n c, .slice b m d] w fun e w' => ∃ a n c b m d, e = .returned (.tuple #[.slice a n c, .slice b m d, .int .i64 0]) ∧ Nw w' (.slice a n c) (A / B) ∧ Nw w' (.slice b m d) (A % B) ∧ Below w.heap.size w w' := by
  have sa := ha.sz (k := 2000) hA
  have sb := hb.sz (k := 2000) (by omega)
  have HL1 := rlarge_c a n c (ws A) w ha (words_ws A) (by omega)
  have HL2 := rlarge_c b m d (ws B) w hb (words_ws B) (by omega)
  have HT1 := rtrim_c a n c (ws A) w ha (words_ws A) (by omega)
  have HT2 := rtrim_c b m d (ws B) w hb (words_ws B) (by omega)
  have e1 : n = (ws A).length := (Rd.parts ha).1
  have e2 : m = (ws B).length := (Rd.parts hb).1
  rw [wv_ws, show decide (64000 < bl A) = false from decide_eq_false (by omega)] at HL1
  rw [wv_ws, show decide (64000 < bl B) = false from decide_eq_false (by omega)] at HL2
  rw [wv_ws, ← e1] at HT1
  rw [wv_ws, ← e2] at HT2
  have m2 : 2 ≤ m := by
    rw [e2, ws_length]
    have := lt_bl_of_le (n := B) (k := 32) (by rw [show (2 : Nat) ^ 32 = 4294967296 by decide]; exact hB)
    omega
  have HL1 := Lib.hid HL1
  have HL2 := Lib.hid HL2
  have HT1 := Lib.hid HT1
  have HT2 := Lib.hid HT2
  have wa := words_ws A
  have A0 : wv (ws A) = A := wv_ws A
  have HA := Lib.hid (fun (k : Nat) (h : k < n) => show ∃ g off, a = some ⟨g, off, none⟩ ∧ w.cell? ⟨g, off + k, none⟩ = some (.int .u32 ((ws A).getD k 0)) by
    obtain ⟨g, off, e, hc⟩ := Rd.addr ha (by omega); exact ⟨g, off, e, hc k h⟩)
  obtain ⟨lx, hlx⟩ : ∃ l, ws A = l := ⟨_, rfl⟩
  rw [hlx] at HA wa A0 e1
  have D0 : (0 : Int) < (B : Int) := by omega
  have HI := divInv_zero lx D0
  rw [← e1] at HI
  have HI := Lib.hid HI
  have HN := Lib.hid (fun (o : List Int) (p : Nat) (r T x : Int) (I : DivInv lx (B : Int) (p + 1) o r) (hp : p < n) => @divInv_next lx o (B : Int) p r T x wa D0 I (by omega))
  have HK := Lib.hid (fun (o : List Int) (p : Nat) (r T x : Int) (I : DivInv lx (B : Int) (p + 1) o r) (hp : p < n) => @divInv_skip lx o (B : Int) p r T x wa D0 I (by omega))
  have HE := Lib.hid (fun (o : List Int) (r : Nat) (I : DivInv lx (B : Int) 0 o (r : Int)) => show Words o ∧ wv o = A / B ∧ r = A % B by
    have := divInv_end I
    rw [A0] at this
    exact ⟨this.1, this.2.1, by have := this.2.2; omega⟩)
  have GX := Lib.hid (fun k => getD_word wa k)
  obtain ⟨N, hN⟩ : ∃ N, A / B = N := ⟨_, rfl⟩
  obtain ⟨M, hM⟩ : ∃ N, A % B = N := ⟨_, rfl⟩
  rw [hN, hM] at HE ⊢
  have Hb := Lib.hid hb
  have HBB := Lib.hid bB
  have HB0 := Lib.hid hB
  clear hN hM ha hb hA hB bB e1 e2 hlx A0 wa
  go_enter Tryz.func168, Tryz.ntmps168
  go_wp2_with (first
    | (go_at_call 153; (with_reducible refine (HL1.out).mono ?_); rintro e1 w1 ⟨rfl, rfl⟩)
    | (go_at_call 153; (with_reducible refine (HL2.out).mono ?_); rintro e1 w1 ⟨rfl, rfl⟩)
    | (go_at_call 154; (with_reducible refine (HT1.out).mono ?_); rintro e1 w1 ⟨rfl, hva, rfl⟩)
    | (go_at_call 154; (with_reducible refine (HT2.out).mono ?_); rintro e1 w1 ⟨rfl, hvb, rfl⟩)
    | (at_make; go_loud (refine wp_make 37 Tryz.underlying37 info_u32 w rfl (.tmp 46) rfl _ n rfl (by omega) (by omega) ?_); intro w3 harr hb3))
  have HAR := Lib.hid harr
  clear harr
  go_loopw [10, 11, 12, 13, 14, 15, 16, 17, 18] (fun v10 v11 _ _ _ _ _ _ _ wr => DivRel w lx n w.heap.size B v10 v11 wr) (fun _ v11 _ _ _ _ _ _ _ _ => (intOf v11 + 1).toNat)
  case atStart => unfold DivRel; exact ⟨n, 0, 0, 0, _, none, Nat.le_refl _, by omega, rfl, rfl, hb3, HAR.out, HI.out, by unfold Nw; rw [ws_zero]; exact Rd.nil _ _ _⟩
  case round =>
    obtain ⟨p, R, n5, c5, o, a5, hp, hR, rfl, rfl, hbw, HO⟩ := hrel
    cases p with
    | zero =>
      have HW := HE.out o R HO.out.2.1
      have HW1 := Lib.hid HW.1
      have HW2 := Lib.hid HW.2.1
      have HW3 := Lib.hid HW.2.2
      have HC1 := Lib.hid (rnorm_c _ n n o _ HO.out.1.rd HW.1 (by omega))
      clear HW
      go_wp2_with (go_at_call 155; (with_reducible refine (HC1.out).mono ?_); rintro e1 w5 ⟨v, rfl, hv5, hb5⟩; rw [HW2.out] at hv5; obtain ⟨a6, n6, c6, rfl⟩ := hv5.slice)
      go_ret3
      exact ⟨_, _, _, _, _, _, rfl, hv5, by rw [← HW3.out]; exact HO.out.2.2.below hb5, btn hbw hb5⟩
    | succ i =>
      obtain ⟨g, off, rfl, ca⟩ := HA.out i (by omega)
      have ca' := cell_below hbw ca
      have gx := GX.out i
      obtain ⟨x, hx⟩ : ∃ x, lx.getD i 0 = x := ⟨_, rfl⟩
      rw [hx] at ca' gx
      obtain ⟨X, rfl⟩ := Int.eq_ofNat_of_zero_le gx.1
      have hX : X < 4294967296 := by omega
      have cw := cons_words X R hX
      have hn5 := HO.out.2.2.sz (k := 2000) (by have := bl_mono (Nat.le_of_lt hR); have := HBB.out; omega)
      have hlen := (Rd.parts HO.out.2.2).1
      have bT : bl (R * 4294967296 + X) ≤ 63932 := by
        apply bl_le_of_lt
        have h1 := bl_lt B
        have h2 : R * 4294967296 + X < B * 4294967296 := by omega
        calc R * 4294967296 + X < B * 4294967296 := h2
          _ ≤ 2 ^ bl B * 4294967296 := Nat.mul_le_mul_right _ (Nat.le_of_lt h1)
          _ = 2 ^ (bl B + 32) := by rw [Nat.pow_add]
          _ ≤ 2 ^ 63932 := pow_le (by have := HBB.out; omega)
      have HNX := Lib.hid (fun (T : Nat) (hT : R * 4294967296 + X = T) => HN.out o i (R : Int) (T : Int) (X : Int) HO.out.2.1 (by omega) hx (by omega))
      have HKX := Lib.hid (fun (T : Nat) (hT : R * 4294967296 + X = T) (h : (T : Int) < (B : Int)) => HK.out o i (R : Int) (T : Int) (X : Int) HO.out.2.1 (by omega) hx (by omega) h)
      obtain ⟨T, hT⟩ : ∃ T, R * 4294967296 + X = T := ⟨_, rfl⟩
      have HNX := Lib.hid (HNX.out T hT)
      have HKX := Lib.hid (HKX.out T hT)
      rw [hT] at cw bT
      have HRD := Lib.hid (Rd.below HO.out.2.2 ((Below.refl _ wr).alloc (Nat.le_refl _) (.cells #[.int .u32 (X : Int)] 40)))
      have HGB := Lib.hid (fun w' (h : World.grownBy (wr.alloc (.cells #[.int .u32 (X : Int)] 40)) w' (Value.slice (some ⟨wr.heap.size, 0, none⟩) 1 1).ownBlock) => show Below wr.heap.size wr w' from
        ((Below.refl _ wr).alloc (Nat.le_refl _) _).trans (grown_below (e := 40) h (World.ownsRow_lit wr #[.int .u32 (X : Int)] 1 (Nat.le_refl _) (by decide) rfl) (by simp)))
      have HCW := Lib.hid cw
      have HCMP := Lib.hid (fun (w5 : World) (a6 : Option Addr) (n6 c6 : Nat) (h : Nw w5 (.slice a6 n6 c6) T) (hw : Below w.heap.size w w5) => rcmp_n h (by omega) (Hb.out.below hw) (by have := HBB.out; omega))
      have HMUL := Lib.hid (fun (w1 : World) (K : Nat) (hK : K < 4294967296) (hw : Below w.heap.size w w1) => rmul1 (Hb.out.below hw) HBB.out hK 40)
      have HCMP2 := Lib.hid (fun (w5 : World) (a6 : Option Addr) (n6 c6 : Nat) (a7 : Option Addr) (n7 c7 K : Nat) (h : Nw w5 (.slice a6 n6 c6) T) (h7 : Nw w5 (.slice a7 n7 c7) (B * K)) (hK : K < 4294967296) => rcmp_n h7 (by
        have := bl_mulb (Nat.le_refl (bl B)) (show bl K ≤ 32 from bl_le_of_lt (k := 32) (by rw [show (2 : Nat) ^ 32 = 4294967296 by decide]; exact hK))
        have := HBB.out; omega) h (by omega))
      have HT := Lib.hid bT
      have hlen' : n5 ≤ 2000 := hn5
      have HL := Lib.hid (show 1 + (ws R).length < 1000000000000 by omega)
      have HL2 := Lib.hid (show 1 + (ws R).length ≤ 100000000 by omega)
      have HTB := Lib.hid (show T < 4294967296 * B by omega)
      clear hx ca hn5 hlen bT hT cw
      by_cases lt : T < B
      · have hc := cmp_lt0 lt
        obtain ⟨c0, hc0⟩ : ∃ c0, cmpI (T : Int) (B : Int) = c0 := ⟨_, rfl⟩
        rw [hc0] at HCMP hc
        have HS := Lib.hid (HKX.out (by omega))
        clear hc0
        go_wp2_with (first
          | (at_builtin; go_loud (refine wp_apps 37 40 (.int .u32 0) 4 Tryz.underlying37 info_u32 rfl wr.heap.size (.slice (some ⟨wr.heap.size, 0, none⟩) 1 1) 1 [.int .u32 (X : Int)] rfl (.tmp 59) (.tmp 60) (by rfl) (by rfl) (World.ownsRow_lit wr #[.int .u32 (X : Int)] 1 (Nat.le_refl _) (by decide) rfl) (by simp) .u32 (.slice a5 n5 c5) (ws R) (by rfl) HRD.out HL.out (by decide) ?_); intro v' w4 hown hg hv; obtain ⟨a', c', rfl⟩ := ownsRow_slice hown; have HOWN := Lib.hid hown; have hb4 := HGB.out w4 hg; clear hown hg hv)
          | (go_at_call 155; refine (rnorm_c _ _ _ ((X : Int) :: ws R) _ (own_rd HOWN.out) HCW.out.1 HL2.out).mono ?_; rintro e1 w5 ⟨v, rfl, hv5, hb5⟩; rw [HCW.out.2] at hv5; obtain ⟨a6, n6, c6, rfl⟩ := hv5.slice)
          | (go_at_call 123; refine (HCMP.out _ _ _ _ hv5 (btn hbw (btn hb4 hb5))).mono ?_; rintro e1 w6 ⟨rfl, hb6⟩))
        go_roundw
        case rel =>
          unfold DivRel
          exact ⟨i, T, n6, c6, o, a6, by omega, lt, rfl, rfl, btn hbw (btn hb4 (btn hb5 hb6)), HO.out.1.below (btn hb4 (btn hb5 hb6)), HS.out, hv5.below hb6⟩
        case measure => simp [intOf]
      · have hc := cmp_ge0 (show B ≤ T by omega)
        obtain ⟨c0, hc0⟩ : ∃ c0, cmpI (T : Int) (B : Int) = c0 := ⟨_, rfl⟩
        rw [hc0] at HCMP hc
        clear hc0
        go_wp2_with (first
          | (at_builtin; go_loud (refine wp_apps 37 40 (.int .u32 0) 4 Tryz.underlying37 info_u32 rfl wr.heap.size (.slice (some ⟨wr.heap.size, 0, none⟩) 1 1) 1 [.int .u32 (X : Int)] rfl (.tmp 59) (.tmp 60) (by rfl) (by rfl) (World.ownsRow_lit wr #[.int .u32 (X : Int)] 1 (Nat.le_refl _) (by decide) rfl) (by simp) .u32 (.slice a5 n5 c5) (ws R) (by rfl) HRD.out HL.out (by decide) ?_); intro v' w4 hown hg hv; obtain ⟨a', c', rfl⟩ := ownsRow_slice hown; have HOWN := Lib.hid hown; have hb4 := HGB.out w4 hg; clear hown hg hv)
          | (go_at_call 155; refine (rnorm_c _ _ _ ((X : Int) :: ws R) _ (own_rd HOWN.out) HCW.out.1 HL2.out).mono ?_; rintro e1 w5 ⟨v, rfl, hv5, hb5⟩; rw [HCW.out.2] at hv5; obtain ⟨a6, n6, c6, rfl⟩ := hv5.slice)
          | (go_at_call 123; refine (HCMP.out _ _ _ _ hv5 (btn hbw (btn hb4 hb5))).mono ?_; rintro e1 w6 ⟨rfl, hb6⟩))
        have hbs := btn hb4 (btn hb5 hb6)
        have hv6 := hv5.below hb6
        clear hb4 hb5 hb6 hv5
        go_loopw [12, 13, 14, 15, 16] (fun v12 v13 _ _ _ wq => HalfRel w6 B T v12 v13 wq) (fun v12 v13 _ _ _ _ => (intOf v13 - intOf v12).toNat)
        case atStart => unfold HalfRel; exact ⟨1, 4294967295, by decide, by decide, by decide, rfl, rfl, Below.refl _ _, by omega, by have := HTB.out; omega⟩
        case round =>
          obtain ⟨lo, hi, l1, l2, l3, rfl, rfl, hbq, HH⟩ := hrel
          by_cases hlo : lo < hi
          · obtain ⟨K, hK⟩ : ∃ K : Nat, (lo + hi + 1) / 2 = K := ⟨_, rfl⟩
            have eK : ((lo : Int) + (hi : Int) + 1) / 2 = (K : Int) := by omega
            have k1 : K < 4294967296 := by omega
            have k2 : lo < K := by omega
            have k3 : K ≤ hi := by omega
            have HMK := Lib.hid (HMUL.out _ K k1 (btn (btn hbw hbs) hbq))
            have HC2 := Lib.hid (fun w5 a7 n7 c7 h h7 => HCMP2.out w5 a6 n6 c6 a7 n7 c7 K h h7 k1)
            clear hK
            by_cases le : B * K ≤ T
            · have hc2 := cmp_le0 le
              obtain ⟨c1, hc1⟩ : ∃ c1, cmpI ((B * K : Nat) : Int) (T : Int) = c1 := ⟨_, rfl⟩
              rw [hc1] at hc2 HC2
              have HLE := Lib.hid le
              clear hc1 le
              go_wp2_with (first
                | (go_at_call 145; refine (HMK.out).mono ?_; rintro e1 w7 ⟨a7, n7, c7, rfl, hv7, hb7⟩)
                | (go_at_call 123; refine (HC2.out _ _ _ _ ((hv6.below hbq).below hb7) hv7).mono ?_; rintro e1 w8 ⟨rfl, hb8⟩))
              go_roundw
              case rel =>
                unfold HalfRel
                exact ⟨K, hi, by omega, k3, l3, rfl, rfl, btn hbq (btn hb7 hb8), by rw [Nat.mul_comm]; exact HLE.out, HH.out.2⟩
              case measure => simp [intOf]; omega
            · have hc2 := cmp_gt0 (show T < B * K by omega)
              obtain ⟨c1, hc1⟩ : ∃ c1, cmpI ((B * K : Nat) : Int) (T : Int) = c1 := ⟨_, rfl⟩
              rw [hc1] at hc2 HC2
              have HLE := Lib.hid le
              clear hc1 le
              go_wp2_with (first
                | (go_at_call 145; refine (HMK.out).mono ?_; rintro e1 w7 ⟨a7, n7, c7, rfl, hv7, hb7⟩)
                | (go_at_call 123; refine (HC2.out _ _ _ _ ((hv6.below hbq).below hb7) hv7).mono ?_; rintro e1 w8 ⟨rfl, hb8⟩))
              go_roundw
              case rel =>
                unfold HalfRel
                refine ⟨lo, K - 1, l1, by omega, by omega, rfl, val_int (by omega), btn hbq (btn hb7 hb8), HH.out.1, ?_⟩
                have := HLE.out
                rw [show K - 1 + 1 = K by omega, Nat.mul_comm]; omega
              case measure => simp [intOf]; omega
          · obtain rfl : lo = hi := by omega
            have he := half_end HH.out.1 HH.out.2
            have HL3 := Lib.hid (show B * lo ≤ T by rw [Nat.mul_comm]; exact HH.out.1)
            have HQ := Lib.hid (show T - B * lo = T % B by rw [Nat.mul_comm]; exact he.2)
            have HZ := Lib.hid (show DivInv lx (B : Int) i (o.set i (lo : Int)) ((T % B : Nat) : Int) by
              have := HNX.out.2.2.2.2.2
              rw [← Int.natCast_ediv, he.1, ← Int.natCast_emod] at this
              exact this)
            have HMK := Lib.hid (HMUL.out _ lo l3 (btn (btn hbw hbs) hbq))
            have HA6 := HO.out.1.below (btn hbs hbq)
            have HAA := Lib.hid HA6
            have HB1 : 0 < B := by have := HB0.out; omega
            have HMOD := Lib.hid (Nat.mod_lt T HB1)
            clear he HA6 HB1
            go_wp2_with (first
              | (go_at_call 145; refine (HMK.out).mono ?_; rintro e1 w7 ⟨a7, n7, c7, rfl, hv7, hb7⟩)
              | (go_at_call 151; refine (rsub_n ((hv6.below hbq).below hb7) (Nat.le_trans HT.out (by decide)) hv7 HL3.out).mono ?_; rintro e1 w8 ⟨a8, n8, c8, rfl, hv8, hb8, hn8⟩; have hA8 := HAA.out.below (btn hb7 hb8); have cz := hA8.cell (j := i) (by omega); have f0 := hA8.frozen i))
            go_roundw
            case rel =>
              unfold DivRel
              refine ⟨i, T % B, n8, c8, o.set i (lo : Int), a8, by omega, HMOD.out, rfl, rfl, (btn (btn hbw hbs) (btn hbq (btn hb7 hb8))).setCell (Nat.le_refl _) _, hA8.set i (lo : Int), HZ.out, ?_⟩
              have h := hv8
              rw [HQ.out] at h
              exact h.setCell hn8 (HAA.out.below hb7).lt
            case measure => simp [intOf]
/-- Divide, where it answers. -/
theorem rdiv_n {w : World} {a b : Option Addr} {n c m d A B : Nat} (ha : Nw w (.slice a n c) A) (hA : bl A ≤ 64000) (hb : Nw w (.slice b m d) B) (bB : bl B ≤ 63900) (h0 : B ≠ 0) : Calls Tryz.prog 168 #[.slice a n c, .slice b m d] w (Two3 w (A / B) (A % B)) := by
  by_cases h : B < 4294967296
  · exact rdiv_small ha hA hb h h0
  · exact rdiv_great ha hA hb (by omega) bB
end Go.Proofs.YtkifdppppihjcaaGreat
