/- pairs: the program's and the reference's. -/
import Derived.Test.YtocmgdolinajmaaDoorN
import Derived.Deep.RegionLaw
import Derived.Maps.AppendAt
namespace Go.Proofs.YtocmgdolinajmaaDoor
set_option linter.unusedVariables false
set_option linter.unusedSimpArgs false
open Go.RowKit

/-- append onto a row of the call's own, as a step of a region that draws. -/
theorem step_append_row {P : Program} {ops : Array Oper} {o : Oper} {a : Act} {w : World} {K : Act → World → Prop} {Q : Exit → Act → World → Prop} {E : Prop}
    (hg : o.guard = none) (s x : Operand) (t : TypeId) (hop : o.op = Op.call { callee := Callee.builtin Builtin.append, args := #[s, x], argTypes := #[t, t] })
    (base : Nat) (e : TypeId) (i : TypeInfo) (z : Value) (size bytes : Nat) (h1 : P.underlying t = some (.slice e)) (h2 : P.info? e = some i) (h3 : i.zero = some z) (h4 : i.size = size) (h5 : i.bytes = bytes) (h6 : z.cells.size = size) (h7 : 0 < size)
    (v : Value) (n : Nat) (xs : List Value) (hs : a.eval s = v) (hown : w.ownsRow base e size v n xs)
    (ad : Addr) (m c : Nat) (news : List Value) (hx : a.eval x = .slice (some ad) m c) (hn : news.length = m * size) (hc : ∀ j u, news[j]? = some u → w.cell? (ad.add j) = some u) (h1c : ∀ u ∈ news, u.oneCell' = true)
    (b1 : n + m ≤ maxLen) (b2 : (n + m) * bytes ≤ 140737488355328) (hbase : base ≤ w.heap.size)
    (hK : ∀ v' w', w'.ownsRow base e size v' (n + m) (xs ++ news) → w.grownBy w' v.ownBlock → (v'.ownBlock = v.ownBlock ∨ v'.ownBlock = some w.heap.size) → K (a.put o.dst v') w') :
    if Region.wanted o (yielded ops a.tmps) = true then Oper.wp P o a w K Q else E := by
  have hw : Region.wanted o (yielded ops a.tmps) = true := by simp [Region.wanted, hg]
  rw [if_pos hw]
  obtain ⟨v', w', hrun, r1, r2, _, r4⟩ := run_append_own_at (P := P) w base t o.type e i z size bytes h1 h2 h3 h4 h5 h6 h7 v n xs hown ad m c news hn hc h1c b1 b2 hbase
  unfold Oper.wp
  simp [execOp, hop, resolve, invoke, builtin, hs, hx, hrun, Result.andThen]
  exact hK v' w' r1 r2 r4
theorem info_pair (e : TypeId) (h : (Tryd.prog.info? e).map (fun i => (i.zero.map (·.cells.size), i.size, i.bytes)) = some (some 2, 2, 48)) : ∃ i z, Tryd.prog.info? e = some i ∧ i.zero = some z ∧ i.size = 2 ∧ i.bytes = 48 ∧ z.cells.size = 2 := by
  obtain ⟨i, hi, h⟩ := Option.map_eq_some_iff.1 h
  simp only [Prod.mk.injEq] at h
  obtain ⟨z, hz, hs⟩ := Option.map_eq_some_iff.1 h.1
  exact ⟨i, z, hi, hz, h.2.1, h.2.2, hs⟩
theorem info_p1 : ∃ i z, Tryd.prog.info? 46 = some i ∧ i.zero = some z ∧ i.size = 2 ∧ i.bytes = 48 ∧ z.cells.size = 2 := info_pair 46 (by kernel_rfl)
theorem info_p2 : ∃ i z, Tryd.prog.info? 47 = some i ∧ i.zero = some z ∧ i.size = 2 ∧ i.bytes = 48 ∧ z.cells.size = 2 := info_pair 47 (by kernel_rfl)
theorem ownsRow_slicek {w : World} {B : Nat} {e : TypeId} {k : Nat} {v : Value} {n : Nat} {xs : List Value} (h : w.ownsRow B e k v n xs) : ∃ a c, v = .slice a n c := by
  rcases h.2 with ⟨rfl, rfl⟩ | ⟨g, c, cur, rfl, _⟩
  · exact ⟨_, _, rfl⟩
  · exact ⟨_, _, rfl⟩
theorem own_atk {w : World} {B e k n : Nat} {v : Value} {xs : List Value} (h : w.ownsRow B e k v n xs) {g : Nat} (hg : v.ownBlock = some g) : ∃ cur, w.heap[g]? = some (.cells cur e (0, 0)) := by
  rcases h.2 with ⟨rfl, _⟩ | ⟨g', cap, cur, rfl, _, hh, _⟩
  · cases hg
  · have e1 : g' = g := by simpa [Value.ownBlock] using hg
    subst e1
    exact ⟨cur, hh⟩
/-- A row of another type stays where one grows. -/
theorem own_other {w w' : World} {B e1 e2 k1 k2 n m : Nat} {v u : Value} {xs ys : List Value} (h1 : w.ownsRow B e1 k1 v n xs) (h2 : w.ownsRow B e2 k2 u m ys) (hne : e1 ≠ e2) (hg : w.grownBy w' v.ownBlock) : w'.ownsRow B e2 k2 u m ys := by
  obtain ⟨l, r⟩ := h2
  refine ⟨l, ?_⟩
  rcases r with r | ⟨g, cap, cur, rfl, hB, hh, r⟩
  · exact .inl r
  · refine .inr ⟨g, cap, cur, rfl, hB, (hg.block g ?_ ?_).trans hh, r⟩
    · rcases Nat.lt_or_ge g w.heap.size with hlt | hge
      · exact hlt
      · rw [Array.getElem?_eq_none hge] at hh; cases hh
    · intro he
      obtain ⟨c, hc⟩ := own_atk h1 he.symm
      rw [hh] at hc
      injection hc with hc
      injection hc with _ ht
      exact hne ht.symm
/-- Cells of so many pairs. -/
def PV (w : World) (ls : List (List Int × List Int)) (i : Nat) (xs : List Value) : Prop := xs.length = i * 2 ∧ ∀ j, j < i → ∃ nv tv, xs[j * 2]? = some nv ∧ xs[j * 2 + 1]? = some tv ∧ Rd w .u8 nv (ls.getD j ([], [])).1 ∧ Rd w .u8 tv (ls.getD j ([], [])).2
theorem PV.more {w : World} {ls : List (List Int × List Int)} {i : Nat} {xs : List Value} {nv tv : Value} (h : PV w ls i xs) (h1 : Rd w .u8 nv (ls.getD i ([], [])).1) (h2 : Rd w .u8 tv (ls.getD i ([], [])).2) : PV w ls (i + 1) (xs ++ [nv, tv]) := by
  refine ⟨by rw [List.length_append, h.1]; simp; omega, fun j hj => ?_⟩
  have hl := h.1
  by_cases e : j = i
  · subst e
    exact ⟨nv, tv, by rw [List.getElem?_append_right (by omega), hl, Nat.sub_self]; rfl, by rw [List.getElem?_append_right (by omega), hl, show j * 2 + 1 - j * 2 = 1 by omega]; rfl, h1, h2⟩
  · obtain ⟨a, b, k1, k2, k3, k4⟩ := h.2 j (by omega)
    exact ⟨a, b, by rw [List.getElem?_append_left (by omega)]; exact k1, by rw [List.getElem?_append_left (by omega)]; exact k2, k3, k4⟩
theorem Pm.of_own {w0 w : World} {B e : Nat} {v : Value} {ls : List (List Int × List Int)} {xs : List Value} (h : w.ownsRow B e 2 v ls.length xs) (hp : PV w0 ls ls.length xs) (hb : Below w0.heap.size w0 w) : Pm w v ls := by
  rcases h.2 with ⟨rfl, h0⟩ | ⟨g, cap, cur, rfl, hB, hh, hc, _⟩
  · have : ls = [] := List.eq_nil_of_length_eq_zero h0
    subst this
    exact ⟨none, 0, rfl, Nat.le_refl _, .inl rfl⟩
  · refine ⟨_, cap, rfl, hc, .inr ⟨g, 0, rfl, fun i hi => ?_⟩⟩
    obtain ⟨nv, tv, k1, k2, k3, k4⟩ := hp.2 i hi
    have ad : ∀ j, (⟨g, 0, none⟩ : Addr).add j = ⟨g, 0 + j, none⟩ := by intro j; unfold Addr.add; split <;> simp_all
    refine ⟨nv, tv, ?_, ?_, k3.below hb, k4.below hb⟩
    · have := h.cells (g := g) rfl (i * 2) nv k1
      rwa [ad] at this
    · have := h.cells (g := g) rfl (i * 2 + 1) tv k2
      rwa [ad, ← Nat.add_assoc] at this
def tot (ls : List (List Int × List Int)) : Nat := (ls.map fun p => 1 + p.1.length + p.2.length).sum
theorem tot_take {ls : List (List Int × List Int)} {i : Nat} (h : i < ls.length) : tot (ls.take (i + 1)) = tot (ls.take i) + 1 + (ls.getD i ([], [])).1.length + (ls.getD i ([], [])).2.length := by
  unfold tot
  rw [List.take_succ_eq_append_getElem h, List.map_append, List.sum_append]
  simp [List.getD_eq_getElem?_getD, List.getElem?_eq_getElem h]
  omega
theorem tot_le {ls : List (List Int × List Int)} {i : Nat} : tot (ls.take i) ≤ tot ls := by
  have := congrArg tot (List.take_append_drop i ls)
  unfold tot at this ⊢
  rw [List.map_append, List.sum_append] at this
  omega
theorem tot_len (ls : List (List Int × List Int)) : ls.length ≤ tot ls := by
  induction ls with
  | nil => simp
  | cons p r ih => unfold tot at ih ⊢; simp; omega
theorem two_cells {w : World} {x y : Value} {T : TypeId} : ∀ j u, [x, y][j]? = some u → (w.alloc (.cells #[x, y] T)).cell? ((⟨w.heap.size, 0, none⟩ : Addr).add j) = some u := by
  intro j u hj
  have e : (w.alloc (.cells #[x, y] T)).heap[w.heap.size]? = some (.cells #[x, y] T (0, 0)) := heap_alloc_new w _
  have ha : (⟨w.heap.size, 0, none⟩ : Addr).add j = ⟨w.heap.size, j, none⟩ := by unfold Addr.add; split <;> simp_all
  rw [ha, cell_of_row _ _ _ _ _ _ e]
  simpa using hj
theorem grow_two {w wr w' : World} {X : Obj} {e1 e2 n m k : Nat} {v u : Value} {xs ys : List Value} (h1 : wr.ownsRow w.heap.size e1 2 v n xs) (h2 : wr.ownsRow w.heap.size e2 2 u m ys) (hne : e1 ≠ e2) (hb : Below w.heap.size w wr) (hg : ((wr.alloc X).drewN k).grownBy w' v.ownBlock) : Below w.heap.size w w' ∧ w'.ownsRow w.heap.size e2 2 u m ys := by
  have a1 : ((wr.alloc X).drewN k).ownsRow w.heap.size e1 2 v n xs := h1.alloc X
  have a2 : ((wr.alloc X).drewN k).ownsRow w.heap.size e2 2 u m ys := h2.alloc X
  have b1 : Below w.heap.size w ((wr.alloc X).drewN k) := below_drewN (hb.alloc hb.size X) k
  exact ⟨b1.grown hg b1.size (fun g hg => (a1.lt g hg).1), own_other a1 a2 hne hg⟩
set_option maxRecDepth 100000 in
set_option maxHeartbeats 16000000 in
theorem pairs_c (v : Value) (ls : List (List Int × List Int)) (w : World) (hv : Pm w v ls) (ht : tot ls ≤ 1048576) :
    Calls Tryd.prog 20 #[v] w fun e w' => Below w.heap.size w w' ∧ ∃ a1 c1 a2 c2, e = .returned (.tuple #[.slice a1 ls.length c1, .slice a2 ls.length c2, .bool (decide (tot ls ≤ 400))]) ∧ Hid (Pm w' (.slice a1 ls.length c1) ls ∧ Pm w' (.slice a2 ls.length c2) ls) := by
  have HV := Lib.hid hv
  obtain ⟨ap, cp, rfl, _⟩ := hv
  have hlen := tot_len ls
  obtain ⟨M, hM⟩ : ∃ M, ls.length = M := ⟨_, rfl⟩
  have HM := Lib.hid hM
  rw [hM] at HV hlen ⊢
  have PA := Lib.hid (fun w' (hb : Below w.heap.size w w') (i : Nat) (hi : i < M) => (HV.out.below hb).at_ (i := i) (by have := HM.out; omega))
  have P0 := Lib.hid (fun (i : Nat) (hi : i < M) => HV.out.at_ (i := i) (by have := HM.out; omega))
  have TT := Lib.hid (fun (i : Nat) (hi : i < M) => tot_take (ls := ls) (i := i) (by have := HM.out; omega))
  have TL := Lib.hid (fun (i : Nat) => tot_le (ls := ls) (i := i))
  obtain ⟨i0, z0, hi0, hz0, hz1, hz2, hz3⟩ := info_p1
  obtain ⟨i1, z1, gi0, gz0, gz1, gz2, gz3⟩ := info_p2
  have HT := Lib.hid ht
  have HMB : Hid (M ≤ 1048576) := Lib.hid (by omega)
  clear hM HV ht
  go_enter Tryd.func20, Tryd.ntmps20
  go_wp2
  go_loopw [5, 6, 7, 8] (fun x5 x6 x7 x8 wr => ∃ (i : Nat) (a5 a6 : Option Addr) (c5 c6 T : Nat), i ≤ M ∧ x5 = .slice a5 i c5 ∧ x6 = .slice a6 i c6 ∧ x7 = .int .i64 T ∧ x8 = .int .i64 i ∧ Below w.heap.size w wr ∧ Hid (tot (ls.take i) = T) ∧ Hid (∃ xs, wr.ownsRow w.heap.size 46 2 (.slice a5 i c5) i xs ∧ PV w ls i xs) ∧ Hid (∃ ys, wr.ownsRow w.heap.size 47 2 (.slice a6 i c6) i ys ∧ PV w ls i ys)) (fun _ _ _ x8 _ => M - (intOf x8).toNat)
  case atStart => exact ⟨0, none, none, 0, 0, 0, Nat.zero_le _, rfl, rfl, rfl, rfl, Below.refl _ _, Lib.hid (by simp [tot]), Lib.hid ⟨[], World.ownsRow_nil _ _ _ _, ⟨rfl, fun j hj => by omega⟩⟩, Lib.hid ⟨[], World.ownsRow_nil _ _ _ _, ⟨rfl, fun j hj => by omega⟩⟩⟩
  case round =>
    obtain ⟨i, a5, a6, c5, c6, T, hi, rfl, rfl, rfl, rfl, hbw, HTT, HX, HY⟩ := hrel
    by_cases hiM : i < M
    · obtain ⟨g, off, rfl, nv, tv, k0, k1, r0, r1⟩ := P0.out i hiM
      have gMB := HMB.out
      obtain ⟨na, nc, rfl⟩ := r0.len
      obtain ⟨ta, tc, rfl⟩ := r1.len
      have hT1 := TT.out i hiM
      have hT2 := TL.out (i + 1)
      have R0 := Lib.hid r0
      have R1 := Lib.hid r1
      obtain ⟨n1, hn1⟩ : ∃ n1, (ls.getD i ([], [])).1.length = n1 := ⟨_, rfl⟩
      obtain ⟨t1, ht1⟩ : ∃ t1, (ls.getD i ([], [])).2.length = t1 := ⟨_, rfl⟩
      rw [hn1] at k0 hT1 R0
      rw [ht1] at k1 hT1 R1
      have HTN : Hid (tot (ls.take (i + 1)) = T + 1 + n1 + t1 ∧ T + 1 + n1 + t1 ≤ 1048576) := Lib.hid ⟨by rw [hT1, HTT.out], by have := HTT.out; have := HT.out; omega⟩
      have hbig := HTN.out.2
      have w1 : IntKind.i64.wrap ((T : Int) + 1) = (T : Int) + 1 := IntWalk.i64_in _ (by omega)
      have w2 : IntKind.i64.wrap ((T : Int) + 1 + n1) = (T : Int) + 1 + n1 := IntWalk.i64_in _ (by omega)
      have w3 : IntKind.i64.wrap ((T : Int) + 1 + n1 + t1) = (T : Int) + 1 + n1 + t1 := IntWalk.i64_in _ (by omega)
      have K0 := Lib.hid k0
      have K1 := Lib.hid k1
      have j0 := cell_below hbw k0
      have j1 := cell_below hbw k1
      clear hn1 ht1 r0 r1 hT1 hT2 PA P0 TT TL k0 k1
      have hgw : g < w.heap.size := World.block_lt_of_cell? w _ K0.out
      have hgr : g < wr.heap.size := by have := hbw.size; omega
      obtain ⟨xs, hx1, hx2⟩ := HX.out
      obtain ⟨ys, hy1, hy2⟩ := HY.out
      have PX1 := hx2.more R0.out R1.out
      have PY1 := hy2.more R0.out R1.out
      have OX : Hid (((wr.alloc (.cells #[.slice na n1 nc, .slice ta t1 tc] 46)).drew.drew).ownsRow w.heap.size 46 2 (.slice a5 i c5) i xs) := Lib.hid (hx1.alloc _)
      have OS : Hid (w.heap.size ≤ ((wr.alloc (.cells #[.slice na n1 nc, .slice ta t1 tc] 46)).drew.drew).heap.size) := Lib.hid (Nat.le_trans hbw.size (by show wr.heap.size ≤ (wr.alloc _).heap.size; simp))
      have AT : Hid (∀ j u, [Value.slice na n1 nc, .slice ta t1 tc][j]? = some u → ((wr.alloc (.cells #[.slice na n1 nc, .slice ta t1 tc] 46)).drew.drew).cell? ((⟨wr.heap.size, 0, none⟩ : Addr).add j) = some u) := Lib.hid two_cells
      have FIN1 : Hid (∀ v1 w5, w5.ownsRow w.heap.size 46 2 v1 (i + 1) (xs ++ [.slice na n1 nc, .slice ta t1 tc]) → ((wr.alloc (.cells #[.slice na n1 nc, .slice ta t1 tc] 46)).drew.drew).grownBy w5 (Value.slice a5 i c5).ownBlock → w5.cell? ⟨g, off + i * 2, none⟩ = some (.slice na n1 nc) ∧ w5.cell? ⟨g, off + i * 2 + 1, none⟩ = some (.slice ta t1 tc) ∧ g < w5.heap.size ∧ w.heap.size ≤ w5.heap.size ∧
          Hid (w5.ownsRow w.heap.size 46 2 v1 (i + 1) (xs ++ [.slice na n1 nc, .slice ta t1 tc]) ∧ w5.ownsRow w.heap.size 47 2 (.slice a6 i c6) i ys ∧ PV w ls (i + 1) (xs ++ [.slice na n1 nc, .slice ta t1 tc]) ∧ PV w ls (i + 1) (ys ++ [.slice na n1 nc, .slice ta t1 tc]) ∧ Below w.heap.size w w5)) := by
        refine Lib.hid fun v1 w5 ho hg => ?_
        obtain ⟨g1, g2⟩ := grow_two (k := 2) hx1 hy1 (by decide) hbw hg
        exact ⟨cell_below g1 K0.out, cell_below g1 K1.out, by have := g1.size; omega, g1.size, Lib.hid ⟨ho, g2, PX1, PY1, g1⟩⟩
      clear HX HY hx1 hx2 hy1 hy2 PX1 PY1 R0 R1
      go_wp2_with fail
      go_big_region
      all_goals
        go_wp2_with fail
        go_region_law (refine step_append_row rfl (.tmp 31) (.tmp 43) 32 rfl w.heap.size 46 i0 z0 2 48 Tryd.underlying32 hi0 hz0 hz1 hz2 hz3 (by decide) (.slice a5 i c5) i xs (by simp [Act.eval, Act.put]) OX.out ⟨wr.heap.size, 0, none⟩ 1 1 [.slice na n1 nc, .slice ta t1 tc] (by simp [Act.eval, Act.put]) rfl AT.out (by simp [Value.oneCell']) (by have := HMB.out; unfold maxLen; omega) (by have := HMB.out; omega) OS.out ?_; intro v1 w5 hown hg hat; obtain ⟨f1, f2, f3, f4, F5⟩ := FIN1.out _ _ hown hg; obtain ⟨b5, d5, rfl⟩ := ownsRow_slicek hown; clear hown hg hat)
        all_goals
          go_wp2_with fail
          have OY := Lib.hid (F5.out.2.1)
          have AT2 := Lib.hid (two_cells (w := w5) (x := .slice na n1 nc) (y := .slice ta t1 tc) (T := 47))
          have FIN2 : Hid (∀ v2 w6, w6.ownsRow w.heap.size 47 2 v2 (i + 1) (ys ++ [.slice na n1 nc, .slice ta t1 tc]) → ((w5.alloc (.cells #[.slice na n1 nc, .slice ta t1 tc] 47)).drewN 1).grownBy w6 (Value.slice a6 i c6).ownBlock → Below w.heap.size w w6 ∧ Hid ((∃ xs, w6.ownsRow w.heap.size 46 2 (.slice b5 (i + 1) d5) (i + 1) xs ∧ PV w ls (i + 1) xs) ∧ PV w ls (i + 1) (ys ++ [.slice na n1 nc, .slice ta t1 tc]))) := by
            refine Lib.hid fun v2 w6 ho hg => ?_
            obtain ⟨g1, g2⟩ := grow_two F5.out.2.1 F5.out.1 (by decide) F5.out.2.2.2.2 hg
            exact ⟨g1, Lib.hid ⟨⟨_, g2, F5.out.2.2.1⟩, F5.out.2.2.2.1⟩⟩
          go_region_law (refine step_append_row rfl (.tmp 45) (.tmp 57) 33 rfl w.heap.size 47 i1 z1 2 48 Tryd.underlying33 gi0 gz0 gz1 gz2 gz3 (by decide) (.slice a6 i c6) i ys (by simp [Act.eval, Act.put]) ((OY.out).alloc _) ⟨w5.heap.size, 0, none⟩ 1 1 [.slice na n1 nc, .slice ta t1 tc] (by simp [Act.eval, Act.put]) rfl AT2.out (by simp [Value.oneCell']) (by have := HMB.out; unfold maxLen; omega) (by have := HMB.out; omega) (Nat.le_trans f4 (by show w5.heap.size ≤ (w5.alloc _).heap.size; simp)) ?_; intro v2 w6 hown hg hat; obtain ⟨h1, H2⟩ := FIN2.out _ _ hown hg; have O6 := Lib.hid hown; obtain ⟨b6, d6, rfl⟩ := ownsRow_slicek hown; clear hown hg hat)
          all_goals
            go_wp2_with fail
            go_roundw
            case rel => exact ⟨i + 1, b5, b6, d5, d6, T + 1 + n1 + t1, by omega, rfl, rfl, by first | rfl | go_num, by go_num, h1, Lib.hid HTN.out.1, Lib.hid H2.out.1, Lib.hid ⟨_, O6.out, H2.out.2⟩⟩
            case measure => simp [intOf]; omega
    · have hi2 : i = M := by omega
      subst hi2
      have PX : Hid (Pm wr (.slice a5 i c5) ls ∧ Pm wr (.slice a6 i c6) ls) := by
        obtain ⟨xs, h1, h2⟩ := HX.out
        obtain ⟨ys, h3, h4⟩ := HY.out
        rw [← HM.out] at h1 h2 h3 h4 ⊢
        exact Lib.hid ⟨Pm.of_own h1 h2 hbw, Pm.of_own h3 h4 hbw⟩
      have TE : Hid (tot ls = T) := Lib.hid (by rw [← HTT.out, ← HM.out, List.take_length])
      clear HX HY PA P0 TT TL
      by_cases h4 : T ≤ 400
      · have e : Hid (decide (tot ls ≤ 400) = true) := Lib.hid (by rw [TE.out]; simpa using h4)
        have h5 : (T : Int) ≤ 400 := by omega
        go_wp2_with fail
        go_ret3
        exact ⟨hbw, _, _, _, _, by rw [e.out] <;> rfl, PX⟩
      · have e : Hid (decide (tot ls ≤ 400) = false) := Lib.hid (by rw [TE.out]; simpa using h4)
        have h5 : ¬ (T : Int) ≤ 400 := by omega
        go_wp2_with fail
        go_ret3
        exact ⟨hbw, _, _, _, _, by rw [e.out] <;> rfl, PX⟩
end Go.Proofs.YtocmgdolinajmaaDoor
