/- New: any list of events. -/
import Derived.Test.YthigimmlhgdchaaE
import Derived.Deep.RegionLaw
import Derived.Maps.AppendAt
namespace Go.Proofs.Ythigimmlhgdchaa
set_option linter.unusedVariables false
set_option linter.unusedSimpArgs false
open Go.RowKit

/-- A list of events that is read. -/
def Evs (w : World) (v : Value) (l : List (Int × Int)) : Prop :=
  ∃ a c, v = .slice a l.length c ∧ l.length ≤ c ∧ (l = [] ∨ ∃ g off, a = some ⟨g, off, none⟩ ∧ ∀ i, i < l.length → w.cell? ⟨g, off + i * 2, none⟩ = some (.int .i64 (l.getD i (0, 0)).1) ∧ w.cell? ⟨g, off + i * 2 + 1, none⟩ = some (.int .i64 (l.getD i (0, 0)).2))
theorem Evs.below {w w1 : World} {v : Value} {l : List (Int × Int)} (h : Evs w v l) (hb : Below w.heap.size w w1) : Evs w1 v l := by
  obtain ⟨a, c, e, hc, hr⟩ := h
  refine ⟨a, c, e, hc, ?_⟩
  rcases hr with h | ⟨g, off, ea, hcell⟩
  · exact .inl h
  · exact .inr ⟨g, off, ea, fun i hi => ⟨cell_below hb (hcell i hi).1, cell_below hb (hcell i hi).2⟩⟩
def ev3 (l : List (Int × Int)) : List (Int × Int × Int) := l.mapIdx fun i e => (e.1, e.2, (i : Int))
def cell3 (e : Int × Int × Int) : List Value := [.int .i64 e.1, .int .i64 e.2.1, .int .i64 e.2.2]
def cells3 (l : List (Int × Int × Int)) : List Value := l.flatMap cell3
theorem ev3_take {l : List (Int × Int)} {i : Nat} (h : i < l.length) : ev3 (l.take (i + 1)) = ev3 (l.take i) ++ [((l.getD i (0, 0)).1, (l.getD i (0, 0)).2, (i : Int))] := by
  unfold ev3
  rw [List.take_add_one, List.getElem?_eq_getElem h, Option.toList_some, List.mapIdx_concat]
  simp [List.getD_eq_getElem?_getD, List.getElem?_eq_getElem h, Nat.min_eq_left (Nat.le_of_lt h)]
theorem cells3_concat (l : List (Int × Int × Int)) (e : Int × Int × Int) : cells3 (l ++ [e]) = cells3 l ++ cell3 e := by simp [cells3]
/-- Is an event one that New takes? -/
def okE (e : Int × Int) : Prop := 0 ≤ e.1 ∧ e.1 ≤ 1099511627776 ∧ (isC e.2 = true ∨ (isC e.2 = false ∧ 16777216 ≤ e.2 ∧ e.2 ≤ 285212671))
/-- append onto a row of the call's own, as a step of a region that draws. -/
theorem step_append_row {P : Program} {ops : Array Oper} {o : Oper} {a : Act} {w : World} {K : Act → World → Prop} {Q : Exit → Act → World → Prop} {E : Prop}
    (hg : o.guard = none) (s x : Operand) (t : TypeId) (hop : o.op = Op.call { callee := Callee.builtin Builtin.append, args := #[s, x], argTypes := #[t, t] })
    (base : Nat) (e : TypeId) (i : TypeInfo) (z : Value) (size bytes : Nat) (h1 : P.underlying t = some (.slice e)) (h2 : P.info? e = some i) (h3 : i.zero = some z) (h4 : i.size = size) (h5 : i.bytes = bytes) (h6 : z.cells.size = size) (h7 : 0 < size)
    (v : Value) (n : Nat) (xs : List Value) (hs : a.eval s = v) (hown : w.ownsRow base e size v n xs)
    (ad : Addr) (m c : Nat) (news : List Value) (hx : a.eval x = .slice (some ad) m c) (hn : news.length = m * size) (hc : ∀ j u, news[j]? = some u → w.cell? (ad.add j) = some u) (h1c : ∀ u ∈ news, u.oneCell' = true)
    (b1 : n + m ≤ maxLen) (b2 : (n + m) * bytes ≤ 140737488355328) (hbase : base ≤ w.heap.size)
    (hK : ∀ v' w', w'.ownsRow base e size v' (n + m) (xs ++ news) → w.grownBy w' v.ownBlock → (v'.ownBlock = v.ownBlock ∨ v'.ownBlock = some w.heap.size) → K (a.put o.dst v') w') :
    if Region.wanted o (yielded ops a.tmps) = true then Oper.wp P o a w K Q else E := by
  have hw : Region.wanted o (yielded ops a.tmps) = true := by simp [Region.wanted, hg]
  rw [if_pos hw]
  obtain ⟨v', w', hrun, r1, r2, _, r4⟩ := run_append_own_at (P := P) w base t o.type e i z size bytes h1 h2 h3 h4 h5 h6 h7 v n xs hown ad m c news hn hc h1c b1 b2 hbase
  unfold Oper.wp
  simp [execOp, hop, resolve, invoke, builtin, hs, hx, hrun, Result.andThen]
  exact hK v' w' r1 r2 r4
theorem info_event : (Try.prog.info? 58).map (fun i => (i.zero.map (·.cells.size), i.size, i.bytes)) = some (some 3, 3, 24) := by kernel_rfl
theorem info_event_parts : ∃ i z, Try.prog.info? 58 = some i ∧ i.zero = some z ∧ i.size = 3 ∧ i.bytes = 24 ∧ z.cells.size = 3 := by
  obtain ⟨i, hi, h⟩ := Option.map_eq_some_iff.1 info_event
  simp only [Prod.mk.injEq] at h
  obtain ⟨z, hz, hs⟩ := Option.map_eq_some_iff.1 h.1
  exact ⟨i, z, hi, hz, h.2.1, h.2.2, hs⟩
theorem ownsRow_slice3 {w : World} {B : Nat} {e : TypeId} {k : Nat} {v : Value} {n : Nat} {xs : List Value} (h : w.ownsRow B e k v n xs) : ∃ a c, v = .slice a n c := by
  rcases h.2 with ⟨rfl, rfl⟩ | ⟨g, c, cur, rfl, _⟩
  · exact ⟨_, _, rfl⟩
  · exact ⟨_, _, rfl⟩
theorem ownsRow_same {w w' : World} {B e k : Nat} {v : Value} {n : Nat} {xs : List Value} (h : w.ownsRow B e k v n xs) (hk : ∀ g, v.ownBlock = some g → w'.heap[g]? = w.heap[g]?) : w'.ownsRow B e k v n xs := by
  obtain ⟨h1, h2⟩ := h
  refine ⟨h1, ?_⟩
  rcases h2 with h2 | ⟨g, cap, cur, rfl, hb, hh, r⟩
  · exact .inl h2
  · exact .inr ⟨g, cap, cur, rfl, hb, (hk g rfl).trans hh, r⟩
theorem ownsRow_base {w : World} {B e k : Nat} {v : Value} {n : Nat} {xs : List Value} (h : w.ownsRow B e k v n xs) : ∀ g, v.ownBlock = some g → B ≤ g ∧ g < w.heap.size := h.lt
/-- The events' field is written with the row that has grown. -/
theorem clk_grown {T : TypeId} {e b : Nat} {s n : Int} {w0 W w1 : World} {v v' : Value} {m k : Nat} {xs ys : List Value} (hC : Clk T w0 b s n v) (hR : w0.ownsRow (b + 1) e 3 v m xs) (hW : Below w0.heap.size w0 W) (hB : ∀ w, Below b w w0 → True)
    (h1 : w1.ownsRow (b + 1) e 3 v' k ys) (hg : W.grownBy w1 v.ownBlock) :
    w1.cell? ⟨b, 2, none⟩ = some v ∧ w1.frozen? ⟨b, 2, none⟩ = false ∧ Clk T (w1.setCell ⟨b, 2, none⟩ v') b s n v' ∧ (w1.setCell ⟨b, 2, none⟩ v').ownsRow (b + 1) e 3 v' k ys ∧ (∀ w, w.heap.size ≤ b → Below w.heap.size w w0 → Below w.heap.size w (w1.setCell ⟨b, 2, none⟩ v')) := by
  have hCW := hC.below hW
  have hne : v.ownBlock ≠ some b := fun h => by have := (ownsRow_base hR b h).1; omega
  have hC1 : Clk T w1 b s n v := hCW.same (hg.block b hCW.lt (fun h => hne h.symm))
  refine ⟨hC1.c2, hC1.fz 2, hC1.set2 v', ?_, ?_⟩
  · exact ownsRow_same h1 (fun g hg' => Below.heap_setCell _ _ _ _ (by have := (ownsRow_base h1 g hg').1; show g ≠ b; omega))
  · intro w hw hb
    have hs : w.heap.size ≤ w0.heap.size := hb.size
    have b1 : Below w.heap.size w W := below_then hb hs hW
    have b2 : Below w.heap.size w w1 := b1.grown hg (Nat.le_trans hs hW.size) (fun k hk => by have := (ownsRow_base hR k hk).1; omega)
    exact b2.setCell hw _
set_option maxHeartbeats 8000000 in
theorem new_gen (l : List (Int × Int)) (v : Value) (s : Int) (w : World) (R : World → Value → World → Prop) (hv : Evs w v l) (hl : l.length ≤ 2000) (hok : ∀ e ∈ l, okE e) (s0 : 0 ≤ s) (s1 : s ≤ 8589934592)
    (IN : ∀ wx v', Clk 54 wx w.heap.size s 0 v' → wx.ownsRow (w.heap.size + 1) 58 3 v' l.length (cells3 (ev3 l)) → Calls Try.prog 20 #[.iface 60 (.pointer (some ⟨w.heap.size, 2, none⟩))] wx fun e w' => e = .returned (.tuple #[]) ∧ R wx v' w') :
    Calls Try.prog 9 #[.int .i64 s, v] w fun e w' =>
    e = .returned (.tuple #[.pointer (some ⟨w.heap.size, 0, none⟩), .int .i64 0]) ∧ ∃ wx v', Clk 54 wx w.heap.size s 0 v' ∧ wx.ownsRow (w.heap.size + 1) 58 3 v' l.length (cells3 (ev3 l)) ∧ Below w.heap.size w wx ∧ R wx v' w' := by
  have HE := Lib.hid hv
  obtain ⟨a, c, rfl, hc, hr⟩ := hv
  obtain ⟨L, hL⟩ : ∃ L, l.length = L := ⟨_, rfl⟩
  rw [hL] at hc hl
  have HL := Lib.hid hL
  have HO := Lib.hid hok
  have HI := Lib.hid IN
  have HR := Lib.hid hr
  rw [hL]
  clear hL IN hr hok
  go_enter Try.func9, Try.ntmps9
  go_wp2_with fail
  go_loopw [23] (fun v23 wx => ∃ i : Nat, i ≤ L ∧ v23 = .int .i64 i ∧ ∃ v', Clk 54 wx w.heap.size s 0 v' ∧ Hid (wx.ownsRow (w.heap.size + 1) 58 3 v' i (cells3 (ev3 (l.take i)))) ∧ Below w.heap.size w wx) (fun v23 _ => L - (intOf v23).toNat)
  case atStart => exact ⟨0, Nat.zero_le _, rfl, .slice none 0 0, heap_alloc_new w _, Lib.hid (World.ownsRow_nil _ _ _ _), (Below.refl _ _).alloc (Nat.le_refl _) _⟩
  case round =>
    obtain ⟨i, hi, rfl, v', hC, hR, hB⟩ := hrel
    by_cases hiL : i < L
    · obtain ⟨g, off, rfl, hcell⟩ : ∃ g off, a = some ⟨g, off, none⟩ ∧ ∀ i, i < l.length → w.cell? ⟨g, off + i * 2, none⟩ = some (.int .i64 (l.getD i (0, 0)).1) ∧ w.cell? ⟨g, off + i * 2 + 1, none⟩ = some (.int .i64 (l.getD i (0, 0)).2) := by
        rcases HR.out with h | h
        · have := HL.out; rw [h] at this; simp at this; omega
        · exact h
      obtain ⟨T, hT⟩ : ∃ T, (l.getD i (0, 0)).1 = T := ⟨_, rfl⟩
      obtain ⟨C, hCC⟩ : ∃ C, (l.getD i (0, 0)).2 = C := ⟨_, rfl⟩
      have k := hcell i (by have := HL.out; omega)
      have k0 := cell_below hB k.1
      have k1 := cell_below hB k.2
      rw [hT] at k0
      rw [hCC] at k1
      clear hcell k
      have hk : okE (T, C) := by
        have := HO.out (l.getD i (0, 0)) (by have := HL.out; rw [List.getD_eq_getElem?_getD, List.getElem?_eq_getElem (by omega)]; simp)
        rw [← hT, ← hCC]; exact this
      have t0 : 0 ≤ T := hk.1
      have t1 : T ≤ 1099511627776 := hk.2.1
      have IS := Lib.hid (fun w => is_c C w)
      have c2 := hC.c2
      have bA : Below wr.heap.size wr (wr.alloc (.cells #[.int .i64 T, .int .i64 C] 32)) := (Below.refl _ _).alloc (Nat.le_refl _) _
      have bB : Below wr.heap.size wr ((wr.alloc (.cells #[.int .i64 T, .int .i64 C] 32)).alloc (.cells #[.int .i64 T, .int .i64 C, .int .i64 i] 58)) := bA.alloc (by simp) _
      have c2a := (hC.below bA).c2
      have c2b := (hC.below bB).c2
      obtain ⟨i0, z0, hi0, hz0, hz1, hz2, hz3⟩ := info_event_parts
      have OW : Hid ((((wr.alloc (.cells #[.int .i64 T, .int .i64 C] 32)).alloc (.cells #[.int .i64 T, .int .i64 C, .int .i64 i] 58)).drew).ownsRow (w.heap.size + 1) 58 3 v' i (cells3 (ev3 (l.take i)))) :=
        Lib.hid ((hR.out.alloc _).alloc _)
      have FIN : Hid (∀ v'' w1, w1.ownsRow (w.heap.size + 1) 58 3 v'' (i + 1) (cells3 (ev3 (l.take i)) ++ [.int .i64 T, .int .i64 C, .int .i64 i]) → (((wr.alloc (.cells #[.int .i64 T, .int .i64 C] 32)).alloc (.cells #[.int .i64 T, .int .i64 C, .int .i64 i] 58)).drew).grownBy w1 v'.ownBlock →
          w1.cell? ⟨w.heap.size, 2, none⟩ = some v' ∧ w1.frozen? ⟨w.heap.size, 2, none⟩ = false ∧ Hid (Clk 54 (w1.setCell ⟨w.heap.size, 2, none⟩ v'') w.heap.size s 0 v'' ∧ (w1.setCell ⟨w.heap.size, 2, none⟩ v'').ownsRow (w.heap.size + 1) 58 3 v'' (i + 1) (cells3 (ev3 (l.take (i + 1)))) ∧ Below w.heap.size w (w1.setCell ⟨w.heap.size, 2, none⟩ v''))) := by
        refine Lib.hid fun v'' w1 h1 hg => ?_
        have := clk_grown hC hR.out (below_drewN bB 1) (fun _ _ => trivial) h1 hg
        refine ⟨this.1, this.2.1, Lib.hid ⟨this.2.2.1, ?_, this.2.2.2.2 w (Nat.le_refl _) hB⟩⟩
        rw [ev3_take (by have := HL.out; omega), cells3_concat, hT, hCC]
        exact this.2.2.2.1
      have AT : Hid (∀ j u, [Value.int .i64 T, .int .i64 C, .int .i64 i][j]? = some u → (((wr.alloc (.cells #[.int .i64 T, .int .i64 C] 32)).alloc (.cells #[.int .i64 T, .int .i64 C, .int .i64 i] 58)).drew).cell? ((⟨wr.heap.size + 1, 0, none⟩ : Addr).add j) = some u) := by
        refine Lib.hid fun j u hj => ?_
        have e : ((((wr.alloc (.cells #[.int .i64 T, .int .i64 C] 32)).alloc (.cells #[.int .i64 T, .int .i64 C, .int .i64 i] 58)).drew)).heap[wr.heap.size + 1]? = some (.cells #[.int .i64 T, .int .i64 C, .int .i64 i] 58) := by
          have := heap_alloc_new (wr.alloc (.cells #[.int .i64 T, .int .i64 C] 32)) (.cells #[.int .i64 T, .int .i64 C, .int .i64 i] 58)
          rw [show (wr.alloc (.cells #[.int .i64 T, .int .i64 C] 32)).heap.size = wr.heap.size + 1 by simp] at this
          exact this
        have ha : (⟨wr.heap.size + 1, 0, none⟩ : Addr).add j = ⟨wr.heap.size + 1, j, none⟩ := by unfold Addr.add; split <;> simp_all
        rw [ha, cell_of_row _ _ _ _ _ _ e]
        simpa using hj
      have hs0 : w.heap.size + 1 ≤ wr.heap.size := hC.lt
      have hkk := hk.2.2
      clear hk
      have hk2 : (i : Int) < L := by omega
      clear HE HO HI
      rcases hkk with hc1 | ⟨hc1, hc2, hc3⟩
      all_goals
        rw [hc1] at IS
        clear hc1
        clear hC hR hB bA bB hT hCC
        go_wp2_with (go_at_call 19; (with_reducible refine (IS.out _).mono ?_); rintro e w' ⟨rfl, rfl⟩)
        go_region_law (refine step_append_row rfl (.tmp 56) (.tmp 60) 52 rfl (w.heap.size + 1) 58 i0 z0 3 24 Try.underlying52 hi0 hz0 hz1 hz2 hz3 (by decide) v' i (cells3 (ev3 (l.take i))) (by simp [Act.eval, Act.put]) OW.out ⟨wr.heap.size + 1, 0, none⟩ 1 1 [.int .i64 T, .int .i64 C, .int .i64 i] (by simp [Act.eval, Act.put]) rfl AT.out (by simp [Value.oneCell']) (by unfold maxLen; omega) (by omega) (by simp; omega) ?_; intro v'' w1 hown hg hat; obtain ⟨a1, d1, rfl⟩ := ownsRow_slice3 hown; obtain ⟨hc1, hf1, hend⟩ := FIN.out _ _ hown hg; clear hown hg hat)
        all_goals
          go_wp2_with fail
          go_roundw
          case rel => exact ⟨i + 1, by omega, by push_cast; rfl, _, hend.out.1, Lib.hid hend.out.2.1, hend.out.2.2⟩
          case measure => simp [intOf]; omega
    · have e : i = L := by omega
      subst e
      have hR2 := hR.out
      rw [List.take_of_length_le (by have := HL.out; omega)] at hR2
      have h2 : wr.ownsRow (w.heap.size + 1) 58 3 v' l.length (cells3 (ev3 l)) := by rw [HL.out]; exact hR2
      have IX := Lib.hid (HI.out wr v' hC h2)
      have c2 := hC.c2
      have EN := Lib.hid (And.intro hC (And.intro hR2 hB))
      clear HE HO HI h2 hR2 hR hC hB HR
      go_wp2_with (go_at_call 20; (with_reducible refine (IX.out).mono ?_); rintro e w' ⟨rfl, hw⟩)
      go_ret2
      exact ⟨rfl, _, _, EN.out.1, EN.out.2.1, EN.out.2.2, hw⟩
theorem new_one (g : Nat) (w : World) (h0 : w.cell? ⟨g, 0, none⟩ = some (.int .i64 5)) (h1 : w.cell? ⟨g, 1, none⟩ = some (.int .i64 97)) : Calls Try.prog 9 #[.int .i64 68173261, .slice (some ⟨g, 0, none⟩) 1 1] w fun e w' =>
    e = .returned (.tuple #[.pointer (some ⟨w.heap.size, 0, none⟩), .int .i64 0]) ∧ ∃ v', Clk 54 w' w.heap.size 68173261 0 v' ∧ w'.ownsRow (w.heap.size + 1) 58 3 v' 1 [.int .i64 5, .int .i64 97, .int .i64 0] ∧ Below w.heap.size w w' := by
  have hE : Evs w (.slice (some ⟨g, 0, none⟩) 1 1) [(5, 97)] := ⟨_, 1, rfl, by decide, .inr ⟨g, 0, rfl, fun i hi => by
    have : i = 0 := by simp at hi; exact hi
    subst this; exact ⟨h0, h1⟩⟩⟩
  refine (new_gen [(5, 97)] _ 68173261 w (fun wx v' w' => wx = w') hE (by decide) (by intro e he; simp at he; subst he; exact ⟨by decide, by decide, .inl rfl⟩) (by decide) (by decide) ?_).mono ?_
  · intro wx v' hC hR
    obtain ⟨a, c, rfl⟩ := ownsRow_slice3 hR
    exact init_c _ a 1 c wx hC.c2 (.inr rfl)
  · rintro e w' ⟨h1, wx, v', h2, h3, h4, rfl⟩
    exact ⟨h1, v', h2, h3, h4⟩
end Go.Proofs.Ythigimmlhgdchaa
