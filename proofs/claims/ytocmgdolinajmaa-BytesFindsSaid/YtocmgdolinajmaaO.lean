/- BytesQuotes: an append to a slice that is full; the plain law; the walk. -/
import Derived.Test.YtocmgdolinajmaaV
namespace Go.Proofs.Ytocmgdolinajmaa
set_option linter.unusedVariables false
set_option linter.unusedSimpArgs false
open Go.RowKit

theorem rd_cells {w : World} {k : IntKind} {a : Addr} {n c : Nat} {l : List Int} (h : Rd w k (.slice (some a) n c) l) : ∀ j v, (l.map (Value.int k))[j]? = some v → w.cell? (a.add j) = some v := by
  obtain ⟨a', c', e, hc, hr⟩ := h
  injection e with e1 e2 e3
  subst e1
  intro j v hj
  rcases hr with h | ⟨g, off, h, hcl⟩
  · subst h; simp at hj
  · injection h with h
    subst h
    have hjl : j < l.length := by have := (List.getElem?_eq_some_iff.1 hj).1; simpa using this
    have := hcl j hjl
    rw [List.getElem?_map, List.getElem?_eq_getElem hjl] at hj
    simp at hj
    rw [← hj]
    have e1 : (⟨g, off, none⟩ : Addr).add j = ⟨g, off + j, none⟩ := by
      unfold Addr.add
      by_cases hj0 : j = 0
      · subst hj0; simp
      · simp [hj0]
    rw [e1, this]
    simp [List.getD_eq_getElem?_getD, List.getElem?_eq_getElem hjl]
/-- append(s, x...), s full: what is made reads as both. -/
theorem run_full {P : Program} (w : World) (T ty e : TypeId) (z : Value) (bytes : Nat) (ht : P.underlying T = some (.slice e)) (hinfo : (P.info? e).map (fun i => (i.zero, i.size, i.bytes)) = some (some z, 1, bytes)) (hz1 : z.cells.size = 1)
    (k : IntKind) (ad : Addr) (n : Nat) (xs : List Int) (hx : Rd w k (.slice (some ad) n n) xs) (u : Value) (l : List Int) (hr : Rd w k u l) (hn : n + l.length < 1000000000000) (hby : bytes ≤ 64) :
    ∃ v' w', (Builtin.append_ #[T, T] ty #[.slice (some ad) n n, u]).run P w = .ok v' w' ∧ Rd w' k v' (xs ++ l) ∧ Below w.heap.size w w' := by
  obtain ⟨i0, hi, hz0, hz2, hz3⟩ := info_parts hinfo
  have hxl : xs.length = n := by obtain ⟨_, _, e, _⟩ := hx; injection e with e1 e2 e3; exact e2.symm
  obtain ⟨ua, uc, rfl⟩ := hr.len
  by_cases hl : l = []
  · subst hl
    refine ⟨.slice (some ad) n n, w, ?_, by simpa using hx, Below.refl _ _⟩
    cases ua <;> simp [Builtin.append_, run_underlying ht, sizeOf, typeInfo, hi, Builtin.lenOf, Builtin.firstCells, storeCells, loadCells, loadCellsFrom]
  · have hl0 : 0 < l.length := List.length_pos_iff.2 hl
    cases ua with
    | none =>
      obtain ⟨_, _, e, _, hh⟩ := hr
      rcases hh with h | ⟨g, off, h, _⟩
      · exact absurd h hl
      · injection e with e1; rw [h] at e1; cases e1
    | some ub =>
      have G := run_append_grow (P := P) w T ty e i0 z ht hi hz0 ad n n (xs.map (Value.int k)) (by simp [hz2, hxl]) (rd_cells hx) ub l.length uc (l.map (Value.int k)) (by simp [hz2]) (rd_cells hr) (by omega) (by omega)
        (growslice_fits (by omega) (by rw [hz3]; calc (n + l.length) * bytes ≤ (n + l.length) * 64 := Nat.mul_le_mul_left _ hby
           _ ≤ 140737488355328 := by omega))
      refine ⟨_, _, G, ?_, (Below.refl _ w).drew.alloc (by show w.heap.size ≤ w.drew.heap.size; exact Nat.le_refl _) _⟩
      have hge := grownCap_ge w (n + l.length) n e
      refine Rd.mk _ 0 (by rw [List.length_append, hxl]) hge (fun i hi => ?_)
      rw [List.length_append] at hi
      rw [Nat.zero_add]
      show (w.drew.alloc _).cell? ⟨w.drew.heap.size, i, none⟩ = _
      rw [World.cell?_alloc_mark]
      have key : (((xs.map (Value.int k)).toArray ++ (l.map (Value.int k)).toArray ++ Builtin.zeroCells z.cells (grownCap w (n + l.length) n e - (n + l.length)))[i]?) = some (.int k ((xs ++ l).getD i 0)) := by
        rw [Array.getElem?_append_left (by simp; exact hi)]
        rw [List.append_toArray, ← List.map_append, List.getElem?_toArray, List.getElem?_map, List.getElem?_eq_getElem (by rw [List.length_append]; exact hi)]
        simp [List.getD_eq_getElem?_getD, List.getElem?_eq_getElem (show i < (xs ++ l).length by rw [List.length_append]; exact hi)]
      exact key
theorem wp_full {P : Program} {w : World} {ops : Array Oper} {rest : List Oper} {o : Oper} {a : Act} {Q : Exit → Act → World → Prop} (T e : TypeId) (z : Value) (bytes : Nat) (ht : P.underlying T = some (.slice e)) (hinfo : (P.info? e).map (fun i => (i.zero, i.size, i.bytes)) = some (some z, 1, bytes)) (hz1 : z.cells.size = 1)
    (hgd : o.guard = none) (s x : Operand) (ho : o.op = .call { callee := .builtin .append, args := #[s, x], argTypes := #[T, T] }) (k : IntKind) (ad : Addr) (n : Nat) (xs : List Int)
    (hs : a.eval s = .slice (some ad) n n) (hx : Rd w k (.slice (some ad) n n) xs) (u : Value) (l : List Int) (hu : a.eval x = u) (hr : Rd w k u l) (hn : n + l.length < 1000000000000) (hby : bytes ≤ 64)
    (h : ∀ v' w', Rd w' k v' (xs ++ l) → Below w.heap.size w w' → wpList P ops Q rest (a.put o.dst v') w') :
    wpList P ops Q (o :: rest) a w := by
  refine wpList_plain hgd fun K hK => ?_
  obtain ⟨v', w', hr', h2, h3⟩ := run_full (P := P) w T o.type e z bytes ht hinfo hz1 k ad n xs hx u l hr hn hby
  unfold Oper.wp execOp
  simp only [ho, resolve, invoke, builtin, Sem.run_bind, Sem.run_pure, Result.andThen_ok, List.map_toArray, List.map_cons, List.map_nil, hs, hu, hr']
  exact hK _ _ (h v' w' h2 h3)
-- the plain law
theorem Esc.one {l : List Int} {i : Nat} {out : List Int} {R S : Option (List Int × Nat)} (h : Esc l i out R) (g : Esc l i out S) : R = S := by
  induction h with
  | done h => exact (g.at_end h).symm
  | quote h hc => exact (g.at_quote h hc).symm
  | char h h1 h2 k ih => exact ih (g.at_char h h1 h2)
  | bad h hc ho => exact (g.at_bad h hc ho).symm
  | esc h hc ho k ih => exact ih (g.at_esc h hc ho)
theorem getD_app {p q : List Int} {i : Nat} (h : i < p.length) : (p ++ q).getD i 0 = p.getD i 0 := by
  simp [List.getD_eq_getElem?_getD, List.getElem?_append_left h]
theorem one_app {s q : List Int} (h : (oneV s).2 ≠ 0) : oneV (s ++ q) = oneV s := by
  cases s with
  | nil => exact absurd rfl h
  | cons c t =>
    by_cases hc : c = 120
    · subst hc
      match t, h with
      | [], h => exact absurd rfl h
      | [y], h => exact absurd rfl h
      | y :: z :: t, h => rw [List.cons_append, List.cons_append, List.cons_append, one_x, one_x]
    · unfold oneV
      simp only [List.cons_append, if_neg hc]
/-- What is read to its end ahead of anything, is read so with it behind. -/
theorem Esc.app {p : List Int} {i : Nat} {out : List Int} {S : Option (List Int × Nat)} (h : Esc p i out S) (hi : i ≤ p.length) : ∀ o u, S = some (o, u) →
    (∀ q, Esc (p ++ q) i out (some (o, u))) ∨ (u = p.length ∧ ∀ q R, Esc (p ++ q) p.length o R → Esc (p ++ q) i out R) := by
  induction h with
  | @done i out h =>
    intro o u e
    injection e with e; injection e with e1 e2
    subst e1 e2
    have : i = p.length := by omega
    subst this
    exact .inr ⟨rfl, fun q R k => k⟩
  | quote h hc =>
    intro o u e
    injection e with e; injection e with e1 e2
    subst e1 e2
    exact .inl fun q => .quote (by rw [List.length_append]; omega) (by rw [getD_app h]; exact hc)
  | @char i out R h h1 h2 k ih =>
    intro o u e
    rcases ih h o u e with g | ⟨g1, g2⟩
    · exact .inl fun q => .char (by rw [List.length_append]; omega) (by rw [getD_app h]; exact h1) (by rw [getD_app h]; exact h2) (by rw [getD_app h]; exact g q)
    · exact .inr ⟨g1, fun q R k => .char (by rw [List.length_append]; omega) (by rw [getD_app h]; exact h1) (by rw [getD_app h]; exact h2) (by rw [getD_app h]; exact g2 q R k)⟩
  | bad h hc ho => intro o u e; cases e
  | @esc i out R h hc ho k ih =>
    intro o u e
    have hl := (oneV_len (p.drop (i + 1))).1
    rw [List.length_drop] at hl
    have hq : ∀ q, oneV ((p ++ q).drop (i + 1)) = oneV (p.drop (i + 1)) := fun q => by rw [List.drop_append_of_le_length (by omega)]; exact one_app ho
    rcases ih (by omega) o u e with g | ⟨g1, g2⟩
    · exact .inl fun q => .esc (by rw [List.length_append]; omega) (by rw [getD_app h]; exact hc) (by rw [hq]; exact ho) (by rw [hq]; exact g q)
    · exact .inr ⟨g1, fun q R k => .esc (by rw [List.length_append]; omega) (by rw [getD_app h]; exact hc) (by rw [hq]; exact ho) (by rw [hq]; exact g2 q R k)⟩
theorem quotes_law {l b : List Int} {o o2 : List Int} {n : Nat} (h : Esc l 0 [] (some (o, n))) (hn : n ≤ l.length) (h0 : n ≠ 0) (hc : l.getD (n - 1) 0 = 34) (h2 : Esc (l.take (n - 1)) 0 [] (some (o2, n - 1))) :
    Esc (l.take n ++ b) 0 [] (some (o, n)) := by
  have hp : (l.take (n - 1)).length = n - 1 := by rw [List.length_take]; omega
  have ht : l.take n = l.take (n - 1) ++ [34] := by
    obtain ⟨m, rfl⟩ : ∃ m, n = m + 1 := ⟨n - 1, by omega⟩
    rw [Nat.add_sub_cancel] at hc ⊢
    rw [List.take_succ_eq_append_getElem (show m < l.length by omega)]
    congr 1
    rw [List.getD_eq_getElem?_getD, List.getElem?_eq_getElem (by omega)] at hc
    simpa using hc
  have hl : l = l.take (n - 1) ++ (34 :: l.drop n) := by
    have := List.take_append_drop n l
    rw [ht, List.append_assoc] at this
    exact this.symm
  rcases h2.app (Nat.zero_le _) o2 (n - 1) rfl with g | ⟨g1, g2⟩
  · have k := g (34 :: l.drop n)
    rw [← hl] at k
    have := h.one k
    injection this with this; injection this with e1 e2
    omega
  · have k := g2 (34 :: l.drop n) (some (o2, (l.take (n - 1)).length + 1)) (.quote (by simp) (by simp [List.getD_eq_getElem?_getD]))
    rw [← hl, hp] at k
    have := h.one k
    injection this with this; injection this with e1 e2
    subst e1
    have r := g2 (34 :: b) (some (o, (l.take (n - 1)).length + 1)) (.quote (by simp) (by simp [List.getD_eq_getElem?_getD]))
    rw [hp, show n - 1 + 1 = n by omega] at r
    rw [ht, List.append_assoc]
    exact r
theorem Rd.capge {w : World} {k : IntKind} {a : Option Addr} {n c : Nat} {l : List Int} (h : Rd w k (.slice a n c) l) : n ≤ c := by
  obtain ⟨a', d, e, h1, h2⟩ := h
  injection e with e1 e2 e3
  omega
theorem Rd.cap {w : World} {k : IntKind} {a : Option Addr} {n c : Nat} {l : List Int} (h : Rd w k (.slice a n c) l) (c' : Nat) (hc : n ≤ c') : Rd w k (.slice a n c') l := by
  obtain ⟨a', d, e, h1, h2⟩ := h
  injection e with e1 e2 e3
  subst e1 e2
  exact ⟨a, c', rfl, hc, h2⟩
theorem esc_len {l : List Int} (hb : Byt l) {o : List Int} {u : Nat} (h : Esc l 0 [] (some (o, u))) : Byt o ∧ u ≤ l.length := by
  have := h.facts hb (fun x hx => by cases hx) (Nat.zero_le _) (Nat.le_refl _) o u rfl
  exact ⟨this.1, this.2.1⟩
set_option maxRecDepth 100000 in
set_option maxHeartbeats 4000000 in
theorem lquotes_walk (va vb : Value) (la lb : List Int) (w : World) (ha : Rd w .u8 va la) (hb : Rd w .u8 vb lb) (ba : Byt la) (bb : Byt lb) :
    Calls Try.prog 5 #[va, vb] w fun e w' => e = .returned (.bool true) ∧ Below w.heap.size w w' := by
  have AW := Lib.hid awake_c
  obtain ⟨aa, ca, rfl⟩ := ha.len
  obtain ⟨ab, cb, rfl⟩ := hb.len
  by_cases hl : la.length ≤ 400 ∧ lb.length ≤ 400
  · obtain ⟨h1, h2⟩ := hl
    have E0 := Lib.hid (World.ownsRow_nil w w.heap.size 5 1)
    have HA := Lib.hid ha
    have HB := Lib.hid hb
    have hl4 : (la ++ [34]).length = la.length + 1 := by simp
    have bl : Byt (la ++ [34]) := byt_snoc ba (by decide)
    obtain ⟨R, hR⟩ := esc_total (la ++ [34]) (la ++ [34]).length 0 [] (by omega)
    have PE := Lib.hid (fun u w1 (h : Rd w1 .u8 u (la ++ [34])) => pescape_c u (la ++ [34]) w1 h bl (by omega) R hR)
    have OWN : Hid (∀ w1 v, w1.ownsRow w.heap.size 5 1 v (la.length + 1) (la.map (Value.int .u8) ++ [.int .u8 34]) → Rd w1 .u8 v (la ++ [34])) := Lib.hid (fun w1 v h => Rd.of_own (n := la.length + 1) (by rw [List.map_append]; exact h))
    obtain ⟨L, hL⟩ : ∃ L, la.length = L := ⟨_, rfl⟩
    obtain ⟨M, hM⟩ : ∃ M, lb.length = M := ⟨_, rfl⟩
    have HL := Lib.hid hL
    have HM := Lib.hid hM
    rw [hL] at h1 HA OWN hl4 ⊢
    rw [hM] at h2 HB ⊢
    obtain ⟨l, hll⟩ : ∃ l, la ++ [34] = l := ⟨_, rfl⟩
    rw [hll] at hR PE OWN hl4 bl
    have HLL := Lib.hid hll
    have HL4 := Lib.hid hl4
    have HBL := Lib.hid bl
    have HR := Lib.hid hR
    have HBB := Lib.hid bb
    clear ha hb hL hM hll hl4 bl ba bb hR
    cases R with
    | none =>
      go_enter Try.func5, Try.ntmps5
      go_wp2_with (first
        | (at_builtin; go_loud (refine wp_apps 22 5 (.int .u8 0) 1 Try.underlying22 info_byte rfl w.heap.size (.slice none 0 0) 0 [] rfl (.tmp 24) (.tmp 25) (by rfl) (by rfl) E0.out (Nat.le_refl _) .u8 _ la (by rfl) (by have := HA.out; rw [← HL.out] at this; rw [← HL.out]; exact this) (by rw [HL.out]; omega) (by decide) ?_); intro v1 w1 hown hg _; rw [Nat.zero_add, List.nil_append, HL.out] at hown; obtain ⟨a1, d1, rfl⟩ := ownsRow_slice hown; have HO1 := Lib.hid hown; have hb1 := grown_below hg E0.out (Nat.le_refl _); clear hown hg)
        | (at_builtin; go_loud (refine wp_app 22 5 (.int .u8 0) 1 Try.underlying22 info_byte rfl w.heap.size (.slice a1 L d1) L _ (.int .u8 34) _ _ rfl (by rfl) (.tmp 26) (.tmp 27) (by rfl) (by rfl) (by rfl) HO1.out (by exact hb1.size) rfl (by omega) (by decide) ?_); intro v2 w2 hown2 hb2; obtain ⟨a2, d2, rfl⟩ := ownsRow_slice hown2; have HR2 := Lib.hid (OWN.out _ _ hown2); have hb3 := hb1.trans hb2; clear hown2 hb2)
        | (go_at_call 10; (with_reducible refine (PE.out _ _ HR2.out).mono ?_); rintro e w3 ⟨hb4, rfl⟩; have hc3 := below_then hb3 hb3.size hb4; clear hb4)
        | (go_at_call 8; (with_reducible refine (AW.out _).mono ?_); rintro e w5 ⟨rfl, hb5⟩; have hc5 := below_then hc3 hc3.size hb5; clear hb5))
      go_ret
      exact ⟨rfl, hc5⟩
    | some p =>
      obtain ⟨o, n⟩ := p
      have FO := esc_len HBL.out HR.out
      rw [HL4.out] at FO
      have BO := Lib.hid FO.1
      have hn := FO.2
      clear FO
      by_cases h0 : n = 0
      · subst h0
        go_enter Try.func5, Try.ntmps5
        go_wp2_with (first
          | (at_builtin; go_loud (refine wp_apps 22 5 (.int .u8 0) 1 Try.underlying22 info_byte rfl w.heap.size (.slice none 0 0) 0 [] rfl (.tmp 24) (.tmp 25) (by rfl) (by rfl) E0.out (Nat.le_refl _) .u8 _ la (by rfl) (by have := HA.out; rw [← HL.out] at this; rw [← HL.out]; exact this) (by rw [HL.out]; omega) (by decide) ?_); intro v1 w1 hown hg _; rw [Nat.zero_add, List.nil_append, HL.out] at hown; obtain ⟨a1, d1, rfl⟩ := ownsRow_slice hown; have HO1 := Lib.hid hown; have hb1 := grown_below hg E0.out (Nat.le_refl _); clear hown hg)
          | (at_builtin; go_loud (refine wp_app 22 5 (.int .u8 0) 1 Try.underlying22 info_byte rfl w.heap.size (.slice a1 L d1) L _ (.int .u8 34) _ _ rfl (by rfl) (.tmp 26) (.tmp 27) (by rfl) (by rfl) (by rfl) HO1.out (by exact hb1.size) rfl (by omega) (by decide) ?_); intro v2 w2 hown2 hb2; obtain ⟨a2, d2, rfl⟩ := ownsRow_slice hown2; have HR2 := Lib.hid (OWN.out _ _ hown2); have hb3 := hb1.trans hb2; clear hown2 hb2)
          | (go_at_call 10; (with_reducible refine (PE.out _ _ HR2.out).mono ?_); rintro e w3 ⟨hb4, u3, rfl, hr3⟩; have hc3 := below_then hb3 hb3.size hb4; obtain ⟨ua, uc, rfl⟩ := hr3.len; have HR3 := Lib.hid hr3; have HX3 := Lib.hid (HR2.out.below hb4); clear hb4 hr3)
          | (go_at_call 8; (with_reducible refine (AW.out _).mono ?_); rintro e w5 ⟨rfl, hb5⟩; have hc5 := below_then hc3 hc3.size hb5; clear hb5))
        go_ret
        exact ⟨rfl, hc5⟩
      · obtain ⟨m, rfl⟩ : ∃ m, n = m + 1 := ⟨n - 1, by omega⟩
        have hm : m < L + 1 := by omega
        have CELL : Hid (∀ w1 a2 d2, Rd w1 .u8 (.slice a2 (L + 1) d2) l → ∃ g off, a2 = some ⟨g, off, none⟩ ∧ w1.cell? ⟨g, off + m, none⟩ = some (.int .u8 (l.getD m 0))) := Lib.hid (fun w1 a2 d2 h => h.at8 (by rw [HL4.out]; omega))
        have hbm := byt_getD HBL.out m
        obtain ⟨x, hx⟩ : ∃ x, l.getD m 0 = x := ⟨_, rfl⟩
        have HX := Lib.hid hx
        rw [hx] at CELL hbm
        clear hx h0 hn
        by_cases h34 : x = 34
        · have H34 := Lib.hid h34
          subst h34
          have BT : Byt (l.take m) := fun y hy => HBL.out y (List.mem_of_mem_take hy)
          obtain ⟨S, hS⟩ := esc_total (l.take m) (l.take m).length 0 [] (by omega)
          have lt4 : (l.take m).length ≤ 1000000 := by rw [List.length_take, HL4.out]; omega
          have RE := Lib.hid (fun u w1 (h : Rd w1 .u8 u (l.take m)) => rescape_c u (l.take m) w1 h BT lt4 S hS)
          have HS := Lib.hid hS
          have HBT := Lib.hid BT
          clear hS BT lt4
          cases S with
          | none =>
            go_enter Try.func5, Try.ntmps5
            go_wp2_with (first
              | (at_builtin; go_loud (refine wp_apps 22 5 (.int .u8 0) 1 Try.underlying22 info_byte rfl w.heap.size (.slice none 0 0) 0 [] rfl (.tmp 24) (.tmp 25) (by rfl) (by rfl) E0.out (Nat.le_refl _) .u8 _ la (by rfl) (by have := HA.out; rw [← HL.out] at this; rw [← HL.out]; exact this) (by rw [HL.out]; omega) (by decide) ?_); intro v1 w1 hown hg _; rw [Nat.zero_add, List.nil_append, HL.out] at hown; obtain ⟨a1, d1, rfl⟩ := ownsRow_slice hown; have HO1 := Lib.hid hown; have hb1 := grown_below hg E0.out (Nat.le_refl _); clear hown hg)
              | (at_builtin; go_loud (refine wp_app 22 5 (.int .u8 0) 1 Try.underlying22 info_byte rfl w.heap.size (.slice a1 L d1) L _ (.int .u8 34) _ _ rfl (by rfl) (.tmp 26) (.tmp 27) (by rfl) (by rfl) (by rfl) HO1.out (by exact hb1.size) rfl (by omega) (by decide) ?_); intro v2 w2 hown2 hb2; obtain ⟨a2, d2, rfl⟩ := ownsRow_slice hown2; have HR2 := Lib.hid (OWN.out _ _ hown2); have hb3 := hb1.trans hb2; clear hown2 hb2)
              | (go_at_call 10; (with_reducible refine (PE.out _ _ HR2.out).mono ?_); rintro e w3 ⟨hb4, u3, rfl, hr3⟩; have hc3 := below_then hb3 hb3.size hb4; obtain ⟨ua, uc, rfl⟩ := hr3.len; have HR3 := Lib.hid hr3; have HX3 := Lib.hid (HR2.out.below hb4); clear hb4 hr3; have hd2 := HX3.out.capge; have hd3 : (m : Int) ≤ d2 := (by omega); have hd4 : (m : Int) + 1 ≤ d2 := (by omega); obtain ⟨xg, xo, rfl, xc⟩ := CELL.out _ _ _ HX3.out)
              | (go_at_call 11; (with_reducible refine (RE.out _ _ (HX3.out.take (by omega))).mono ?_); rintro e w4 ⟨hb6, rfl⟩; have hc4 := below_then hc3 hc3.size hb6; clear hb6)
              | (go_at_call 8; (with_reducible refine (AW.out _).mono ?_); rintro e w5 ⟨rfl, hb5⟩; have hc5 := below_then hc4 hc4.size hb5; clear hb5))
            go_ret
            exact ⟨rfl, hc5⟩
          | some p2 =>
            obtain ⟨o2, n2⟩ := p2
            by_cases hn2 : n2 = m
            · subst hn2
              have L2 := quotes_law (b := lb) HR.out (by rw [HL4.out]; omega) (by omega) (by rw [Nat.add_sub_cancel, HX.out]) (by rw [Nat.add_sub_cancel]; exact HS.out)
              have BX : Byt (l.take (n2 + 1) ++ lb) := byt_app (fun y hy => HBL.out y (List.mem_of_mem_take hy)) HBB.out
              have LX : (l.take (n2 + 1) ++ lb).length ≤ 1000000 := by rw [List.length_append, List.length_take, HM.out, HL4.out]; omega
              obtain ⟨q, hq⟩ : ∃ q, l.take (n2 + 1) ++ lb = q := ⟨_, rfl⟩
              have HQ := Lib.hid hq
              rw [hq] at L2 BX LX
              clear hq
              have PE2 := Lib.hid (fun u w1 (h : Rd w1 .u8 u q) => pescape_c u q w1 h BX LX _ L2)
              have SM := Lib.hid (fun u v w1 h1 h2 => same_yes u v o w1 h1 h2 BO.out)
              clear L2 BX LX
              go_enter Try.func5, Try.ntmps5
              go_wp2_with (first
                | (at_builtin; go_loud (refine wp_apps 22 5 (.int .u8 0) 1 Try.underlying22 info_byte rfl w.heap.size (.slice none 0 0) 0 [] rfl (.tmp 24) (.tmp 25) (by rfl) (by rfl) E0.out (Nat.le_refl _) .u8 _ la (by rfl) (by have := HA.out; rw [← HL.out] at this; rw [← HL.out]; exact this) (by rw [HL.out]; omega) (by decide) ?_); intro v1 w1 hown hg _; rw [Nat.zero_add, List.nil_append, HL.out] at hown; obtain ⟨a1, d1, rfl⟩ := ownsRow_slice hown; have HO1 := Lib.hid hown; have hb1 := grown_below hg E0.out (Nat.le_refl _); clear hown hg)
                | (at_builtin; go_loud (refine wp_app 22 5 (.int .u8 0) 1 Try.underlying22 info_byte rfl w.heap.size (.slice a1 L d1) L _ (.int .u8 34) _ _ rfl (by rfl) (.tmp 26) (.tmp 27) (by rfl) (by rfl) (by rfl) HO1.out (by exact hb1.size) rfl (by omega) (by decide) ?_); intro v2 w2 hown2 hb2; obtain ⟨a2, d2, rfl⟩ := ownsRow_slice hown2; have HR2 := Lib.hid (OWN.out _ _ hown2); have hb3 := hb1.trans hb2; clear hown2 hb2)
                | (go_at_call 10; (with_reducible refine (PE.out _ _ HR2.out).mono ?_); rintro e w3 ⟨hb4, u3, rfl, hr3⟩; have hc3 := below_then hb3 hb3.size hb4; obtain ⟨ua, uc, rfl⟩ := hr3.len; have HR3 := Lib.hid hr3; have HX3 := Lib.hid (HR2.out.below hb4); clear hb4 hr3; have hd2 := HX3.out.capge; have hd3 : (n2 : Int) ≤ d2 := (by omega); have hd4 : (n2 : Int) + 1 ≤ d2 := (by omega); obtain ⟨xg, xo, rfl, xc⟩ := CELL.out _ _ _ HX3.out)
                | (go_at_call 11; (with_reducible refine (RE.out _ _ (HX3.out.take (by omega))).mono ?_); rintro e w4 ⟨hb6, u4, rfl, hr4⟩; have hc4 := below_then hc3 hc3.size hb6; have HX4 := Lib.hid (((HX3.out.below hb6).take (m := n2 + 1) (by omega)).cap (n2 + 1) (Nat.le_refl _)); have HR4 := Lib.hid (HR3.out.below hb6); clear hb6 hr4)
                | (at_builtin; go_loud (refine wp_full 22 5 (.int .u8 0) 1 Try.underlying22 info_byte rfl (by rfl) (.tmp 71) (.tmp 72) (by rfl) .u8 ⟨xg, xo, none⟩ (n2 + 1) (l.take (n2 + 1)) (by rfl) HX4.out _ lb (by rfl) (HB.out.below hc4) (by rw [HM.out]; omega) (by decide) ?_); intro v6 w6 hr6 hb6; rw [HQ.out] at hr6; obtain ⟨a6, d6, rfl⟩ := hr6.len; have hc6 := below_then hc4 hc4.size hb6; have HX6 := Lib.hid hr6; have HR6 := Lib.hid (HR4.out.below hb6); clear hr6 hb6)
                | (go_at_call 10; (with_reducible refine (PE2.out _ _ HX6.out).mono ?_); rintro e w7 ⟨hb7, u7, rfl, hr7⟩; have hc7 := below_then hc6 hc6.size hb7; have HR7 := Lib.hid (HR6.out.below hb7); have HS7 := Lib.hid hr7; clear hb7 hr7)
                | (go_at_call 12; (with_reducible refine (SM.out _ _ _ HR7.out HS7.out).mono ?_); rintro e w' ⟨rfl, rfl⟩)
                | (go_at_call 8; (with_reducible refine (AW.out _).mono ?_); rintro e w5 ⟨rfl, hb5⟩; have hc5 := below_then hc7 hc7.size hb5; clear hb5))
              go_ret
              exact ⟨rfl, hc5⟩
            · have hne : ¬ ((n2 : Nat) : Int) = ((m : Nat) : Int) := by omega
              go_enter Try.func5, Try.ntmps5
              go_wp2_with (first
                | (at_builtin; go_loud (refine wp_apps 22 5 (.int .u8 0) 1 Try.underlying22 info_byte rfl w.heap.size (.slice none 0 0) 0 [] rfl (.tmp 24) (.tmp 25) (by rfl) (by rfl) E0.out (Nat.le_refl _) .u8 _ la (by rfl) (by have := HA.out; rw [← HL.out] at this; rw [← HL.out]; exact this) (by rw [HL.out]; omega) (by decide) ?_); intro v1 w1 hown hg _; rw [Nat.zero_add, List.nil_append, HL.out] at hown; obtain ⟨a1, d1, rfl⟩ := ownsRow_slice hown; have HO1 := Lib.hid hown; have hb1 := grown_below hg E0.out (Nat.le_refl _); clear hown hg)
                | (at_builtin; go_loud (refine wp_app 22 5 (.int .u8 0) 1 Try.underlying22 info_byte rfl w.heap.size (.slice a1 L d1) L _ (.int .u8 34) _ _ rfl (by rfl) (.tmp 26) (.tmp 27) (by rfl) (by rfl) (by rfl) HO1.out (by exact hb1.size) rfl (by omega) (by decide) ?_); intro v2 w2 hown2 hb2; obtain ⟨a2, d2, rfl⟩ := ownsRow_slice hown2; have HR2 := Lib.hid (OWN.out _ _ hown2); have hb3 := hb1.trans hb2; clear hown2 hb2)
                | (go_at_call 10; (with_reducible refine (PE.out _ _ HR2.out).mono ?_); rintro e w3 ⟨hb4, u3, rfl, hr3⟩; have hc3 := below_then hb3 hb3.size hb4; obtain ⟨ua, uc, rfl⟩ := hr3.len; have HR3 := Lib.hid hr3; have HX3 := Lib.hid (HR2.out.below hb4); clear hb4 hr3; have hd2 := HX3.out.capge; have hd3 : (m : Int) ≤ d2 := (by omega); have hd4 : (m : Int) + 1 ≤ d2 := (by omega); obtain ⟨xg, xo, rfl, xc⟩ := CELL.out _ _ _ HX3.out)
                | (go_at_call 11; (with_reducible refine (RE.out _ _ (HX3.out.take (by omega))).mono ?_); rintro e w4 ⟨hb6, u4, rfl, hr4⟩; have hc4 := below_then hc3 hc3.size hb6; clear hb6 hr4)
                | (go_at_call 8; (with_reducible refine (AW.out _).mono ?_); rintro e w5 ⟨rfl, hb5⟩; have hc5 := below_then hc4 hc4.size hb5; clear hb5))
              go_ret
              exact ⟨rfl, hc5⟩
        · have z1 : (x != 34) = true := bne_no h34
          go_enter Try.func5, Try.ntmps5
          go_wp2_with (first
            | (at_builtin; go_loud (refine wp_apps 22 5 (.int .u8 0) 1 Try.underlying22 info_byte rfl w.heap.size (.slice none 0 0) 0 [] rfl (.tmp 24) (.tmp 25) (by rfl) (by rfl) E0.out (Nat.le_refl _) .u8 _ la (by rfl) (by have := HA.out; rw [← HL.out] at this; rw [← HL.out]; exact this) (by rw [HL.out]; omega) (by decide) ?_); intro v1 w1 hown hg _; rw [Nat.zero_add, List.nil_append, HL.out] at hown; obtain ⟨a1, d1, rfl⟩ := ownsRow_slice hown; have HO1 := Lib.hid hown; have hb1 := grown_below hg E0.out (Nat.le_refl _); clear hown hg)
            | (at_builtin; go_loud (refine wp_app 22 5 (.int .u8 0) 1 Try.underlying22 info_byte rfl w.heap.size (.slice a1 L d1) L _ (.int .u8 34) _ _ rfl (by rfl) (.tmp 26) (.tmp 27) (by rfl) (by rfl) (by rfl) HO1.out (by exact hb1.size) rfl (by omega) (by decide) ?_); intro v2 w2 hown2 hb2; obtain ⟨a2, d2, rfl⟩ := ownsRow_slice hown2; have HR2 := Lib.hid (OWN.out _ _ hown2); have hb3 := hb1.trans hb2; clear hown2 hb2)
            | (go_at_call 10; (with_reducible refine (PE.out _ _ HR2.out).mono ?_); rintro e w3 ⟨hb4, u3, rfl, hr3⟩; have hc3 := below_then hb3 hb3.size hb4; obtain ⟨ua, uc, rfl⟩ := hr3.len; have HR3 := Lib.hid hr3; have HX3 := Lib.hid (HR2.out.below hb4); clear hb4 hr3; have hd2 := HX3.out.capge; have hd3 : (m : Int) ≤ d2 := (by omega); have hd4 : (m : Int) + 1 ≤ d2 := (by omega); obtain ⟨xg, xo, rfl, xc⟩ := CELL.out _ _ _ HX3.out)
            | (go_at_call 8; (with_reducible refine (AW.out _).mono ?_); rintro e w5 ⟨rfl, hb5⟩; have hc5 := below_then hc3 hc3.size hb5; clear hb5))
          go_ret
          exact ⟨rfl, hc5⟩
  · by_cases h1 : la.length ≤ 400
    · obtain ⟨L, hL⟩ : ∃ L, la.length = L := ⟨_, rfl⟩
      obtain ⟨M, hM⟩ : ∃ M, lb.length = M := ⟨_, rfl⟩
      have h2 : 400 < M := by omega
      rw [hL] at h1 ⊢
      rw [hM]
      clear ha hb ba bb hl hL hM
      go_enter Try.func5, Try.ntmps5
      go_wp2_with (go_at_call 8; (with_reducible refine (AW.out _).mono ?_); rintro e w5 ⟨rfl, hb5⟩)
      go_ret
      exact ⟨rfl, hb5⟩
    · obtain ⟨L, hL⟩ : ∃ L, la.length = L := ⟨_, rfl⟩
      have h2 : 400 < L := by omega
      rw [hL]
      clear ha hb ba bb hl hL h1
      go_enter Try.func5, Try.ntmps5
      go_wp2_with (go_at_call 8; (with_reducible refine (AW.out _).mono ?_); rintro e w5 ⟨rfl, hb5⟩)
      go_ret
      exact ⟨rfl, hb5⟩
end Go.Proofs.Ytocmgdolinajmaa
