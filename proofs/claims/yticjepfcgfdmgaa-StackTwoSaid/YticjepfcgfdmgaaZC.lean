/- Stacks of strings. -/
import Derived.Test.YticjepfcgfdmgaaZA
import Derived.SliceStrings
namespace Go.Proofs.Yticjepfcgfdmgaa
set_option linter.unusedVariables false
set_option linter.unusedSimpArgs false
open Go.RowKit Go.ChangeShapes Go.WideShapes

/-- A slice reads as these strings. -/
def Rds (w : World) (v : Value) (l : List ByteArray) : Prop :=
  ∃ a c, v = .slice a l.length c ∧ l.length ≤ c ∧ (l = [] ∨ ∃ g off, a = some ⟨g, off, none⟩ ∧ ∀ i, i < l.length → w.cell? ⟨g, off + i, none⟩ = some (.string (l.getD i ByteArray.empty)))
theorem Rds.below {w w1 : World} {v : Value} {l : List ByteArray} (h : Rds w v l) (hb : Below w.heap.size w w1) : Rds w1 v l := by
  obtain ⟨a, c, e, hc, hr⟩ := h
  refine ⟨a, c, e, hc, ?_⟩
  rcases hr with h | ⟨g, off, ea, hcell⟩
  · exact .inl h
  · exact .inr ⟨g, off, ea, fun i hi => cell_below hb (hcell i hi)⟩
theorem Rds.of_own {w : World} {B e : Nat} {v : Value} {n : Nat} {l : List ByteArray} (h : w.ownsRow B e 1 v n (l.map Value.string)) : Rds w v l := by
  have hl : l.length = n := by have := h.1; simp at this; exact this
  rcases h.2 with ⟨rfl, h0⟩ | ⟨g, cap, cur, rfl, hb, hh, hc, _⟩
  · have : l = [] := List.eq_nil_of_length_eq_zero (by omega)
    subst this
    exact ⟨none, 0, rfl, Nat.zero_le _, .inl rfl⟩
  · subst hl
    refine ⟨_, cap, rfl, hc, .inr ⟨g, 0, rfl, fun i hi => ?_⟩⟩
    have := h.cells (g := g) rfl i (.string (l.getD i ByteArray.empty)) (by simp [List.getElem?_eq_getElem hi, List.getD_eq_getElem?_getD])
    have ha : (⟨g, 0, none⟩ : Addr).add i = ⟨g, 0 + i, none⟩ := by unfold Addr.add; split <;> simp_all
    rwa [ha] at this
theorem Rds.len {w : World} {v : Value} {l : List ByteArray} (h : Rds w v l) : ∃ a c, v = .slice a l.length c := by
  obtain ⟨a, c, rfl, _⟩ := h; exact ⟨a, c, rfl⟩
theorem Rds.at_ {w : World} {a : Option Addr} {n c : Nat} {l : List ByteArray} (h : Rds w (.slice a n c) l) {i : Nat} (hi : i < l.length) : ∃ g off, a = some ⟨g, off, none⟩ ∧ w.cell? ⟨g, off + i, none⟩ = some (.string (l.getD i ByteArray.empty)) := by
  obtain ⟨_, _, e, _, h⟩ := h
  injection e with e1 e2 e3
  rcases h with h | ⟨g, off, ea, hcl⟩
  · rw [h] at hi; simp at hi
  · exact ⟨g, off, e1.trans ea, hcl i hi⟩
/-- A slice of strings that is an argument, read. -/
theorem rds_arg {H : Type} {enc : TypeId × Value → H} {P : Program} {W : World} {t e : TypeId} {v : Value} {d : DataW H} {p : List MemPlace} (ht : P.underlying t = some (.slice e)) (he : P.underlying e = some .string) (hc : P.cellsOf e = 1)
    (hv : ∃ a len cap, v = .slice a len cap) (h : DataW.Trod enc P W 0 (fun _ => true) true t v d p) : ∃ l, Rds W v l ∧ (∀ x ∈ l, x.size ≤ maxLen) ∧ l.length ≤ maxLen := by
  obtain ⟨a0, len0, cap0, rfl⟩ := hv
  obtain ⟨fuel, hf⟩ := h
  rcases open_strings ht he hc hf with ⟨hcs, hx⟩ | ⟨a, len, cap, zs, hcs, _, hl, hm, hz, hx, hcell, hwz⟩
  · simp [Value.cells] at hcs
    obtain ⟨rfl, rfl, rfl⟩ := hcs
    exact ⟨[], ⟨none, 0, rfl, Nat.le_refl _, .inl rfl⟩, fun x hx => by simp at hx, by simp⟩
  · simp [Value.cells] at hcs
    obtain ⟨rfl, rfl, rfl⟩ := hcs
    simp only [if_true] at hz
    have hlen : (zs.take len0).length = len0 := by rw [List.length_take]; omega
    refine ⟨zs.take len0, ⟨some a, cap0, by rw [hlen], by omega, ?_⟩, fun x hx => hwz x (List.mem_of_mem_take hx), by omega⟩
    by_cases h0 : len0 = 0
    · exact .inl (by subst h0; simp)
    · obtain ⟨b, off, spot⟩ := a
      have hspot : spot = none := by simpa [Addr.add] using World.cell?_spot (hcell 0 (by omega))
      subst hspot
      refine .inr ⟨b, off, rfl, fun i hi => ?_⟩
      rw [hlen] at hi
      have := hcell i (by omega)
      rw [← add_plain, this]
      simp [List.getD_eq_getElem?_getD, List.getElem?_take, hi]
theorem info_str : (Try.prog.info? 9).map (fun i => (i.zero, i.size, i.bytes)) = some (some (.string ⟨#[]⟩), 1, 16) := by kernel_rfl
def SStk := Stk 60 9
/-- append(s, x...), x a slice that is read. -/
theorem run_appsS {P : Program} (w : World) (T ty e : TypeId) (z : Value) (bytes : Nat) (ht : P.underlying T = some (.slice e)) (hinfo : (P.info? e).map (fun i => (i.zero, i.size, i.bytes)) = some (some z, 1, bytes)) (hz1 : z.cells.size = 1)
    (B : Nat) (v : Value) (n : Nat) (xs : List Value) (hown : w.ownsRow B e 1 v n xs) (hB : B ≤ w.heap.size) (u : Value) (l : List ByteArray) (hr : Rds w u l) (hn : n + l.length < 1000000000000) (hby : bytes ≤ 64) :
    ∃ v' w', (Builtin.append_ #[T, T] ty #[v, u]).run P w = .ok v' w' ∧ w'.ownsRow B e 1 v' (n + l.length) (xs ++ l.map Value.string) ∧ w.grownBy w' v.ownBlock ∧ (v'.ownBlock = v.ownBlock ∨ v'.ownBlock = some w.heap.size) := by
  obtain ⟨i0, hi, hz0, hz2, hz3⟩ := info_parts hinfo
  obtain ⟨a, c, rfl, hc, hcell⟩ := hr
  cases a with
  | none =>
    have hl : l = [] := by
      rcases hcell with h | ⟨g, off, h, _⟩
      · exact h
      · cases h
    subst hl
    refine ⟨v, w, ?_, by simpa using hown, ⟨rfl, rfl, rfl, Nat.le_refl _, fun _ _ _ => rfl⟩, .inl rfl⟩
    rcases hown.2 with ⟨rfl, h0⟩ | ⟨g, cap, cur, rfl, hb, hh, hcap, _⟩
    · subst h0
      simp [Builtin.append_, run_underlying ht, sizeOf, typeInfo, hi, Builtin.lenOf, Builtin.firstCells]
    · have hcap' : ¬ cap < n := by omega
      simp [Builtin.append_, run_underlying ht, sizeOf, typeInfo, hi, Builtin.lenOf, Builtin.firstCells, storeCells, hcap, hcap']
  | some ad =>
    have hc1 : ∀ j x, (l.map Value.string)[j]? = some x → w.cell? (ad.add j) = some x := by
      intro j x hj
      rcases hcell with h | ⟨g, off, h, hcl⟩
      · subst h; simp at hj
      · injection h with h
        subst h
        have hjl : j < l.length := by
          have := (List.getElem?_eq_some_iff.1 hj).1
          simpa using this
        have := hcl j hjl
        rw [List.getElem?_map, List.getElem?_eq_getElem hjl] at hj
        simp at hj
        rw [← hj]
        have e1 : (⟨g, off, none⟩ : Addr).add j = ⟨g, off + j, none⟩ := by
          unfold Addr.add
          by_cases hj0 : j = 0
          · subst hj0; simp
          · simp [hj0]
        rw [e1, this]
        simp [List.getD_eq_getElem?_getD, List.getElem?_eq_getElem hjl]
    obtain ⟨v', w', h1, h2, h3, _, h5⟩ := run_append_own_at (P := P) w B T ty e i0 z 1 bytes ht hi hz0 hz2 hz3 hz1 (by decide) v n xs hown ad l.length c (l.map Value.string) (by simp) hc1
      (fun x hx => by simp at hx; obtain ⟨y, _, rfl⟩ := hx; rfl) (by unfold maxLen; omega)
      (calc (n + l.length) * bytes ≤ (n + l.length) * 64 := Nat.mul_le_mul_left _ hby
         _ ≤ 140737488355328 := by omega) hB
    exact ⟨v', w', h1, h2, h3, h5⟩
theorem wp_appsS {P : Program} {w : World} {ops : Array Oper} {rest : List Oper} {o : Oper} {a : Act} {Q : Exit → Act → World → Prop} (T e : TypeId) (z : Value) (bytes : Nat) (ht : P.underlying T = some (.slice e)) (hinfo : (P.info? e).map (fun i => (i.zero, i.size, i.bytes)) = some (some z, 1, bytes)) (hz1 : z.cells.size = 1)
    (B : Nat) (v : Value) (n : Nat) (xs : List Value) (hgd : o.guard = none) (s x : Operand) (ho : o.op = .call { callee := .builtin .append, args := #[s, x], argTypes := #[T, T] })
    (hs : a.eval s = v) (hown : w.ownsRow B e 1 v n xs) (hB : B ≤ w.heap.size) (u : Value) (l : List ByteArray) (hx : a.eval x = u) (hr : Rds w u l) (hn : n + l.length < 1000000000000) (hby : bytes ≤ 64)
    (h : ∀ v' w', w'.ownsRow B e 1 v' (n + l.length) (xs ++ l.map Value.string) → w.grownBy w' v.ownBlock → (v'.ownBlock = v.ownBlock ∨ v'.ownBlock = some w.heap.size) → wpList P ops Q rest (a.put o.dst v') w') :
    wpList P ops Q (o :: rest) a w := by
  refine wpList_plain hgd fun K hK => ?_
  obtain ⟨v', w', hr', h2, h3, h4⟩ := run_appsS (P := P) w T o.type e z bytes ht hinfo hz1 B v n xs hown hB u l hr hn hby
  unfold Oper.wp execOp
  simp only [ho, resolve, invoke, builtin, Sem.run_bind, Sem.run_pure, Result.andThen_ok, List.map_toArray, List.map_cons, List.map_nil, hs, hx, hr']
  exact hK _ _ (h v' w' h2 h3 h4)
theorem new_s (most over under : Int) (w : World) (h0 : 0 ≤ most) (h1 : most ≤ 100000) : Calls Try.prog 12 #[.int .i64 most, .int .i64 over, .int .i64 under] w fun e w' =>
    e = .returned (.tuple #[.pointer (some ⟨w.heap.size, 0, none⟩), .int .i64 0]) ∧ (∀ B, B ≤ w.heap.size → SStk w' B w.heap.size (.slice none 0 0) [] most over under) ∧ Below w.heap.size w w' := by
  go_enter Try.func12, Try.ntmps12
  go_wp2
  go_ret2
  refine ⟨rfl, fun B hB => ⟨?_, hB, World.ownsRow_nil _ _ _ _⟩, (Below.refl _ _).alloc (Nat.le_refl _) _⟩
  exact heap_alloc_new w _
theorem push_s (b : Nat) (v : Value) (xs : List Value) (most over under : Int) (q : ByteArray) (B : Nat) (w : World) (h : SStk w B b v xs most over under) (hB : B ≤ w.heap.size) (hm : 0 ≤ most ∧ most ≤ 100000) (hf : (xs.length : Int) < most) :
    Calls Try.prog 14 #[.pointer (some ⟨b, 0, none⟩), .string q] w fun e w' => e = .returned (.int .i64 0) ∧ ∃ v', SStk w' B b v' (xs ++ [.string q]) most over under ∧ Fr b v w w' ∧ Old w v v' := by
  have hs := Lib.hid h
  obtain ⟨a, c, rfl, hc⟩ := h.form
  obtain ⟨c0, c1, c2, c3⟩ := h.cell
  obtain ⟨L, hL⟩ : ∃ L, xs.length = L := ⟨_, rfl⟩
  rw [hL] at hc c0 hf
  have hS : Hid (SStk w B b (.slice a L c) xs most over under) := by have := hs.out; rw [hL] at this; exact this
  have hO : Hid (w.ownsRow B 9 1 (.slice a L c) L xs) := by have := hs.out.2.2; rw [hL] at this; exact this
  have HL := Lib.hid hL
  rw [hL]
  clear h hL hs c2 c3
  have fin : ∀ n v' w1, w1.ownsRow B 9 1 v' (L + 1) (xs ++ [.string q]) → (w.drewN n).grownBy w1 (Value.slice a L c).ownBlock → (v'.ownBlock = (Value.slice a L c).ownBlock ∨ ∀ g, v'.ownBlock = some g → (w.drewN n).heap.size ≤ g) →
      w1.cell? ⟨b, 0, none⟩ = some (.slice a L c) ∧ w1.frozen? ⟨b, 0, none⟩ = false ∧ Hid (∃ v'', SStk (w1.setCell ⟨b, 0, none⟩ v') B b v'' (xs ++ [.string q]) most over under ∧ Fr b (.slice a L c) w (w1.setCell ⟨b, 0, none⟩ v') ∧ Old w (.slice a L c) v'') := by
    intro n v' w1 ho hg hat
    have hne := hS.out.ne (by decide)
    have hb : w1.heap[b]? = w.heap[b]? := hg.block b hS.out.lt (fun g => hne g.symm)
    have hg2 : w.grownBy w1 (Value.slice a L c).ownBlock := ⟨hg.os, hg.tape, hg.output, hg.size, hg.block⟩
    have hp := Stk.put (ys := xs ++ [.string q]) hS.out hg2 (by have := HL.out; rw [List.length_append, this]; exact ho) hat (by decide)
    refine ⟨?_, ?_, Lib.hid ⟨v', hp.1, hp.2.1, hp.2.2⟩⟩
    · exact (World.cell?_of_block (w := w) hb).trans hS.out.cell.1
    · exact (World.frozen?_of_block (w := w) hb).trans (hS.out.frozen 0)
  have FIN := Lib.hid fin
  clear fin
  go_enter Try.func14, Try.ntmps14
  go_wp2
  go_quiet (fail)
  go_wp2_with (at_builtin; go_loud (refine wp_app1 33 9 (.string ⟨#[]⟩) 16 Try.underlying33 info_str rfl B (.slice a L c) L xs (.string q) _ _ rfl (by rfl) (.tmp 25) (.tmp 27) (by rfl) (by rfl) (by rfl) hO.out (by assumption) rfl (by omega) (by decide) ?_); intro v' w1 hown hg hat; obtain ⟨a1, d1, rfl⟩ := ownsRow_slice hown; obtain ⟨hc1, hf1, hend⟩ := FIN.out _ _ _ hown hg hat; clear hown hg hat)
  go_ret
  exact ⟨rfl, hend.out⟩
theorem at_s (b : Nat) (v : Value) (xs : List Value) (most over under i : Int) (B : Nat) (w : World) (h : SStk w B b v xs most over under) (h0 : 0 ≤ i) (hi : i < (xs.length : Int)) (hl : xs.length ≤ 1000000) :
    Calls Try.prog 28 #[.pointer (some ⟨b, 0, none⟩), .int .i64 i] w fun e w' => e = .returned (.tuple #[.int .i64 ((xs.length : Int) - 1 - i), .bool true]) ∧ w = w' := by
  obtain ⟨a, c, rfl, hc⟩ := h.form
  obtain ⟨c0, c1, c2, c3⟩ := h.cell
  obtain ⟨L, hL⟩ : ∃ L, xs.length = L := ⟨_, rfl⟩
  rw [hL] at hc c0 hi hl ⊢
  clear h hL
  have i1 : IntKind.i64.wrap ((L : Int) - 1) = (L : Int) - 1 := IntWalk.i64_in _ (by omega)
  have i2 : IntKind.i64.wrap ((L : Int) - 1 - i) = (L : Int) - 1 - i := IntWalk.i64_in _ (by omega)
  have hi2 : ¬ (L : Int) ≤ i := by omega
  go_enter Try.func28, Try.ntmps28
  go_wp2_with fail
  go_ret2
  exact ⟨rfl, rfl⟩
theorem peek_s (b : Nat) (v : Value) (l : List ByteArray) (most over under : Int) (i : Nat) (B : Nat) (w : World) (h : SStk w B b v (l.map Value.string) most over under) (hi : i < l.length) (hl : l.length ≤ 1000000) :
    Calls Try.prog 16 #[.pointer (some ⟨b, 0, none⟩), .int .i64 i] w fun e w' => e = .returned (.tuple #[.string (l.getD (l.length - 1 - i) ByteArray.empty), .int .i64 0]) ∧ w = w' := by
  have A := at_s b v (l.map Value.string) most over under i B w h (by omega) (by simpa using hi) (by simpa using hl)
  have hr : Rds w v l := Rds.of_own h.2.2
  obtain ⟨a, c, rfl, _⟩ := hr.len
  obtain ⟨g, off, rfl, k0⟩ := hr.at_ (i := l.length - 1 - i) (by omega)
  have c0 := h.cell.1
  obtain ⟨L, hL⟩ : ∃ L, l.length = L := ⟨_, rfl⟩
  rw [List.length_map] at A
  rw [hL] at A hi hl k0 c0 ⊢
  obtain ⟨p, hp⟩ : ∃ p, L - 1 - i = p := ⟨_, rfl⟩
  rw [hp] at k0 ⊢
  rw [show (L : Int) - 1 - i = (p : Int) by omega] at A
  obtain ⟨y, hy⟩ : ∃ y, l.getD p ByteArray.empty = y := ⟨_, rfl⟩
  rw [hy] at k0 ⊢
  have HA := Lib.hid A
  have hpL : (p : Int) < L := by omega
  clear A h hr hL hy hp
  go_enter Try.func16, Try.ntmps16
  go_wp2_with (go_at_call 28; (with_reducible refine (HA.out).mono ?_); rintro e w' ⟨rfl, rfl⟩)
  go_ret2
  exact ⟨rfl, rfl⟩
set_option maxHeartbeats 1000000 in
theorem clone_s (a : Option Addr) (n c : Nat) (l : List ByteArray) (w : World) (h : Rds w (.slice a n c) l) (hs : l.length ≤ 1000000) : Calls Try.prog 27 #[.slice a n c] w fun e w' => ∃ u, e = .returned u ∧ w'.ownsRow w.heap.size 9 1 u l.length (l.map Value.string) ∧ Below w.heap.size w w' := by
  cases a with
  | none =>
    have hl : l = [] := by
      obtain ⟨_, _, e, _, h⟩ := h
      rcases h with h | ⟨g, off, ea, _⟩
      · exact h
      · injection e with e1; rw [ea] at e1; cases e1
    have HL := Lib.hid hl
    have E := fun W => Lib.run_eql_slice_nil (P := Try.prog) W 33 9 none n c 0 0 Try.underlying33
    clear h hl
    go_enter Try.func27, Try.ntmps27
    go_wp2
    go_ret
    exact ⟨_, rfl, by rw [HL.out]; exact World.ownsRow_nil _ _ _ _, Below.refl _ _⟩
  | some ad =>
    have HR := Lib.hid h
    have own0 : (w.alloc (.cells #[] 9)).ownsRow w.heap.size 9 1 (.slice (some ⟨w.heap.size, 0, none⟩) 0 0) 0 [] := World.ownsRow_made w #[] 0 (Nat.le_refl _) (Nat.zero_le _) rfl
    have H0 := Lib.hid own0
    have b0 := (Below.refl w.heap.size w).alloc (Nat.le_refl _) (.cells #[] 9)
    have E := fun W => Lib.run_eql_slice_nil (P := Try.prog) W 33 9 (some ad) n c 0 0 Try.underlying33
    clear own0 h
    go_enter Try.func27, Try.ntmps27
    go_wp2_with (at_builtin; go_loud (refine wp_appsS 33 9 (.string ⟨#[]⟩) 16 Try.underlying33 info_str rfl w.heap.size (.slice (some ⟨w.heap.size, 0, none⟩) 0 0) 0 [] rfl (.tmp 5) (.tmp 6) (by rfl) (by rfl) H0.out (by simp) _ l (by rfl) (HR.out.below b0) (by omega) (by decide) ?_); intro v2 w2 hown2 hg2 _; have hO := Lib.hid hown2; have hb2 := b0.trans (grown_below hg2 H0.out (by simp)); clear hown2 hg2)
    go_ret
    exact ⟨_, rfl, by have := hO.out; rwa [Nat.zero_add, List.nil_append] at this, hb2⟩
theorem all_s (b : Nat) (v : Value) (l : List ByteArray) (most over under : Int) (B : Nat) (w : World) (h : SStk w B b v (l.map Value.string) most over under) (hs : l.length ≤ 1000000) :
    Calls Try.prog 15 #[.pointer (some ⟨b, 0, none⟩)] w fun e w' => ∃ u, e = .returned u ∧ w'.ownsRow w.heap.size 9 1 u l.length (l.map Value.string) ∧ Below w.heap.size w w' := by
  have hr : Rds w v l := Rds.of_own h.2.2
  obtain ⟨a, c, rfl, _⟩ := hr.len
  have C := clone_s a l.length c l w hr hs
  have HC := Lib.hid C
  have c0 := h.cell.1
  clear h hr C
  go_enter Try.func15, Try.ntmps15
  go_wp2_with (go_at_call 27; (with_reducible refine (HC.out).mono ?_); rintro e w1 ⟨u, rfl, ho, hb⟩; obtain ⟨a1, d1, rfl⟩ := ownsRow_slice ho)
  go_ret
  exact ⟨_, rfl, ho, hb⟩
end Go.Proofs.Yticjepfcgfdmgaa
