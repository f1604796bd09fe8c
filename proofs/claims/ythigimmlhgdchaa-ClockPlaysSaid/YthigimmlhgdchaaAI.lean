/- What the law ClockPlays needs: New of any list on both sides; rows that are copied. -/
import Derived.Test.YthigimmlhgdchaaAH
import Derived.Test.YthigimmlhgdchaaAB
import Derived.Test.YthigimmlhgdchaaY
namespace Go.Proofs.Ythigimmlhgdchaa
set_option linter.unusedVariables false
set_option linter.unusedSimpArgs false
open Go.RowKit

def c2p (l : List (Int × Int)) : List Value := l.flatMap fun e => [.int .i64 e.1, .int .i64 e.2]
theorem c2p_len : ∀ l : List (Int × Int), (c2p l).length = l.length * 2
  | [] => rfl
  | e :: l => by
    have := c2p_len l
    simp only [c2p, List.flatMap_cons, List.length_append, List.length_cons, List.length_nil] at this ⊢
    omega
theorem c2p_get : ∀ (l : List (Int × Int)) (i : Nat), i < l.length → (c2p l)[i * 2]? = some (.int .i64 (l.getD i (0, 0)).1) ∧ (c2p l)[i * 2 + 1]? = some (.int .i64 (l.getD i (0, 0)).2)
  | [], i, h => by simp at h
  | a :: l, 0, h => ⟨rfl, rfl⟩
  | a :: l, i + 1, h => by
    have := c2p_get l i (by simpa using h)
    show (Value.int .i64 a.1 :: Value.int .i64 a.2 :: c2p l)[(i + 1) * 2]? = _ ∧ (Value.int .i64 a.1 :: Value.int .i64 a.2 :: c2p l)[(i + 1) * 2 + 1]? = _
    rw [show (i + 1) * 2 = i * 2 + 1 + 1 by omega, show i * 2 + 1 + 1 + 1 = (i * 2 + 1) + 1 + 1 by omega]
    simpa using this
theorem c2p_inv {l : List (Int × Int)} {j : Nat} {u : Value} (h : (c2p l)[j]? = some u) : ∃ i, i < l.length ∧ ((j = i * 2 ∧ u = .int .i64 (l.getD i (0, 0)).1) ∨ (j = i * 2 + 1 ∧ u = .int .i64 (l.getD i (0, 0)).2)) := by
  have hj : j < (c2p l).length := (List.getElem?_eq_some_iff.1 h).1
  rw [c2p_len] at hj
  refine ⟨j / 2, by omega, ?_⟩
  have hg := c2p_get l (j / 2) (by omega)
  have hm : j = j / 2 * 2 ∨ j = j / 2 * 2 + 1 := by omega
  rcases hm with e | e
  · refine .inl ⟨e, ?_⟩
    have := hg.1
    rw [← e, h] at this
    injection this
  · refine .inr ⟨e, ?_⟩
    have := hg.2
    rw [← e, h] at this
    injection this
/-- append(s, events...). -/
theorem run_evs {P : Program} (w : World) (T ty e : TypeId) (i0 : TypeInfo) (z : Value) (bytes : Nat) (ht : P.underlying T = some (.slice e)) (hi : P.info? e = some i0) (hz0 : i0.zero = some z) (hz1 : i0.size = 2) (hz2 : i0.bytes = bytes) (hz3 : z.cells.size = 2)
    (B : Nat) (v : Value) (n : Nat) (xs : List Value) (hown : w.ownsRow B e 2 v n xs) (hB : B ≤ w.heap.size) (u : Value) (l : List (Int × Int)) (hr : Evs w u l) (hn : n + l.length < 1000000000000) (hby : bytes ≤ 64) :
    ∃ v' w', (Builtin.append_ #[T, T] ty #[v, u]).run P w = .ok v' w' ∧ w'.ownsRow B e 2 v' (n + l.length) (xs ++ c2p l) ∧ w.grownBy w' v.ownBlock := by
  obtain ⟨a, c, rfl, hc, hcell⟩ := hr
  cases a with
  | none =>
    have hl : l = [] := by
      rcases hcell with h | ⟨g, off, h, _⟩
      · exact h
      · cases h
    subst hl
    refine ⟨v, w, ?_, by simpa [c2p] using hown, ⟨rfl, rfl, rfl, Nat.le_refl _, fun _ _ _ => rfl⟩⟩
    rcases hown.2 with ⟨rfl, h0⟩ | ⟨g, cap, cur, rfl, hb, hh, hcap, _⟩
    · subst h0
      simp [Builtin.append_, run_underlying ht, sizeOf, typeInfo, hi, Builtin.lenOf, Builtin.firstCells, hz1]
    · have hcap' : ¬ cap < n := by omega
      simp [Builtin.append_, run_underlying ht, sizeOf, typeInfo, hi, Builtin.lenOf, Builtin.firstCells, storeCells, hcap, hcap', hz1]
  | some ad =>
    have hc1 : ∀ j x, (c2p l)[j]? = some x → w.cell? (ad.add j) = some x := by
      intro j x hj
      rcases hcell with h | ⟨g, off, h, hcl⟩
      · subst h; simp [c2p] at hj
      · injection h with h
        subst h
        obtain ⟨i, hil, hx⟩ := c2p_inv hj
        have hci := hcl i hil
        have e1 : (⟨g, off, none⟩ : Addr).add j = ⟨g, off + j, none⟩ := by unfold Addr.add; split <;> simp_all
        rw [e1]
        rcases hx with ⟨rfl, rfl⟩ | ⟨rfl, rfl⟩
        · exact hci.1
        · rw [← Nat.add_assoc]; exact hci.2
    obtain ⟨v', w', h1, h2, h3, _, h5⟩ := run_append_own_at (P := P) w B T ty e i0 z 2 bytes ht hi hz0 hz1 hz2 hz3 (by decide) v n xs hown ad l.length c (c2p l) (c2p_len l) hc1
      (fun x hx => by
        obtain ⟨j, hj, rfl⟩ := List.getElem_of_mem hx
        obtain ⟨i, _, ⟨_, h⟩ | ⟨_, h⟩⟩ := c2p_inv (List.getElem?_eq_getElem hj) <;> (rw [h]; rfl)) (by unfold maxLen; omega)
      (calc (n + l.length) * bytes ≤ (n + l.length) * 64 := Nat.mul_le_mul_left _ hby
         _ ≤ 140737488355328 := by omega) hB
    exact ⟨v', w', h1, h2, h3⟩
theorem wp_evs {P : Program} {w : World} {ops : Array Oper} {rest : List Oper} {o : Oper} {a : Act} {Q : Exit → Act → World → Prop} (T e : TypeId) (i0 : TypeInfo) (z : Value) (bytes : Nat) (ht : P.underlying T = some (.slice e)) (hi : P.info? e = some i0) (hz0 : i0.zero = some z) (hz1 : i0.size = 2) (hz2 : i0.bytes = bytes) (hz3 : z.cells.size = 2)
    (B : Nat) (v : Value) (n : Nat) (xs : List Value) (hgd : o.guard = none) (s x : Operand) (ho : o.op = .call { callee := .builtin .append, args := #[s, x], argTypes := #[T, T] })
    (hs : a.eval s = v) (hown : w.ownsRow B e 2 v n xs) (hB : B ≤ w.heap.size) (u : Value) (l : List (Int × Int)) (hx : a.eval x = u) (hr : Evs w u l) (hn : n + l.length < 1000000000000) (hby : bytes ≤ 64)
    (h : ∀ v' w', w'.ownsRow B e 2 v' (n + l.length) (xs ++ c2p l) → w.grownBy w' v.ownBlock → wpList P ops Q rest (a.put o.dst v') w') :
    wpList P ops Q (o :: rest) a w := by
  refine wpList_plain hgd fun K hK => ?_
  obtain ⟨v', w', hr', h2, h3⟩ := run_evs (P := P) w T o.type e i0 z bytes ht hi hz0 hz1 hz2 hz3 B v n xs hown hB u l hr hn hby
  unfold Oper.wp execOp
  simp only [ho, resolve, invoke, builtin, Sem.run_bind, Sem.run_pure, Result.andThen_ok, List.map_toArray, List.map_cons, List.map_nil, hs, hx, hr']
  exact hK _ _ (h v' w' h2 h3)
/-- A row of events, whole or in front, reads as them. -/
theorem Evs.of_row {w : World} {B e g n c : Nat} {l : List (Int × Int)} {ys : List Value} (h : w.ownsRow B e 2 (.slice (some ⟨g, 0, none⟩) n c) n (c2p l ++ ys)) (hl : l.length ≤ n) : Evs w (.slice (some ⟨g, 0, none⟩) l.length c) l := by
  have hc := (row_blk h).2
  obtain ⟨cur, _, hnc, _⟩ := hc
  refine ⟨_, c, rfl, by omega, .inr ⟨g, 0, rfl, fun i hi => ?_⟩⟩
  have hg := c2p_get l i hi
  have h1 : (c2p l ++ ys)[i * 2]? = some (.int .i64 (l.getD i (0, 0)).1) := by rw [List.getElem?_append_left (by rw [c2p_len]; omega)]; exact hg.1
  have h2 : (c2p l ++ ys)[i * 2 + 1]? = some (.int .i64 (l.getD i (0, 0)).2) := by rw [List.getElem?_append_left (by rw [c2p_len]; omega)]; exact hg.2
  rw [Nat.zero_add]
  exact ⟨row_get h h1, row_get h h2⟩
/-- What the program's New leaves. -/
def Pn (w0 w : World) (b : Nat) (s : Int) (l : List (Int × Int)) : Prop :=
  ∃ a c l', Clk 54 w b s 0 (.slice a l.length c) ∧ Rw w (b + 1) (.slice a l.length c) l' ∧ l'.length = l.length ∧ Hp l' 0 l.length ∧ l'.Perm (ev3 l) ∧ Below w0.heap.size w0 w
theorem pnew_c (l : List (Int × Int)) (v : Value) (s : Int) (w : World) (hv : Evs w v l) (hl : l.length ≤ 200) (hok : ∀ e ∈ l, okE e) (s0 : 0 ≤ s) (s1 : s ≤ 8589934592) :
    Calls Try.prog 9 #[.int .i64 s, v] w fun e w' => e = .returned (.tuple #[.pointer (some ⟨w.heap.size, 0, none⟩), .int .i64 0]) ∧ Pn w w' w.heap.size s l := by
  refine (new_gen l v s w (fun wx v' w' => ∃ l', Clk 54 w' w.heap.size s 0 v' ∧ Rw w' (w.heap.size + 1) v' l' ∧ l'.Perm (ev3 l) ∧ l'.length = l.length ∧ Hp l' 0 l.length ∧ (Below w.heap.size w wx → Below w.heap.size w w')) hv (by omega) hok s0 s1 ?_).mono ?_
  · intro wx v' hC hR
    have hR' : Rw wx (w.heap.size + 1) v' (ev3 l) := by unfold Rw; rw [ev3_len]; exact hR
    obtain ⟨N, hN⟩ : ∃ N, l.length = N := ⟨_, rfl⟩
    rw [hN] at hR ⊢
    cases N with
    | zero =>
      obtain ⟨a, c, rfl⟩ := ownsRow_slice3 hR
      refine (init_c _ a 0 c wx hC.c2 (.inl rfl)).mono ?_
      rintro e w' ⟨rfl, rfl⟩
      exact ⟨rfl, ev3 l, hC, hR', .refl _, by rw [ev3_len]; exact hN, fun c hc => by omega, fun h => h⟩
    | succ N =>
      obtain ⟨g, c, rfl, hg⟩ := row_form hR
      refine (init_gen w.heap.size (w.heap.size + 1) g c (N + 1) s 0 (ev3 l) wx hC hR' (by rw [ev3_len]; exact hN) (by omega) (by omega)).mono ?_
      rintro e w' ⟨rfl, k1, ⟨l', k2, k3, k4, k5⟩, k6⟩
      refine ⟨rfl, l', k1, k2, k3, k4, k5, fun hb => ?_⟩
      exact ⟨k6.os.trans hb.os, k6.tape.trans hb.tape, k6.output.trans hb.output, Nat.le_trans hb.size k6.size, fun k hk => (k6.block k (Nat.lt_of_lt_of_le hk hb.size) (by omega) (by omega)).trans (hb.block k hk)⟩
  · rintro e w' ⟨rfl, wx, v', _, _, hb, l', k1, k2, k3, k4, k5, k6⟩
    have ho := k2.own k4
    obtain ⟨a, c, rfl⟩ := ownsRow_slice3 ho
    exact ⟨rfl, a, c, l', k1, k2, k4, k5, k3, k6 hb⟩
theorem new_start (s : Int) (a : Option Addr) (n c : Nat) (w : World) (hn : n ≤ 2000) (h : s < 0 ∨ 8589934592 < s) : Calls Try.prog 9 #[.int .i64 s, .slice a n c] w fun e w' => e = .returned (.tuple #[.pointer none, .int .i64 1]) ∧ w = w' := by
  rcases h with h | h
  · go_enter Try.func9, Try.ntmps9
    go_wp2_with fail
    go_ret2
    exact ⟨rfl, rfl⟩
  · have h0 : ¬ s < 0 := by omega
    go_enter Try.func9, Try.ntmps9
    go_wp2_with fail
    go_ret2
    exact ⟨rfl, rfl⟩
theorem rnew_start (s : Int) (a : Option Addr) (n c : Nat) (w : World) (hn : n ≤ 2000) (h : s < 0 ∨ 8589934592 < s) : Calls Try.prog 13 #[.int .i64 s, .slice a n c] w fun e w' => e = .returned (.tuple #[.pointer none, .int .i64 1]) ∧ w = w' := by
  rcases h with h | h
  · go_enter Try.func13, Try.ntmps13
    go_wp2_with fail
    go_ret2
    exact ⟨rfl, rfl⟩
  · have h0 : ¬ s < 0 := by omega
    go_enter Try.func13, Try.ntmps13
    go_wp2_with fail
    go_ret2
    exact ⟨rfl, rfl⟩
theorem two_c2 (R : List Ev) : c2p (two R) = c2 R := by
  induction R with
  | nil => rfl
  | cons e R ih => show Value.int .i64 e.1 :: Value.int .i64 e.2.1 :: c2p (two R) = _; rw [ih]; rfl
/-- Both clocks, made. -/
theorem db_new {w0 w1 w2 : World} {b : Nat} {s : Int} {l : List (Int × Int)} {v' : Value} {R : List Ev} (hp : Pn w0 w1 b s l) (hb : w0.heap.size = b) (hl : l.length ≤ 200) (hok : ∀ e ∈ l, okE e) (hC : Clk 49 w2 w1.heap.size s 0 v') (hR : Rx w2 (w1.heap.size + 1) v' R) (hs : SortedE R) (hpm : R.Perm (ev3 l)) (hbw : Below w1.heap.size w1 w2) : DB w2 b w1.heap.size s 0 R := by
  obtain ⟨a, c, l', h1, h2, h3, h4, h5, h6⟩ := hp
  have hRl : R.length = l.length := by rw [hpm.length_eq, ev3_len]
  refine ⟨⟨a, c, l', ?_, ?_, by omega, by rw [hRl]; exact h4, h5.trans hpm.symm, hs, ?_⟩, ?_, h1.lt, ?_⟩
  · rw [hRl]; exact h1.below hbw
  · rw [hRl]; exact Rw.below h2 hbw
  · intro g o e
    have ho := h2.own h3
    rw [e] at ho
    have hlt := (ownsRow_base ho g (by rcases ho.2 with ⟨h, _⟩ | ⟨g', cap, cur, h, _⟩ <;> first | (cases h; done) | (cases h; rfl))).2
    exact hlt
  · unfold Rx at hR
    obtain ⟨a2, c2', rfl⟩ := ownsRow_slice3 hR
    refine ⟨a2, c2', hC, ?_, ?_⟩
    · rcases hR.2 with ⟨he, h0⟩ | ⟨g, cap, cur, he, _⟩
      · have hn : R = [] := List.eq_nil_of_length_eq_zero h0
        rw [hn] at he ⊢
        rw [he]
        exact ⟨none, 0, rfl, Nat.le_refl _, .inl rfl⟩
      · injection he with e1 e2 e3
        subst e1
        have h9 := Evs.of_row (l := two R) (ys := []) (n := R.length) (by rw [two_c2, List.append_nil]; exact hR) (by simp [two])
        have e9 : (two R).length = R.length := by simp [two]
        rw [e9] at h9
        exact h9
    · intro g o e
      rw [e] at hR
      have := (ownsRow_base hR g (by rcases hR.2 with ⟨h, _⟩ | ⟨g', cap, cur, h, _⟩ <;> first | (cases h; done) | (cases h; rfl))).1
      omega
  · refine ⟨Int.le_refl _, by decide, by omega, fun e he => ?_⟩
    obtain ⟨q, hq, hx⟩ := ev3_mem (hpm.subset he)
    have := hok (l.getD q (0, 0)) (by rw [List.getD_eq_getElem?_getD, List.getElem?_eq_getElem hq]; simp)
    rw [hx] at this
    exact this.2.1
/-- Cells ahead of the clocks are written. -/
theorem DB.fb {w w' : World} {b b2 g : Nat} {s t : Int} {R : List Ev} (h : DB w b b2 s t R) (f : Fb g w w') (hg : g < b) : DB w' b b2 s t R := by
  have hb2 := h.2.2.1
  obtain ⟨⟨a, c, l', h1, h2, h3⟩, ⟨a2, cc, g1, g2, g3⟩, _, hl⟩ := h
  refine ⟨⟨a, c, l', h1.same (f.block b h1.lt (by omega)), ownsRow_same h2 (fun k hk => f.block k (ownsRow_base h2 k hk).2 (by have := (ownsRow_base h2 k hk).1; omega)), h3⟩, ⟨a2, cc, g1.same (f.block b2 g1.lt (by omega)), g2.fb f (fun g' o e => by have := g3 g' o e; omega), g3⟩, hb2, hl⟩
end Go.Proofs.Ythigimmlhgdchaa
