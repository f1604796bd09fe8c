/- What the law ClockPlays needs: its steps, read; the clocks, made; the row that is copied. -/
import Derived.Test.YthigimmlhgdchaaAI
import Derived.Test.YthigimmlhgdchaaZA
import Derived.Deep.Strs
namespace Go.Proofs.Ythigimmlhgdchaa
set_option linter.unusedVariables false
set_option linter.unusedSimpArgs false
open Go.RowKit Go.ChangeShapes Go.WideShapes Go.Deep

/-- A list of triples that is read. -/
def Rd3 (w : World) (v : Value) (l : List (Int × Int × Bool)) : Prop :=
  ∃ a c, v = .slice a l.length c ∧ l.length ≤ c ∧ (l = [] ∨ ∃ g off, a = some ⟨g, off, none⟩ ∧ ∀ i, i < l.length → w.cell? ⟨g, off + i * 3, none⟩ = some (.int .i64 (l.getD i (0, 0, false)).1) ∧ w.cell? ⟨g, off + i * 3 + 1, none⟩ = some (.int .i64 (l.getD i (0, 0, false)).2.1) ∧ w.cell? ⟨g, off + i * 3 + 2, none⟩ = some (.bool (l.getD i (0, 0, false)).2.2))
theorem Rd3.at_ {w : World} {a : Option Addr} {n c : Nat} {l : List (Int × Int × Bool)} (h : Rd3 w (.slice a n c) l) {i : Nat} (hi : i < l.length) : ∃ g off, a = some ⟨g, off, none⟩ ∧ w.cell? ⟨g, off + i * 3, none⟩ = some (.int .i64 (l.getD i (0, 0, false)).1) ∧ w.cell? ⟨g, off + i * 3 + 1, none⟩ = some (.int .i64 (l.getD i (0, 0, false)).2.1) ∧ w.cell? ⟨g, off + i * 3 + 2, none⟩ = some (.bool (l.getD i (0, 0, false)).2.2) := by
  obtain ⟨a', c', e, hc, hr⟩ := h
  injection e with e1 e2 e3
  subst e1
  rcases hr with h | ⟨g, off, ea, hcell⟩
  · rw [h] at hi; simp at hi
  · exact ⟨g, off, ea, hcell i hi⟩
theorem Rd3.below {w w1 : World} {v : Value} {l : List (Int × Int × Bool)} (h : Rd3 w v l) (hb : Below w.heap.size w w1) : Rd3 w1 v l := by
  obtain ⟨a, c, e, hc, hr⟩ := h
  refine ⟨a, c, e, hc, ?_⟩
  rcases hr with h | ⟨g, off, ea, hcell⟩
  · exact .inl h
  · exact .inr ⟨g, off, ea, fun i hi => ⟨cell_below hb (hcell i hi).1, cell_below hb (hcell i hi).2.1, cell_below hb (hcell i hi).2.2⟩⟩
/-- A slice of structs of three numbers that is an argument, read. -/
theorem rd3_arg {H : Type} {enc : TypeId × Value → H} {P : Program} {W : World} {t e : TypeId} {f0 f1 f2 : Field} {v : Value} {d : DataW H} {p : List MemPlace} (ht : P.underlying t = some (.slice e)) (he : P.underlying e = some (.struct #[f0, f1, f2]))
    (ho : f0.offset = 0 ∧ f1.offset = 1 ∧ f2.offset = 2) (hk : P.cellsOf f0.type = 1 ∧ P.cellsOf f1.type = 1 ∧ P.cellsOf f2.type = 1) (h0 : P.underlying f0.type = some (.int .i64)) (h1 : P.underlying f1.type = some (.int .i64)) (h2 : P.underlying f2.type = some .bool) (hC : P.cellsOf e = 3)
    (hv : ∃ a len cap, v = .slice a len cap) (h : DataW.Trod enc P W 0 (fun _ => true) true t v d p) :
    ∃ l, Rd3 W v l ∧ (∀ x ∈ l, (Lit.int .i64 x.1).wf = true ∧ (Lit.int .i64 x.2.1).wf = true) ∧ l.length ≤ maxLen := by
  obtain ⟨a0, len0, cap0, rfl⟩ := hv
  obtain ⟨fuel, hf⟩ := h
  rcases open_slice ht hf with ⟨hcs, hx⟩ | ⟨a, len, cap, m, n, D, Pl, hcs, _, hl, hm, hmm, _, hi⟩
  · simp [Value.cells] at hcs
    obtain ⟨rfl, rfl, rfl⟩ := hcs
    exact ⟨[], ⟨none, 0, rfl, Nat.le_refl _, .inl rfl⟩, fun x hx => by simp at hx, by simp⟩
  · simp [Value.cells] at hcs
    obtain ⟨rfl, rfl, rfl⟩ := hcs
    simp only [if_true] at hmm
    subst hmm
    have each : ∀ i, ∃ x : Int × Int × Bool, i < m → (W.cell? (a.add (i * 3)) = some (.int .i64 x.1) ∧ W.cell? ((a.add (i * 3)).add 1) = some (.int .i64 x.2.1) ∧ W.cell? ((a.add (i * 3)).add 2) = some (.bool x.2.2)) ∧ (Lit.int .i64 x.1).wf = true ∧ (Lit.int .i64 x.2.1).wf = true := by
      intro i
      by_cases hic : i < m
      · obtain ⟨cs', hc, htr⟩ := hi i hic
        rw [hC] at hc
        obtain ⟨_, hlen, hat⟩ := World.cells?_some hc
        obtain ⟨y0, y1, y2, k, _, _, g0, g1, g2⟩ := trod_struct3 he htr
        match cs', hlen with
        | [c0, c1, c2], _ =>
          rw [ho.1, hk.1] at g0
          rw [ho.2.1, hk.2.1] at g1
          rw [ho.2.2, hk.2.2] at g2
          obtain ⟨z0, e0, _, w0⟩ := DataW.trod_int h0 g0
          obtain ⟨z1, e1, _, w1⟩ := DataW.trod_int h1 g1
          obtain ⟨z2, e2, _⟩ := DataW.trod_bool h2 g2
          simp at e0 e1 e2
          subst e0 e1 e2
          have a0 := hat 0 (by decide)
          have a1 := hat 1 (by decide)
          have a2 := hat 2 (by decide)
          have az : (a.add (i * 3)).add 0 = a.add (i * 3) := by unfold Addr.add; split <;> simp_all
          rw [az] at a0
          exact ⟨(z0, z1, z2), fun _ => ⟨⟨a0, a1, a2⟩, w0, w1⟩⟩
      · exact ⟨(0, 0, false), fun h => absurd h hic⟩
    obtain ⟨F, hF⟩ : ∃ F : Nat → Int × Int × Bool, ∀ i, i < m → (W.cell? (a.add (i * 3)) = some (.int .i64 (F i).1) ∧ W.cell? ((a.add (i * 3)).add 1) = some (.int .i64 (F i).2.1) ∧ W.cell? ((a.add (i * 3)).add 2) = some (.bool (F i).2.2)) ∧ (Lit.int .i64 (F i).1).wf = true ∧ (Lit.int .i64 (F i).2.1).wf = true :=
      ⟨fun i => (each i).choose, fun i => (each i).choose_spec⟩
    refine ⟨(List.range len0).map F, ⟨some a, m, by simp, by simpa using hl, ?_⟩, ?_, by simp; omega⟩
    · by_cases hz : len0 = 0
      · exact .inl (by subst hz; rfl)
      · obtain ⟨b, off, spot⟩ := a
        have hspot : spot = none := by
          have := World.cell?_spot (hF 0 (by omega)).1.1
          simpa [Addr.add] using this
        subst hspot
        refine .inr ⟨b, off, rfl, fun i hi => ?_⟩
        simp only [List.length_map, List.length_range] at hi
        have := (hF i (by omega)).1
        have ad : ∀ o j, (⟨b, o, none⟩ : Addr).add j = ⟨b, o + j, none⟩ := by intro o j; unfold Addr.add; split <;> simp_all
        rw [ad, ad, ad] at this
        have e : ((List.range len0).map F).getD i (0, 0, false) = F i := by simp [List.getD_eq_getElem?_getD, hi]
        rw [e]
        exact this
    · intro x hx
      simp only [List.mem_map, List.mem_range] at hx
      obtain ⟨i, hi, rfl⟩ := hx
      exact (hF i (by omega)).2
/-- append(s, x), where x is an event that lies in a new block of its own. -/
theorem wp_app2 {P : Program} {ops : Array Oper} {rest : List Oper} {o : Oper} {a : Act} {Q : Exit → Act → World → Prop} (T e : TypeId) (i0 : TypeInfo) (z : Value) (bytes : Nat) (ht : P.underlying T = some (.slice e)) (hi : P.info? e = some i0) (hz0 : i0.zero = some z) (hz1 : i0.size = 2) (hz2 : i0.bytes = bytes) (hz3 : z.cells.size = 2)
    (B : Nat) (v : Value) (n : Nat) (xs : List Value) (y0 y1 : Int) (w : World) (N : Nat) (hN : w.heap.size = N) (hgd : o.guard = none) (s x : Operand) (ho : o.op = .call { callee := .builtin .append, args := #[s, x], argTypes := #[T, T] })
    (hs : a.eval s = v) (hx : a.eval x = .slice (some ⟨N, 0, none⟩) 1 1) (hown : w.ownsRow B e 2 v n xs) (hB : B ≤ N) (hn : n < 1000000000000) (hby : bytes ≤ 64) (M : Nat) (hM : n + 1 = M)
    (h : ∀ v' w', w'.ownsRow B e 2 v' M (xs ++ [.int .i64 y0, .int .i64 y1]) → Below B w w' → wpList P ops Q rest (a.put o.dst v') w') :
    wpList P ops Q (o :: rest) a (w.alloc (.cells #[.int .i64 y0, .int .i64 y1] e)) := by
  subst hN hM
  refine wpList_append_own_at _ hgd s x T ho B e i0 z 2 bytes ht hi hz0 hz1 hz2 hz3 (by decide) v n xs hs (hown.alloc _) ⟨w.heap.size, 0, none⟩ 1 1 [.int .i64 y0, .int .i64 y1] hx rfl ?c1 ?c2 ?c3 ?c4 ?c5 ?_
  case c1 =>
    intro j u hj
    have e1 := heap_alloc_new w (.cells #[.int .i64 y0, .int .i64 y1] e)
    have ha : (⟨w.heap.size, 0, none⟩ : Addr).add j = ⟨w.heap.size, j, none⟩ := by unfold Addr.add; split <;> simp_all
    rw [ha, cell_of_row _ _ _ _ _ _ e1]
    simpa using hj
  case c2 => intro u hu; simp at hu; rcases hu with rfl | rfl <;> rfl
  case c3 => unfold maxLen; omega
  case c4 => calc (n + 1) * bytes ≤ (n + 1) * 64 := Nat.mul_le_mul_left _ hby
             _ ≤ 140737488355328 := by omega
  case c5 => simp; omega
  · intro v' w' h2 h3 _ h5
    exact h v' w' h2 (((Below.refl B w).alloc hB _).grown h3 (by simp; omega) (fun k hk => (hown.lt k hk).1))
/-- Both clocks are made, one behind the other. -/
theorem make_c (l : List (Int × Int)) (v v' : Value) (s : Int) (w : World) (hv : Evs w v l) (hv' : Evs w v' l) (hl : l.length ≤ 200) (hok : ∀ e ∈ l, okE e) (s0 : 0 ≤ s) (s1 : s ≤ 8589934592) :
    Calls Try.prog 9 #[.int .i64 s, v'] w fun e w1 => ∃ b b2, e = .returned (.tuple #[.pointer (some ⟨b, 0, none⟩), .int .i64 0]) ∧ w.heap.size = b ∧ Hid (Calls Try.prog 13 #[.int .i64 s, v] w1 fun e w2 => e = .returned (.tuple #[.pointer (some ⟨b2, 0, none⟩), .int .i64 0]) ∧ Hid (∃ R, DB w2 b b2 s 0 R ∧ Below w.heap.size w w2)) := by
  refine (pnew_c l v' s w hv' hl hok s0 s1).mono ?_
  rintro e w1 ⟨rfl, hp⟩
  have hb : Below w.heap.size w w1 := by
    obtain ⟨a, c, l', _, _, _, _, _, h⟩ := hp
    exact h
  refine ⟨_, w1.heap.size, rfl, rfl, Lib.hid ((rnew_gen l v s w1 (hv.below hb) (by omega) hok s0 s1).mono ?_)⟩
  rintro e w2 ⟨rfl, v2, R, h1, h2, h3, h4, h5⟩
  exact ⟨rfl, Lib.hid ⟨R, db_new hp rfl hl hok h1 h2 h3 h4 h5, below_then hb hb.size h5⟩⟩
/-- Neither is made. -/
def NoGood (s : Int) (l : List (Int × Int)) : Prop := (s < 0 ∨ 8589934592 < s) ∨ (0 ≤ s ∧ s ≤ 8589934592 ∧ ∃ j, j < l.length ∧ ¬ okE (l.getD j (0, 0)) ∧ ∀ i, i < j → okE (l.getD i (0, 0)))
theorem good_or (s : Int) (l : List (Int × Int)) : (0 ≤ s ∧ s ≤ 8589934592 ∧ ∀ e ∈ l, okE e) ∨ NoGood s l := by
  by_cases hs : 0 ≤ s ∧ s ≤ 8589934592
  · by_cases hok : ∀ i, i < l.length → okE (l.getD i (0, 0))
    · refine .inl ⟨hs.1, hs.2, fun e he => ?_⟩
      obtain ⟨i, hi, rfl⟩ := List.getElem_of_mem he
      have := hok i hi
      rwa [List.getD_eq_getElem?_getD, List.getElem?_eq_getElem hi] at this
    · obtain ⟨j, h1, h2, h3⟩ := first_bad (P := fun i => okE (l.getD i (0, 0))) l.length (Classical.byContradiction fun hn => hok fun i hi => Classical.byContradiction fun hno => hn ⟨i, hi, hno⟩)
      exact .inr (.inr ⟨hs.1, hs.2, j, h1, h2, h3⟩)
  · exact .inr (.inl (by omega))
theorem make_bad (l : List (Int × Int)) (v v' : Value) (s : Int) (w : World) (hv : Evs w v l) (hv' : Evs w v' l) (hl : l.length ≤ 200) (hn : NoGood s l) :
    Calls Try.prog 9 #[.int .i64 s, v'] w fun e w1 => e = .returned (.tuple #[.pointer none, .int .i64 1]) ∧ Hid (Calls Try.prog 13 #[.int .i64 s, v] w1 fun e w2 => e = .returned (.tuple #[.pointer none, .int .i64 1]) ∧ Hid (Below w.heap.size w w2)) := by
  rcases hn with h | ⟨s0, s1, j, h1, h2, h3⟩
  · obtain ⟨a, c, rfl, _⟩ := hv
    obtain ⟨a', c', rfl, _⟩ := hv'
    refine (new_start s a' _ c' w (by omega) h).mono ?_
    rintro e w1 ⟨rfl, rfl⟩
    refine ⟨rfl, Lib.hid ((rnew_start s a _ c w (by omega) h).mono ?_)⟩
    rintro e w2 ⟨rfl, rfl⟩
    exact ⟨rfl, Lib.hid (Below.refl _ _)⟩
  · refine (new_evil l v' s w hv' (by omega) j h1 h3 h2 s0 s1).mono ?_
    rintro e w1 ⟨rfl, hb⟩
    refine ⟨rfl, Lib.hid ((rnew_evil l v s w1 (hv.below hb) (by omega) j h1 h3 h2 s0 s1).mono ?_)⟩
    rintro e w2 ⟨rfl, hb2⟩
    exact ⟨rfl, Lib.hid (below_then hb hb.size hb2)⟩
/-- What the law asks behind a step. -/
theorem after_c {W w2 : World} {b b2 : Nat} {s : Int} (g : Step W w2 b b2 s) (s0 : 0 ≤ s) (s1 : s ≤ 8589934592) :
    ∃ t, w2.cell? ⟨b2, 1, none⟩ = some (.int .i64 t) ∧ Hid (Below b W w2 ∧ ∃ R, DB w2 b b2 s t R) ∧ Hid (Calls Try.prog 11 #[.pointer (some ⟨b, 0, none⟩)] w2 fun e w' => e = .returned (.int .i64 t) ∧ w2 = w') ∧
      Hid (Calls Try.prog 16 #[.pointer (some ⟨b, 0, none⟩), .pointer (some ⟨b2, 0, none⟩)] w2 fun e w3 => e = .returned (.bool true) ∧ Below w2.heap.size w2 w3) := by
  obtain ⟨hb, t, R, hd⟩ := g
  have hd2 := hd
  obtain ⟨⟨a, c, l', h1, _⟩, ⟨a2, c2, g1, _⟩, _, t0, t1, _⟩ := hd
  exact ⟨t, g1.c1, Lib.hid ⟨hb, R, hd2⟩, Lib.hid (now_c _ _ _ _ _ h1), Lib.hid (rd_date h1 g1 s0 s1 t0 t1)⟩
/-- The row of copied events. -/
theorem row_at {w : World} {B g c L M : Nat} {l : List (Int × Int)} (h : w.ownsRow B 32 2 (.slice (some ⟨g, 0, none⟩) M c) M (c2p l ++ [.int .i64 77, .int .i64 0])) (hl : l.length = L) :
    (∀ i, i < L → w.cell? ⟨g, i * 2, none⟩ = some (.int .i64 (l.getD i (0, 0)).1) ∧ w.cell? ⟨g, i * 2 + 1, none⟩ = some (.int .i64 (l.getD i (0, 0)).2)) ∧ w.cell? ⟨g, L * 2, none⟩ = some (.int .i64 77) := by
  refine ⟨fun i hi => ?_, ?_⟩
  · have hg := c2p_get l i (by omega)
    exact ⟨row_get h (by rw [List.getElem?_append_left (by rw [c2p_len]; omega)]; exact hg.1), row_get h (by rw [List.getElem?_append_left (by rw [c2p_len]; omega)]; exact hg.2)⟩
  · exact row_get h (by rw [List.getElem?_append_right (by rw [c2p_len]; omega)]; simp [c2p_len, hl])
theorem row_any {w : World} {B e g n c : Nat} {xs : List Value} (h : w.ownsRow B e 2 (.slice (some ⟨g, 0, none⟩) n c) n xs) {i : Nat} (hi : i < n) : ∃ x y, w.cell? ⟨g, i * 2, none⟩ = some x ∧ w.cell? ⟨g, i * 2 + 1, none⟩ = some y := by
  have hl := h.1
  exact ⟨xs[i * 2]'(by omega), xs[i * 2 + 1]'(by omega), row_get h (List.getElem?_eq_getElem (by omega)), row_get h (List.getElem?_eq_getElem (by omega))⟩
theorem row_below {w w' : World} {B e k n g c : Nat} {xs : List Value} (h : w.ownsRow B e k (.slice (some ⟨g, 0, none⟩) n c) n xs) (hb : Below w.heap.size w w') : w'.ownsRow B e k (.slice (some ⟨g, 0, none⟩) n c) n xs := ownsRow_same h (fun j hj => hb.block j (ownsRow_base h j hj).2)
theorem evs_of {w : World} {B g c L M : Nat} {l : List (Int × Int)} {ys : List Value} (h : w.ownsRow B 32 2 (.slice (some ⟨g, 0, none⟩) M c) M (c2p l ++ ys)) (hl : l.length = L) (hM : L ≤ M) : Evs w (.slice (some ⟨g, 0, none⟩) L c) l := by
  subst hl
  exact Evs.of_row h hM
theorem row_cap {w : World} {B e k n g c : Nat} {xs : List Value} (h : w.ownsRow B e k (.slice (some ⟨g, 0, none⟩) n c) n xs) : n ≤ c := by
  obtain ⟨_, _, hnc, _⟩ := (row_blk h).2
  exact hnc
/-- The first copy. -/
theorem copy_1 {w w4 : World} {L : Nat} {v4 : Value} {l : List (Int × Int)} (h : w4.ownsRow w.heap.size 32 2 v4 (0 + l.length) ([] ++ c2p l)) (hg : w.grownBy w4 (Value.slice none 0 0).ownBlock) (hl : l.length = L) : w4.ownsRow w.heap.size 32 2 v4 L (c2p l) ∧ Below w.heap.size w w4 := by
  subst hl
  refine ⟨by simpa using h, (Below.refl _ w).grown hg (Nat.le_refl _) (fun k hk => by cases hk)⟩
theorem row_form3 {w : World} {B e k n M : Nat} {v : Value} {xs : List Value} (h : w.ownsRow B e k v M xs) (hM : n + 1 = M) : ∃ g c, v = .slice (some ⟨g, 0, none⟩) M c ∧ B ≤ g ∧ g < w.heap.size := by
  subst hM
  exact row_form2 h
end Go.Proofs.Ythigimmlhgdchaa
