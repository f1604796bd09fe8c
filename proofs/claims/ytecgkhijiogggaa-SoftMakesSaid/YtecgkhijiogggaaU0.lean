/- The words of numbers: trimmed, Norm, Of, Low of the reference. -/
import Derived.Test.YtecgkhijiogggaaSA
import Derived.Test.YtecgkhijiogggaaK
import Derived.Laws.BitsAllLaws
namespace Go.Proofs.Ytecgkhijiogggaa
set_option linter.unusedVariables false
set_option linter.unusedSimpArgs false
open Go.RowKit Go.ChangeShapes Go.WideShapes SF

theorem Rd.parts {w : World} {k : IntKind} {l : List Int} {a : Option Addr} {n c : Nat} (h : Rd w k (.slice a n c) l) : n = l.length ∧ n ≤ c ∧ (l = [] ∨ ∃ g off, a = some ⟨g, off, none⟩ ∧ ∀ i, i < n → w.cell? ⟨g, off + i, none⟩ = some (.int k (l.getD i 0))) := by
  obtain ⟨a', c', e, hc, hr⟩ := h
  injection e with e1 e2 e3
  subst e1 e2 e3
  exact ⟨rfl, hc, hr⟩
theorem Rd.addr {w : World} {k : IntKind} {l : List Int} {a : Option Addr} {n c : Nat} (h : Rd w k (.slice a n c) l) (h0 : 0 < n) : ∃ g off, a = some ⟨g, off, none⟩ ∧ ∀ i, i < n → w.cell? ⟨g, off + i, none⟩ = some (.int k (l.getD i 0)) := by
  obtain ⟨hl, hc, h | h⟩ := h.parts
  · subst h; simp at hl; omega
  · exact h
theorem btn {w w1 w2 : World} (h1 : Below w.heap.size w w1) (h2 : Below w1.heap.size w1 w2) : Below w.heap.size w w2 := below_then h1 h1.size h2
theorem info_u32 : (Try.prog.info? 35).map (fun i => (i.zero, i.size, i.bytes)) = some (some (.int .u32 0), 1, 4) := by kernel_rfl
/-- A slice that reads as a number's words. -/
def Nw (w : World) (v : Value) (n : Nat) : Prop := Rd w .u32 v (ws n)
theorem trim_rd {w : World} {a : Option Addr} {n c : Nat} {l : List Int} (hr : Rd w .u32 (.slice a n c) l) (hw : Words l) {m : Nat} (hm : m ≤ n) (h0 : ∀ i, m ≤ i → i < n → l.getD i 0 = 0) (ht : m = 0 ∨ l.getD (m - 1) 0 ≠ 0) : m = (ws (wv l)).length ∧ Nw w (.slice a m c) (wv l) ∧ l.take m = ws (wv l) := by
  have hn := hr.parts.1
  have t := trim_done hw (n := m) (by omega) (fun i h1 h2 => h0 i h1 (by omega)) ht
  refine ⟨t.2, ?_, t.1⟩
  have := hr.take hm
  rw [t.1] at this
  exact this
theorem rtrim_c (a : Option Addr) (n c : Nat) (l : List Int) (w : World) (hr : Rd w .u32 (.slice a n c) l) (hw : Words l) (hn : n ≤ 4611686018427387903) : Calls Try.prog 110 #[.slice a n c] w fun e w' => e = .returned (.slice a (ws (wv l)).length c) ∧ Nw w (.slice a (ws (wv l)).length c) (wv l) ∧ w = w' := by
  have hr0 := hr
  have HT := Lib.hid (fun m => @trim_rd w a n c l hr hw m)
  have hnc := hr.parts.2.1
  go_enter Try.func110, Try.ntmps110
  go_wp2
  go_loop [3] (fun v3 => ∃ m : Nat, m ≤ n ∧ v3 = .int .i64 m ∧ Hid (∀ i, m ≤ i → i < n → l.getD i 0 = 0)) (fun v3 => (intOf v3).toNat)
  case atStart => exact ⟨n, Nat.le_refl _, rfl, fun i h1 h2 => by omega⟩
  case round =>
    obtain ⟨m, hm, rfl, HZ⟩ := hrel
    cases m with
    | zero =>
      obtain ⟨e1, e2, e3⟩ := HT.out 0 (by omega) HZ.out (.inl rfl)
      have H1 := Lib.hid e1
      have H2 := Lib.hid e2
      clear e1 e2 e3
      go_wp2
      go_ret
      exact ⟨by rw [← H1.out]; rfl, by rw [← H1.out]; exact H2.out, rfl⟩
    | succ p =>
      obtain ⟨g, off, rfl, hcl⟩ := hr.addr (by omega)
      have hp := hcl p (by omega)
      obtain ⟨x, hx⟩ : ∃ x, l.getD p 0 = x := ⟨_, rfl⟩
      rw [hx] at hp
      by_cases hz : x = 0
      · have hz1 := beq_of hz
        have HZ2 := Lib.hid (show ∀ i, p ≤ i → i < n → l.getD i 0 = 0 from fun i h1 h2 => by
          by_cases e : i = p
          · subst e; rw [hx]; exact hz
          · exact HZ.out i (by omega) h2)
        clear hz hcl hx
        go_wp2
        go_round
        case rel => exact ⟨p, by omega, rfl, HZ2.out⟩
        case measure => simp [intOf]
      · have hz1 := beq_no hz
        obtain ⟨e1, e2, e3⟩ := HT.out (p + 1) (by omega) HZ.out (.inr (by rw [Nat.add_sub_cancel, hx]; exact hz))
        have H1 := Lib.hid e1
        have H2 := Lib.hid e2
        clear e1 e2 e3 hz hcl hx
        go_wp2
        go_ret
        exact ⟨by rw [← H1.out]; rfl, by rw [← H1.out]; exact H2.out, rfl⟩
/-- Nothing that lay there before is in it. -/
def New (w : World) (v : Value) : Prop := ∀ g, v.ownBlock = some g → w.heap.size ≤ g
theorem new_of {w : World} {v : Value} (h : v.ownBlock = (Value.slice none 0 0).ownBlock ∨ v.ownBlock = some w.heap.size) : New w v := by
  intro g hg
  rcases h with h | h
  · rw [h] at hg; cases hg
  · rw [h] at hg; injection hg with hg; omega
theorem rnorm_n (a : Option Addr) (n c : Nat) (l : List Int) (w : World) (hr : Rd w .u32 (.slice a n c) l) (hw : Words l) (hn : n ≤ 100000000) : Calls Try.prog 106 #[.slice a n c] w fun e w' => ∃ v, e = .returned v ∧ Nw w' v (wv l) ∧ Below w.heap.size w w' ∧ New w v := by
  have HT := Lib.hid (fun m => @trim_rd w a n c l hr hw m)
  have hnc := hr.parts.2.1
  go_enter Try.func106, Try.ntmps106
  go_wp2
  go_loop [3] (fun v3 => ∃ m : Nat, m ≤ n ∧ v3 = .int .i64 m ∧ Hid (∀ i, m ≤ i → i < n → l.getD i 0 = 0)) (fun v3 => (intOf v3).toNat)
  case atStart => exact ⟨n, Nat.le_refl _, rfl, fun i h1 h2 => by omega⟩
  case round =>
    obtain ⟨m, hm, rfl, HZ⟩ := hrel
    cases m with
    | zero =>
      obtain ⟨e1, e2, e3⟩ := HT.out 0 (by omega) HZ.out (.inl rfl)
      have H1 := Lib.hid e1
      have H2 := Lib.hid e2
      clear e1 e2 e3
      go_wp2_with (at_builtin; go_loud (refine wp_apps 41 35 (.int .u32 0) 4 Try.underlying41 info_u32 rfl w.heap.size (.slice none 0 0) 0 [] rfl (.tmp 19) (.tmp 22) (by rfl) (by rfl) (World.ownsRow_nil _ _ _ _) (Nat.le_refl _) .u32 (.slice a 0 c) (ws (wv l)) (by rfl) H2.out (by rw [← H1.out]; omega) (by decide) ?_); intro v' w' hown hg hv)
      go_ret
      exact ⟨v', rfl, Rd.of_own hown, grown_below hg (World.ownsRow_nil _ _ 35 _) (Nat.le_refl _), new_of hv⟩
    | succ p =>
      obtain ⟨g, off, rfl, hcl⟩ := hr.addr (by omega)
      have hp := hcl p (by omega)
      obtain ⟨x, hx⟩ : ∃ x, l.getD p 0 = x := ⟨_, rfl⟩
      rw [hx] at hp
      by_cases hz : x = 0
      · have hz1 := beq_of hz
        have HZ2 := Lib.hid (show ∀ i, p ≤ i → i < n → l.getD i 0 = 0 from fun i h1 h2 => by
          by_cases e : i = p
          · subst e; rw [hx]; exact hz
          · exact HZ.out i (by omega) h2)
        clear hz hcl hx
        go_wp2
        go_round
        case rel => exact ⟨p, by omega, rfl, HZ2.out⟩
        case measure => simp [intOf]
      · have hz1 := beq_no hz
        obtain ⟨e1, e2, e3⟩ := HT.out (p + 1) (by omega) HZ.out (.inr (by rw [Nat.add_sub_cancel, hx]; exact hz))
        have H1 := Lib.hid e1
        have H2 := Lib.hid e2
        clear e1 e2 e3 hz hcl hx
        go_wp2_with (at_builtin; go_loud (refine wp_apps 41 35 (.int .u32 0) 4 Try.underlying41 info_u32 rfl w.heap.size (.slice none 0 0) 0 [] rfl (.tmp 19) (.tmp 22) (by rfl) (by rfl) (World.ownsRow_nil _ _ _ _) (Nat.le_refl _) .u32 (.slice (some ⟨g, off, none⟩) (p + 1) c) (ws (wv l)) (by rfl) H2.out (by rw [← H1.out]; omega) (by decide) ?_); intro v' w' hown hg hv)
        go_ret
        exact ⟨v', rfl, Rd.of_own hown, grown_below hg (World.ownsRow_nil _ _ 35 _) (Nat.le_refl _), new_of hv⟩
theorem rnorm_c (a : Option Addr) (n c : Nat) (l : List Int) (w : World) (hr : Rd w .u32 (.slice a n c) l) (hw : Words l) (hn : n ≤ 100000000) : Calls Try.prog 106 #[.slice a n c] w fun e w' => ∃ v, e = .returned v ∧ Nw w' v (wv l) ∧ Below w.heap.size w w' :=
  (rnorm_n a n c l w hr hw hn).mono fun _ _ ⟨v, h1, h2, h3, _⟩ => ⟨v, h1, h2, h3⟩
/-- Two words in a new block. -/
theorem rd_two (w : World) (x y : Int) (t : TypeId) : Rd (w.alloc (.cells #[.int .u32 x, .int .u32 y] t)) .u32 (.slice (some ⟨w.heap.size, 0, none⟩) 2 2) [x, y] :=
  Rd.mk _ 0 rfl (by decide) (fun i hi => by
    match i, hi with
    | 0, _ => simp [go_sem]
    | 1, _ => simp [go_sem])
theorem rd_one (w : World) (x : Int) (t : TypeId) : Rd (w.alloc (.cells #[.int .u32 x] t)) .u32 (.slice (some ⟨w.heap.size, 0, none⟩) 1 1) [x] :=
  Rd.mk _ 0 rfl (by decide) (fun i hi => by
    match i, hi with
    | 0, _ => simp [go_sem])
theorem rof_c (x : Nat) (w : World) (hx : W x) : Calls Try.prog 83 #[.int .u64 (x : Int)] w fun e w' => ∃ v, e = .returned v ∧ Nw w' v x ∧ Below w.heap.size w w' := by
  unfold W at hx
  have hx1 : (0 : Int) ≤ x := Int.natCast_nonneg _
  have hx2 : (x : Int) < 18446744073709551616 := by omega
  have HW : Hid (wv [(x : Int) % 4294967296, (x : Int) / 4294967296] = x ∧ Words [(x : Int) % 4294967296, (x : Int) / 4294967296]) := by
    refine ⟨?_, words_cons.2 ⟨by omega, words_cons.2 ⟨by omega, words_nil⟩⟩⟩
    simp only [wv]; omega
  obtain ⟨X, hX⟩ : ∃ X : Int, (x : Int) = X := ⟨_, rfl⟩
  rw [hX] at hx1 hx2 HW ⊢
  clear hX hx
  go_enter Try.func83, Try.ntmps83
  go_wp2_with (go_at_call 106; refine (rnorm_c _ 2 2 _ _ (rd_two _ _ _ _) HW.out.2 (by decide)).mono ?_; rintro e1 w1 ⟨v, rfl, hv, hb⟩)
  go_ret
  exact ⟨v, rfl, by rw [HW.out.1] at hv; exact hv, btn ((Below.refl _ _).alloc (Nat.le_refl _) _) hb⟩
theorem rlarge_c (a : Option Addr) (n c : Nat) (l : List Int) (w : World) (hr : Rd w .u32 (.slice a n c) l) (hw : Words l) (hn : n ≤ 100000000) : Calls Try.prog 111 #[.slice a n c] w fun e w' => e = .returned (.bool (decide (64000 < bl (wv l)))) ∧ w = w' := by
  have HC := Lib.hid (rtrim_c a n c l w hr hw (by omega))
  obtain ⟨B, hB⟩ : ∃ B, decide (64000 < bl (wv l)) = B := ⟨_, rfl⟩
  have HB := Lib.hid (show decide ((2000 : Int) < ((ws (wv l)).length : Int)) = B by
    rw [← hB]; have := ws_length (wv l); exact decide_eq_decide.2 (by omega))
  rw [hB]
  obtain ⟨k, hk⟩ : ∃ k, (ws (wv l)).length = k := ⟨_, rfl⟩
  rw [hk] at HC HB
  have hkn : k ≤ 100000000 := by
    rw [← hk]
    have := ws_len_le (len_bound hw)
    have := hr.parts.1
    omega
  clear hB hk
  go_enter Try.func111, Try.ntmps111
  go_wp2_with (go_at_call 110; refine (HC.out).mono ?_; rintro e1 w1 ⟨rfl, hv, rfl⟩)
  go_ret
  exact ⟨by rw [← HB.out]; rfl, rfl⟩
theorem or_low {x y : Int} (hx : 0 ≤ x ∧ x < 4294967296) (hy : 0 ≤ y ∧ y < 4294967296) : bits .or .u64 x (y * 4294967296) = x + 4294967296 * y := by
  obtain ⟨X, rfl⟩ := Int.eq_ofNat_of_zero_le hx.1
  obtain ⟨Y, rfl⟩ := Int.eq_ofNat_of_zero_le hy.1
  have e : (Y : Int) * 4294967296 = ((Y * 4294967296 : Nat) : Int) := by omega
  rw [e, u64_or_nat _ _ (by omega) (by omega), Nat.or_comm, nat_join 32 (Y * 4294967296) X (by rw [show (2 : Nat) ^ 32 = 4294967296 by decide]; omega) (by rw [show (2 : Nat) ^ 32 = 4294967296 by decide]; omega)]
  omega
/-- The lowest 64 digits. -/
theorem rlow_c (a : Option Addr) (n c : Nat) (l : List Int) (w : World) (hr : Rd w .u32 (.slice a n c) l) (hw : Words l) (hn : n ≤ 100000000) : Calls Try.prog 102 #[.slice a n c] w fun e w' => e = .returned (.int .u64 ((wv l % 18446744073709551616 : Nat) : Int)) ∧ w = w' := by
  rw [low_words hw]
  have g0 := getD_word hw 0
  have g1 := getD_word hw 1
  have p := hr.parts
  obtain ⟨x, hx⟩ : ∃ x, l.getD 0 0 = x := ⟨_, rfl⟩
  obtain ⟨y, hy⟩ : ∃ y, l.getD 1 0 = y := ⟨_, rfl⟩
  rw [hx] at g0
  rw [hy] at g1
  rw [hx, hy]
  have HR := Lib.hid (show ((x.toNat + 4294967296 * y.toNat : Nat) : Int) = x + 4294967296 * y by omega)
  rw [HR.out]
  have HX0 := Lib.hid (show n = 0 → x = 0 from fun h => by rw [← hx]; exact getD0 (by omega))
  have HY0 := Lib.hid (show n ≤ 1 → y = 0 from fun h => by rw [← hy]; exact getD0 (by omega))
  have HA := Lib.hid (fun h => hr.addr h)
  have hnc := p.2.1
  clear p hr
  by_cases n0 : n = 0
  · subst n0
    have x0 := HX0.out rfl
    have y0 := HY0.out (by decide)
    subst x0 y0
    clear hx hy
    go_enter Try.func102, Try.ntmps102
    go_wp2
    go_ret
    exact ⟨rfl, rfl⟩
  · obtain ⟨g, off, rfl, hcl⟩ := HA.out (by omega)
    have c0 := hcl 0 (by omega)
    rw [hx, Nat.add_zero] at c0
    by_cases n1 : n = 1
    · subst n1
      have y0 := HY0.out (by decide)
      subst y0
      clear hcl hx hy HA
      go_enter Try.func102, Try.ntmps102
      go_wp2
      go_ret
      exact ⟨ret1 (by omega), rfl⟩
    · have c1 := hcl 1 (by omega)
      rw [hy] at c1
      clear hcl hx hy HA
      have n2 : 2 ≤ n := by omega
      clear n0 n1
      go_enter Try.func102, Try.ntmps102
      go_wp2
      go_ret
      exact ⟨ret1 (or_low g0 g1), rfl⟩
theorem rbits_c (a : Option Addr) (n c : Nat) (l : List Int) (w : World) (hr : Rd w .u32 (.slice a n c) l) (hw : Words l) (hn : n ≤ 100000000) : Calls Try.prog 77 #[.slice a n c] w fun e w' => e = .returned (.int .i64 (bl (wv l) : Int)) ∧ w = w' := by
  have HC := Lib.hid (rtrim_c a n c l w hr hw (by omega))
  have hkn : (ws (wv l)).length ≤ 100000000 := by
    have := ws_len_le (len_bound hw)
    have := hr.parts.1
    omega
  obtain ⟨A, hA⟩ : ∃ A, wv l = A := ⟨_, rfl⟩
  rw [hA] at HC hkn ⊢
  clear hA
  by_cases h0 : A = 0
  · subst h0
    rw [ws_zero] at HC
    clear hkn
    go_enter Try.func77, Try.ntmps77
    go_wp2_with (go_at_call 110; refine (HC.out).mono ?_; rintro e1 w1 ⟨rfl, hv, rfl⟩)
    go_ret
    exact ⟨rfl, rfl⟩
  · have b := bl_words h0
    have g := getD_word (words_ws A) ((ws A).length - 1)
    obtain ⟨m, hm⟩ : ∃ m, (ws A).length = m + 1 := ⟨(ws A).length - 1, by have := b.2.2; omega⟩
    have HG : ∀ (w1 : World), Nw w1 (.slice a (m + 1) c) A → ∃ g off, a = some ⟨g, off, none⟩ ∧ w1.cell? ⟨g, off + m, none⟩ = some (.int .u32 ((ws A).getD m 0)) := fun w1 h => by
      obtain ⟨g, off, rfl, hc⟩ := h.addr (by omega)
      exact ⟨g, off, rfl, hc m (by omega)⟩
    have HG := Lib.hid HG
    rw [hm] at HC b hkn
    rw [hm, Nat.add_sub_cancel] at g
    rw [Nat.add_sub_cancel] at b
    obtain ⟨x, hx⟩ : ∃ x, (ws A).getD m 0 = x := ⟨_, rfl⟩
    rw [hx] at g b HG
    obtain ⟨X, rfl⟩ := Int.eq_ofNat_of_zero_le g.1
    rw [Int.toNat_natCast] at b
    rw [b.1]
    have b32 : bl X ≤ 32 := bl_le_of_lt (k := 32) (by rw [show (2 : Nat) ^ 32 = 4294967296 by decide]; omega)
    have hX : X < 4294967296 := by omega
    have HZ := Lib.hid (fun j => @halve_zero X j)
    clear h0 b hm hx g
    go_enter Try.func77, Try.ntmps77
    go_wp2_with (go_at_call 110; refine (HC.out).mono ?_; rintro e1 w1 ⟨rfl, hv, rfl⟩; obtain ⟨g, off, rfl, hcl⟩ := HG.out _ hv)
    go_loop [3, 4] (fun v3 v4 => ∃ j Y : Nat, j ≤ bl X ∧ Y ≤ X ∧ Hid (X / 2 ^ j = Y) ∧ v3 = .int .i64 ((32 * m + j : Nat) : Int) ∧ v4 = .int .u32 (Y : Int)) (fun v3 v4 => (intOf v4).toNat)
    case atStart => exact ⟨0, X, by omega, Nat.le_refl _, by rw [Nat.pow_zero, Nat.div_one]; exact Lib.hid rfl, by simp, rfl⟩
    case round =>
      obtain ⟨j, Y, hj, hle, HY, rfl, rfl⟩ := hrel
      have HJ := Lib.hid (show Y = 0 ↔ bl X ≤ j by rw [← HY.out]; exact HZ.out j)
      have hn := Lib.hid (show X / 2 ^ (j + 1) = Y / 2 by rw [← HY.out]; exact (halve_next X j).symm)
      by_cases y0 : Y = 0
      · have := HJ.out.1 y0
        subst y0
        have HE := Lib.hid (show j = bl X by omega)
        clear this HJ HY hn
        go_wp2
        go_ret
        exact ⟨ret1 (by rw [← HE.out]), rfl⟩
      · have h1 : ¬ bl X ≤ j := fun h => y0 (HJ.out.2 h)
        have hp : (0 : Int) < Y := by omega
        clear y0 HJ
        go_wp2
        go_round
        case rel => exact ⟨j + 1, Y / 2, by omega, by omega, Lib.hid hn.out, by go_num, by go_num⟩
        case measure => simp [intOf]; omega
end Go.Proofs.Ytecgkhijiogggaa
