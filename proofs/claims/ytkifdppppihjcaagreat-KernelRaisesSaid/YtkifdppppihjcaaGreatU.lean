/- Texts U0 U1 U2, for this seat. -/
import Derived.Test.YtkifdppppihjcaaGreatR
import Derived.Laws.BitsAllLaws
namespace Go.Proofs.YtkifdppppihjcaaGreat
set_option linter.unusedVariables false
set_option linter.unusedSimpArgs false
open Go.RowKit Go.ChangeShapes Go.WideShapes SF

theorem Rd.parts {w : World} {k : IntKind} {l : List Int} {a : Option Addr} {n c : Nat} (h : Rd w k (.slice a n c) l) : n = l.length ∧ n ≤ c ∧ (l = [] ∨ ∃ g off, a = some ⟨g, off, none⟩ ∧ ∀ i, i < n → w.cell? ⟨g, off + i, none⟩ = some (.int k (l.getD i 0))) := by
  obtain ⟨a', c', e, hc, hr⟩ := h
  injection e with e1 e2 e3
  subst e1 e2 e3
  exact ⟨rfl, hc, hr⟩
theorem Rd.addr {w : World} {k : IntKind} {l : List Int} {a : Option Addr} {n c : Nat} (h : Rd w k (.slice a n c) l) (h0 : 0 < n) : ∃ g off, a = some ⟨g, off, none⟩ ∧ ∀ i, i < n → w.cell? ⟨g, off + i, none⟩ = some (.int k (l.getD i 0)) := by
  obtain ⟨hl, hc, h | h⟩ := h.parts
  · subst h; simp at hl; omega
  · exact h
theorem btn {w w1 w2 : World} (h1 : Below w.heap.size w w1) (h2 : Below w1.heap.size w1 w2) : Below w.heap.size w w2 := below_then h1 h1.size h2
theorem info_u32 : (Tryz.prog.info? 40).map (fun i => (i.zero, i.size, i.bytes)) = some (some (.int .u32 0), 1, 4) := by kernel_rfl
/-- A slice that reads as a number's words. -/
def Nw (w : World) (v : Value) (n : Nat) : Prop := Rd w .u32 v (ws n)
theorem trim_rd {w : World} {a : Option Addr} {n c : Nat} {l : List Int} (hr : Rd w .u32 (.slice a n c) l) (hw : Words l) {m : Nat} (hm : m ≤ n) (h0 : ∀ i, m ≤ i → i < n → l.getD i 0 = 0) (ht : m = 0 ∨ l.getD (m - 1) 0 ≠ 0) : m = (ws (wv l)).length ∧ Nw w (.slice a m c) (wv l) ∧ l.take m = ws (wv l) := by
  have hn := hr.parts.1
  have t := trim_done hw (n := m) (by omega) (fun i h1 h2 => h0 i h1 (by omega)) ht
  refine ⟨t.2, ?_, t.1⟩
  have := hr.take hm
  rw [t.1] at this
  exact this
theorem rtrim_c (a : Option Addr) (n c : Nat) (l : List Int) (w : World) (hr : Rd w .u32 (.slice a n c) l) (hw : Words l) (hn : n ≤ 4611686018427387903) : Calls Tryz.prog 154 #[.slice a n c] w fun e w' => e = .returned (.slice a (ws (wv l)).length c) ∧ Nw w (.slice a (ws (wv l)).length c) (wv l) ∧ w = w' := by
  have hr0 := hr
  have HT := Lib.hid (fun m => @trim_rd w a n c l hr hw m)
  have hnc := hr.parts.2.1
  go_enter Tryz.func154, Tryz.ntmps154
  go_wp2
  go_loop [3] (fun v3 => ∃ m : Nat, m ≤ n ∧ v3 = .int .i64 m ∧ Hid (∀ i, m ≤ i → i < n → l.getD i 0 = 0)) (fun v3 => (intOf v3).toNat)
  case atStart => exact ⟨n, Nat.le_refl _, rfl, fun i h1 h2 => by omega⟩
  case round =>
    obtain ⟨m, hm, rfl, HZ⟩ := hrel
    cases m with
    | zero =>
      obtain ⟨e1, e2, e3⟩ := HT.out 0 (by omega) HZ.out (.inl rfl)
      have H1 := Lib.hid e1
      have H2 := Lib.hid e2
      clear e1 e2 e3
      go_wp2
      go_ret
      exact ⟨by rw [← H1.out]; rfl, by rw [← H1.out]; exact H2.out, rfl⟩
    | succ p =>
      obtain ⟨g, off, rfl, hcl⟩ := hr.addr (by omega)
      have hp := hcl p (by omega)
      obtain ⟨x, hx⟩ : ∃ x, l.getD p 0 = x := ⟨_, rfl⟩
      rw [hx] at hp
      by_cases hz : x = 0
      · have hz1 := beq_of hz
        have HZ2 := Lib.hid (show ∀ i, p ≤ i → i < n → l.getD i 0 = 0 from fun i h1 h2 => by
          by_cases e : i = p
          · subst e; rw [hx]; exact hz
          · exact HZ.out i (by omega) h2)
        clear hz hcl hx
        go_wp2
        go_round
        case rel => exact ⟨p, by omega, rfl, HZ2.out⟩
        case measure => simp [intOf]
      · have hz1 := beq_no hz
        obtain ⟨e1, e2, e3⟩ := HT.out (p + 1) (by omega) HZ.out (.inr (by rw [Nat.add_sub_cancel, hx]; exact hz))
        have H1 := Lib.hid e1
        have H2 := Lib.hid e2
        clear e1 e2 e3 hz hcl hx
        go_wp2
        go_ret
        exact ⟨by rw [← H1.out]; rfl, by rw [← H1.out]; exact H2.out, rfl⟩
/-- Nothing that lay there before is in it. -/
def New (w : World) (v : Value) : Prop := ∀ g, v.ownBlock = some g → w.heap.size ≤ g
theorem new_of {w : World} {v : Value} (h : v.ownBlock = (Value.slice none 0 0).ownBlock ∨ v.ownBlock = some w.heap.size) : New w v := by
  intro g hg
  rcases h with h | h
  · rw [h] at hg; cases hg
  · rw [h] at hg; injection hg with hg; omega
theorem rnorm_n (a : Option Addr) (n c : Nat) (l : List Int) (w : World) (hr : Rd w .u32 (.slice a n c) l) (hw : Words l) (hn : n ≤ 100000000) : Calls Tryz.prog 155 #[.slice a n c] w fun e w' => ∃ v, e = .returned v ∧ Nw w' v (wv l) ∧ Below w.heap.size w w' ∧ New w v := by
  have HT := Lib.hid (fun m => @trim_rd w a n c l hr hw m)
  have hnc := hr.parts.2.1
  go_enter Tryz.func155, Tryz.ntmps155
  go_wp2
  go_loop [3] (fun v3 => ∃ m : Nat, m ≤ n ∧ v3 = .int .i64 m ∧ Hid (∀ i, m ≤ i → i < n → l.getD i 0 = 0)) (fun v3 => (intOf v3).toNat)
  case atStart => exact ⟨n, Nat.le_refl _, rfl, fun i h1 h2 => by omega⟩
  case round =>
    obtain ⟨m, hm, rfl, HZ⟩ := hrel
    cases m with
    | zero =>
      obtain ⟨e1, e2, e3⟩ := HT.out 0 (by omega) HZ.out (.inl rfl)
      have H1 := Lib.hid e1
      have H2 := Lib.hid e2
      clear e1 e2 e3
      go_wp2_with (at_builtin; go_loud (refine wp_apps 37 40 (.int .u32 0) 4 Tryz.underlying37 info_u32 rfl w.heap.size (.slice none 0 0) 0 [] rfl (.tmp 19) (.tmp 22) (by rfl) (by rfl) (World.ownsRow_nil _ _ _ _) (Nat.le_refl _) .u32 (.slice a 0 c) (ws (wv l)) (by rfl) H2.out (by rw [← H1.out]; omega) (by decide) ?_); intro v' w' hown hg hv)
      go_ret
      exact ⟨v', rfl, Rd.of_own hown, grown_below hg (World.ownsRow_nil _ _ 40 _) (Nat.le_refl _), new_of hv⟩
    | succ p =>
      obtain ⟨g, off, rfl, hcl⟩ := hr.addr (by omega)
      have hp := hcl p (by omega)
      obtain ⟨x, hx⟩ : ∃ x, l.getD p 0 = x := ⟨_, rfl⟩
      rw [hx] at hp
      by_cases hz : x = 0
      · have hz1 := beq_of hz
        have HZ2 := Lib.hid (show ∀ i, p ≤ i → i < n → l.getD i 0 = 0 from fun i h1 h2 => by
          by_cases e : i = p
          · subst e; rw [hx]; exact hz
          · exact HZ.out i (by omega) h2)
        clear hz hcl hx
        go_wp2
        go_round
        case rel => exact ⟨p, by omega, rfl, HZ2.out⟩
        case measure => simp [intOf]
      · have hz1 := beq_no hz
        obtain ⟨e1, e2, e3⟩ := HT.out (p + 1) (by omega) HZ.out (.inr (by rw [Nat.add_sub_cancel, hx]; exact hz))
        have H1 := Lib.hid e1
        have H2 := Lib.hid e2
        clear e1 e2 e3 hz hcl hx
        go_wp2_with (at_builtin; go_loud (refine wp_apps 37 40 (.int .u32 0) 4 Tryz.underlying37 info_u32 rfl w.heap.size (.slice none 0 0) 0 [] rfl (.tmp 19) (.tmp 22) (by rfl) (by rfl) (World.ownsRow_nil _ _ _ _) (Nat.le_refl _) .u32 (.slice (some ⟨g, off, none⟩) (p + 1) c) (ws (wv l)) (by rfl) H2.out (by rw [← H1.out]; omega) (by decide) ?_); intro v' w' hown hg hv)
        go_ret
        exact ⟨v', rfl, Rd.of_own hown, grown_below hg (World.ownsRow_nil _ _ 40 _) (Nat.le_refl _), new_of hv⟩
theorem rnorm_c (a : Option Addr) (n c : Nat) (l : List Int) (w : World) (hr : Rd w .u32 (.slice a n c) l) (hw : Words l) (hn : n ≤ 100000000) : Calls Tryz.prog 155 #[.slice a n c] w fun e w' => ∃ v, e = .returned v ∧ Nw w' v (wv l) ∧ Below w.heap.size w w' :=
  (rnorm_n a n c l w hr hw hn).mono fun _ _ ⟨v, h1, h2, h3, _⟩ => ⟨v, h1, h2, h3⟩
/-- Two words in a new block. -/
theorem rd_two (w : World) (x y : Int) (t : TypeId) : Rd (w.alloc (.cells #[.int .u32 x, .int .u32 y] t)) .u32 (.slice (some ⟨w.heap.size, 0, none⟩) 2 2) [x, y] :=
  Rd.mk _ 0 rfl (by decide) (fun i hi => by
    match i, hi with
    | 0, _ => simp [go_sem]
    | 1, _ => simp [go_sem])
theorem rd_one (w : World) (x : Int) (t : TypeId) : Rd (w.alloc (.cells #[.int .u32 x] t)) .u32 (.slice (some ⟨w.heap.size, 0, none⟩) 1 1) [x] :=
  Rd.mk _ 0 rfl (by decide) (fun i hi => by
    match i, hi with
    | 0, _ => simp [go_sem])
theorem rof_c (x : Nat) (w : World) (hx : W x) : Calls Tryz.prog 122 #[.int .u64 (x : Int)] w fun e w' => ∃ v, e = .returned v ∧ Nw w' v x ∧ Below w.heap.size w w' := by
  unfold W at hx
  have hx1 : (0 : Int) ≤ x := Int.natCast_nonneg _
  have hx2 : (x : Int) < 18446744073709551616 := by omega
  have HW : Hid (wv [(x : Int) % 4294967296, (x : Int) / 4294967296] = x ∧ Words [(x : Int) % 4294967296, (x : Int) / 4294967296]) := by
    refine ⟨?_, words_cons.2 ⟨by omega, words_cons.2 ⟨by omega, words_nil⟩⟩⟩
    simp only [wv]; omega
  obtain ⟨X, hX⟩ : ∃ X : Int, (x : Int) = X := ⟨_, rfl⟩
  rw [hX] at hx1 hx2 HW ⊢
  clear hX hx
  go_enter Tryz.func122, Tryz.ntmps122
  go_wp2_with (go_at_call 155; refine (rnorm_c _ 2 2 _ _ (rd_two _ _ _ _) HW.out.2 (by decide)).mono ?_; rintro e1 w1 ⟨v, rfl, hv, hb⟩)
  go_ret
  exact ⟨v, rfl, by rw [HW.out.1] at hv; exact hv, btn ((Below.refl _ _).alloc (Nat.le_refl _) _) hb⟩
theorem rlarge_c (a : Option Addr) (n c : Nat) (l : List Int) (w : World) (hr : Rd w .u32 (.slice a n c) l) (hw : Words l) (hn : n ≤ 100000000) : Calls Tryz.prog 153 #[.slice a n c] w fun e w' => e = .returned (.bool (decide (64000 < bl (wv l)))) ∧ w = w' := by
  have HC := Lib.hid (rtrim_c a n c l w hr hw (by omega))
  obtain ⟨B, hB⟩ : ∃ B, decide (64000 < bl (wv l)) = B := ⟨_, rfl⟩
  have HB := Lib.hid (show decide ((2000 : Int) < ((ws (wv l)).length : Int)) = B by
    rw [← hB]; have := ws_length (wv l); exact decide_eq_decide.2 (by omega))
  rw [hB]
  obtain ⟨k, hk⟩ : ∃ k, (ws (wv l)).length = k := ⟨_, rfl⟩
  rw [hk] at HC HB
  have hkn : k ≤ 100000000 := by
    rw [← hk]
    have := ws_len_le (len_bound hw)
    have := hr.parts.1
    omega
  clear hB hk
  go_enter Tryz.func153, Tryz.ntmps153
  go_wp2_with (go_at_call 154; refine (HC.out).mono ?_; rintro e1 w1 ⟨rfl, hv, rfl⟩)
  go_ret
  exact ⟨by rw [← HB.out]; rfl, rfl⟩
theorem or_low {x y : Int} (hx : 0 ≤ x ∧ x < 4294967296) (hy : 0 ≤ y ∧ y < 4294967296) : bits .or .u64 x (y * 4294967296) = x + 4294967296 * y := by
  obtain ⟨X, rfl⟩ := Int.eq_ofNat_of_zero_le hx.1
  obtain ⟨Y, rfl⟩ := Int.eq_ofNat_of_zero_le hy.1
  have e : (Y : Int) * 4294967296 = ((Y * 4294967296 : Nat) : Int) := by omega
  rw [e, u64_or_nat _ _ (by omega) (by omega), Nat.or_comm, nat_join 32 (Y * 4294967296) X (by rw [show (2 : Nat) ^ 32 = 4294967296 by decide]; omega) (by rw [show (2 : Nat) ^ 32 = 4294967296 by decide]; omega)]
  omega
/-- The lowest 64 digits. -/
theorem rlow_c (a : Option Addr) (n c : Nat) (l : List Int) (w : World) (hr : Rd w .u32 (.slice a n c) l) (hw : Words l) (hn : n ≤ 100000000) : Calls Tryz.prog 124 #[.slice a n c] w fun e w' => e = .returned (.int .u64 ((wv l % 18446744073709551616 : Nat) : Int)) ∧ w = w' := by
  rw [low_words hw]
  have g0 := getD_word hw 0
  have g1 := getD_word hw 1
  have p := hr.parts
  obtain ⟨x, hx⟩ : ∃ x, l.getD 0 0 = x := ⟨_, rfl⟩
  obtain ⟨y, hy⟩ : ∃ y, l.getD 1 0 = y := ⟨_, rfl⟩
  rw [hx] at g0
  rw [hy] at g1
  rw [hx, hy]
  have HR := Lib.hid (show ((x.toNat + 4294967296 * y.toNat : Nat) : Int) = x + 4294967296 * y by omega)
  rw [HR.out]
  have HX0 := Lib.hid (show n = 0 → x = 0 from fun h => by rw [← hx]; exact getD0 (by omega))
  have HY0 := Lib.hid (show n ≤ 1 → y = 0 from fun h => by rw [← hy]; exact getD0 (by omega))
  have HA := Lib.hid (fun h => hr.addr h)
  have hnc := p.2.1
  clear p hr
  by_cases n0 : n = 0
  · subst n0
    have x0 := HX0.out rfl
    have y0 := HY0.out (by decide)
    subst x0 y0
    clear hx hy
    go_enter Tryz.func124, Tryz.ntmps124
    go_wp2
    go_ret
    exact ⟨rfl, rfl⟩
  · obtain ⟨g, off, rfl, hcl⟩ := HA.out (by omega)
    have c0 := hcl 0 (by omega)
    rw [hx, Nat.add_zero] at c0
    by_cases n1 : n = 1
    · subst n1
      have y0 := HY0.out (by decide)
      subst y0
      clear hcl hx hy HA
      go_enter Tryz.func124, Tryz.ntmps124
      go_wp2
      go_ret
      exact ⟨ret1 (by omega), rfl⟩
    · have c1 := hcl 1 (by omega)
      rw [hy] at c1
      clear hcl hx hy HA
      have n2 : 2 ≤ n := by omega
      clear n0 n1
      go_enter Tryz.func124, Tryz.ntmps124
      go_wp2
      go_ret
      exact ⟨ret1 (or_low g0 g1), rfl⟩
theorem rbits_c (a : Option Addr) (n c : Nat) (l : List Int) (w : World) (hr : Rd w .u32 (.slice a n c) l) (hw : Words l) (hn : n ≤ 100000000) : Calls Tryz.prog 121 #[.slice a n c] w fun e w' => e = .returned (.int .i64 (bl (wv l) : Int)) ∧ w = w' := by
  have HC := Lib.hid (rtrim_c a n c l w hr hw (by omega))
  have hkn : (ws (wv l)).length ≤ 100000000 := by
    have := ws_len_le (len_bound hw)
    have := hr.parts.1
    omega
  obtain ⟨A, hA⟩ : ∃ A, wv l = A := ⟨_, rfl⟩
  rw [hA] at HC hkn ⊢
  clear hA
  by_cases h0 : A = 0
  · subst h0
    rw [ws_zero] at HC
    clear hkn
    go_enter Tryz.func121, Tryz.ntmps121
    go_wp2_with (go_at_call 154; refine (HC.out).mono ?_; rintro e1 w1 ⟨rfl, hv, rfl⟩)
    go_ret
    exact ⟨rfl, rfl⟩
  · have b := bl_words h0
    have g := getD_word (words_ws A) ((ws A).length - 1)
    obtain ⟨m, hm⟩ : ∃ m, (ws A).length = m + 1 := ⟨(ws A).length - 1, by have := b.2.2; omega⟩
    have HG : ∀ (w1 : World), Nw w1 (.slice a (m + 1) c) A → ∃ g off, a = some ⟨g, off, none⟩ ∧ w1.cell? ⟨g, off + m, none⟩ = some (.int .u32 ((ws A).getD m 0)) := fun w1 h => by
      obtain ⟨g, off, rfl, hc⟩ := h.addr (by omega)
      exact ⟨g, off, rfl, hc m (by omega)⟩
    have HG := Lib.hid HG
    rw [hm] at HC b hkn
    rw [hm, Nat.add_sub_cancel] at g
    rw [Nat.add_sub_cancel] at b
    obtain ⟨x, hx⟩ : ∃ x, (ws A).getD m 0 = x := ⟨_, rfl⟩
    rw [hx] at g b HG
    obtain ⟨X, rfl⟩ := Int.eq_ofNat_of_zero_le g.1
    rw [Int.toNat_natCast] at b
    rw [b.1]
    have b32 : bl X ≤ 32 := bl_le_of_lt (k := 32) (by rw [show (2 : Nat) ^ 32 = 4294967296 by decide]; omega)
    have hX : X < 4294967296 := by omega
    have HZ := Lib.hid (fun j => @halve_zero X j)
    clear h0 b hm hx g
    go_enter Tryz.func121, Tryz.ntmps121
    go_wp2_with (go_at_call 154; refine (HC.out).mono ?_; rintro e1 w1 ⟨rfl, hv, rfl⟩; obtain ⟨g, off, rfl, hcl⟩ := HG.out _ hv)
    go_loop [3, 4] (fun v3 v4 => ∃ j Y : Nat, j ≤ bl X ∧ Y ≤ X ∧ Hid (X / 2 ^ j = Y) ∧ v3 = .int .i64 ((32 * m + j : Nat) : Int) ∧ v4 = .int .u32 (Y : Int)) (fun v3 v4 => (intOf v4).toNat)
    case atStart => exact ⟨0, X, by omega, Nat.le_refl _, by rw [Nat.pow_zero, Nat.div_one]; exact Lib.hid rfl, by simp, rfl⟩
    case round =>
      obtain ⟨j, Y, hj, hle, HY, rfl, rfl⟩ := hrel
      have HJ := Lib.hid (show Y = 0 ↔ bl X ≤ j by rw [← HY.out]; exact HZ.out j)
      have hn := Lib.hid (show X / 2 ^ (j + 1) = Y / 2 by rw [← HY.out]; exact (halve_next X j).symm)
      by_cases y0 : Y = 0
      · have := HJ.out.1 y0
        subst y0
        have HE := Lib.hid (show j = bl X by omega)
        clear this HJ HY hn
        go_wp2
        go_ret
        exact ⟨ret1 (by rw [← HE.out]), rfl⟩
      · have h1 : ¬ bl X ≤ j := fun h => y0 (HJ.out.2 h)
        have hp : (0 : Int) < Y := by omega
        clear y0 HJ
        go_wp2
        go_round
        case rel => exact ⟨j + 1, Y / 2, by omega, by omega, Lib.hid hn.out, by go_num, by go_num⟩
        case measure => simp [intOf]; omega
end Go.Proofs.YtkifdppppihjcaaGreat

namespace Go.Proofs.YtkifdppppihjcaaGreat
set_option linter.unusedVariables false
set_option linter.unusedSimpArgs false
open Go.RowKit Go.ChangeShapes Go.WideShapes SF

theorem cmpN_lt {A B : Nat} (h : A < B) : cmpI (A : Int) (B : Int) = -1 := by unfold cmpI; rw [if_pos (by omega)]
theorem cmpN_gt {A B : Nat} (h : B < A) : cmpI (A : Int) (B : Int) = 1 := by unfold cmpI; rw [if_neg (by omega), if_pos (by omega)]
theorem cmpN_eq {A B : Nat} (h : A = B) : cmpI (A : Int) (B : Int) = 0 := by unfold cmpI; rw [if_neg (by omega), if_neg (by omega)]
theorem ws_len_nw {l : List Int} (hw : Words l) {n : Nat} (h : n = l.length) (hn : n ≤ 100000000) : (ws (wv l)).length ≤ 100000000 := by
  have := ws_len_le (len_bound hw); omega
set_option maxRecDepth 100000 in
set_option maxHeartbeats 1000000 in
theorem rncmp_c (a : Option Addr) (n c : Nat) (la : List Int) (b : Option Addr) (m d : Nat) (lb : List Int) (w : World) (ha : Rd w .u32 (.slice a n c) la) (wa : Words la) (hn : n ≤ 100000000) (hb : Rd w .u32 (.slice b m d) lb) (wb : Words lb) (hm : m ≤ 100000000) :
    Calls Tryz.prog 123 #[.slice a n c, .slice b m d] w fun e w' => e = .returned (.int .i64 (cmpI (wv la : Int) (wv lb : Int))) ∧ Below w.heap.size w w' := by
  have HA := Lib.hid (rtrim_c a n c la w ha wa (by omega))
  have HB := Lib.hid (rtrim_c b m d lb w hb wb (by omega))
  have ka := ws_len_nw wa ha.parts.1 hn
  have kb := ws_len_nw wb hb.parts.1 hm
  obtain ⟨A, hA⟩ : ∃ A, wv la = A := ⟨_, rfl⟩
  obtain ⟨B, hB⟩ : ∃ B, wv lb = B := ⟨_, rfl⟩
  rw [hA] at HA ka ⊢
  rw [hB] at HB kb ⊢
  clear hA hB ha hb wa wb
  obtain ⟨LA, hLA⟩ : ∃ x, (ws A).length = x := ⟨_, rfl⟩
  obtain ⟨LB, hLB⟩ : ∃ x, (ws B).length = x := ⟨_, rfl⟩
  rw [hLA] at HA ka
  rw [hLB] at HB kb
  by_cases hl : LA = LB
  · subst hl
    have HD := Lib.hid (fun p (h : p < LA) (e : (ws A).drop (p + 1) = (ws B).drop (p + 1)) (g : (ws A).getD p 0 < (ws B).getD p 0) => by
      have := cmp_lt (words_ws A) (words_ws B) (by omega) (by omega) e g
      rw [wv_ws, wv_ws] at this; exact cmpN_lt this)
    have HE := Lib.hid (fun p (h : p < LA) (e : (ws A).drop (p + 1) = (ws B).drop (p + 1)) (g : (ws B).getD p 0 < (ws A).getD p 0) => by
      have := cmp_lt (words_ws B) (words_ws A) (by omega) (by omega) e.symm g
      rw [wv_ws, wv_ws] at this; exact cmpN_gt this)
    have HS := Lib.hid (fun p (h : p < LA) (e : (ws A).drop (p + 1) = (ws B).drop (p + 1)) (g : (ws A).getD p 0 = (ws B).getD p 0) => cmp_step (by omega) (by omega) e g)
    have HZ := Lib.hid (show (ws A).drop LA = (ws B).drop LA by rw [List.drop_of_length_le (by omega), List.drop_of_length_le (by omega)])
    have HQ := Lib.hid (show (ws A).drop 0 = (ws B).drop 0 → cmpI (A : Int) (B : Int) = 0 from fun h => by
      rw [List.drop_zero, List.drop_zero] at h
      have := congrArg wv h
      rw [wv_ws, wv_ws] at this; exact cmpN_eq this)
    obtain ⟨R, hR⟩ : ∃ R, cmpI (A : Int) (B : Int) = R := ⟨_, rfl⟩
    rw [hR] at HD HE HQ ⊢
    clear hLA hLB hR
    go_enter Tryz.func123, Tryz.ntmps123
    go_wp2_with (first
      | (go_at_call 154; (with_reducible refine (HA.out).mono ?_); rintro e1 w1 ⟨rfl, hva, rfl⟩)
      | (go_at_call 154; (with_reducible refine (HB.out).mono ?_); rintro e1 w1 ⟨rfl, hvb, rfl⟩))
    go_loopw [5] (fun v5 wr => ∃ p k : Nat, p ≤ LA ∧ v5 = .int .i64 ((p : Int) - 1) ∧ Hid ((ws A).drop p = (ws B).drop p) ∧ wr = w.drewN k) (fun v5 _ => (intOf v5 + 1).toNat)
    case atStart => exact ⟨LA, 0, Nat.le_refl _, rfl, HZ, rfl⟩
    case round =>
      obtain ⟨p, k, hp, rfl, HP, rfl⟩ := hrel
      cases p with
      | zero =>
        have e := HQ.out HP.out
        subst e
        clear HD HE HS HQ
        go_wp2
        go_ret
        exact ⟨rfl, below_drewN (Below.refl _ _) _⟩
      | succ q =>
        obtain ⟨g, off, rfl, hca⟩ := hva.addr (by omega)
        obtain ⟨g', off', rfl, hcb⟩ := hvb.addr (by omega)
        have hqa : q < LA := by omega
        have pa := hca q (by omega)
        have pb := hcb q (by omega)
        have hD := HD.out q (by omega) HP.out
        have hE := HE.out q (by omega) HP.out
        have hS := HS.out q (by omega) HP.out
        clear hca hcb
        obtain ⟨x, hx⟩ : ∃ x, (ws A).getD q 0 = x := ⟨_, rfl⟩
        obtain ⟨y, hy⟩ : ∃ y, (ws B).getD q 0 = y := ⟨_, rfl⟩
        rw [hx] at pa hD hE hS
        rw [hy] at pb hD hE hS
        clear hx hy
        by_cases exy : x = y
        · have z := bne_of exy
          have H := Lib.hid (hS exy)
          clear hD hE hS exy
          go_wp2
          go_quiet (fail)
          go_wp2
          go_roundw
          case rel => exact ⟨q, _, by omega, by go_num, H, rfl⟩
          case measure => simp [intOf]
        · have z := bne_no exy
          by_cases lt : x < y
          · have t : decide (x < y) = true := by simpa using lt
            have e := hD lt
            subst e
            clear hD hE hS exy
            go_wp2
            go_quiet (fail)
            go_wp2
            go_quiet (fail)
            go_wp2
            go_ret
            exact ⟨rfl, below_drewN (below_drewN (below_drewN (Below.refl _ _) _) _) _⟩
          · have t : decide (x < y) = false := by simpa using lt
            have e := hE (by omega)
            subst e
            clear hD hE hS exy
            go_wp2
            go_quiet (fail)
            go_wp2
            go_quiet (fail)
            go_wp2
            go_ret
            exact ⟨rfl, below_drewN (below_drewN (below_drewN (Below.refl _ _) _) _) _⟩
  · have HR : Hid (cmpI (A : Int) (B : Int) = if LA < LB then -1 else 1) := by
      by_cases h : LA < LB
      · rw [if_pos h]; exact cmpN_lt (len_lt (by omega))
      · rw [if_neg h]; exact cmpN_gt (len_lt (by omega))
    clear hLA hLB
    by_cases h : LA < LB
    · rw [if_pos h] at HR
      rw [HR.out]
      go_enter Tryz.func123, Tryz.ntmps123
      go_wp2_with (first
        | (go_at_call 154; (with_reducible refine (HA.out).mono ?_); rintro e1 w1 ⟨rfl, hva, rfl⟩)
        | (go_at_call 154; (with_reducible refine (HB.out).mono ?_); rintro e1 w1 ⟨rfl, hvb, rfl⟩))
      go_ret
      exact ⟨rfl, Below.refl _ _⟩
    · rw [if_neg h] at HR
      rw [HR.out]
      go_enter Tryz.func123, Tryz.ntmps123
      go_wp2_with (first
        | (go_at_call 154; (with_reducible refine (HA.out).mono ?_); rintro e1 w1 ⟨rfl, hva, rfl⟩)
        | (go_at_call 154; (with_reducible refine (HB.out).mono ?_); rintro e1 w1 ⟨rfl, hvb, rfl⟩))
      go_ret
      exact ⟨rfl, Below.refl _ _⟩
/-- A sum on its way. -/
def AddInv (la lb : List Int) (k : Nat) (o : List Int) (c : Int) : Prop := o.length = k ∧ Words o ∧ 0 ≤ c ∧ c ≤ 1 ∧ (wv o : Int) + Q k * c = wv (la.take k) + wv (lb.take k)
theorem addInv_zero (la lb : List Int) : AddInv la lb 0 [] 0 := ⟨rfl, words_nil, by decide, by decide, by rw [List.take_zero, List.take_zero, wi_nil]; simp⟩
theorem addInv_next {la lb o : List Int} {k : Nat} {c t : Int} (wa : Words la) (wb : Words lb) (I : AddInv la lb k o c) (ht : t = c + la.getD k 0 + lb.getD k 0) : AddInv la lb (k + 1) (o ++ [t % 4294967296]) (t / 4294967296) := by
  obtain ⟨h1, h2, h3, h4, h5⟩ := I
  have g0 := getD_word wa k
  have g1 := getD_word wb k
  exact ⟨by simp [h1], words_snoc h2 (by omega) (by omega), by omega, by omega, add_step wa wb h1 h5 ht h3⟩
theorem addInv_end {la lb o : List Int} {k : Nat} {c : Int} (I : AddInv la lb k o c) (ha : la.length ≤ k) (hb : lb.length ≤ k) : Words (o ++ [c]) ∧ wv (o ++ [c]) = wv la + wv lb := by
  obtain ⟨h1, h2, h3, h4, h5⟩ := I
  refine ⟨words_snoc h2 h3 (by omega), ?_⟩
  have e := wi_snoc h3 o
  rw [h1] at e
  rw [List.take_of_length_le ha, List.take_of_length_le hb] at h5
  omega
theorem own_rd {w : World} {B : Nat} {v : Value} {n : Nat} {l : List Int} (h : w.ownsRow B 40 1 v n (l.map (Value.int .u32))) : Rd w .u32 v l := Rd.of_own h
set_option maxRecDepth 100000 in
set_option maxHeartbeats 2000000 in
theorem radd_c (a : Option Addr) (n c : Nat) (la : List Int) (b : Option Addr) (m d : Nat) (lb : List Int) (w : World) (ha : Rd w .u32 (.slice a n c) la) (wa : Words la) (hn : n ≤ 1000000) (hb : Rd w .u32 (.slice b m d) lb) (wb : Words lb) (hm : m ≤ 1000000) :
    Calls Tryz.prog 146 #[.slice a n c, .slice b m d] w fun e w' => ∃ v, e = .returned v ∧ Nw w' v (wv la + wv lb) ∧ Below w.heap.size w w' := by
  have na := ha.parts.1
  have nb := hb.parts.1
  have HN := Lib.hid (fun (k : Nat) (o : List Int) (c t : Int) (I : AddInv la lb k o c) => addInv_next (t := t) wa wb I)
  have HE := Lib.hid (fun (k : Nat) (o : List Int) (c : Int) (I : AddInv la lb k o c) (h1 : n ≤ k) (h2 : m ≤ k) => addInv_end I (by omega) (by omega))
  have GA := Lib.hid (fun k => getD_word wa k)
  have GB := Lib.hid (fun k => getD_word wb k)
  have ZA := Lib.hid (fun (k : Nat) (h : n ≤ k) => @getD0 la k (by omega))
  have ZB := Lib.hid (fun (k : Nat) (h : m ≤ k) => @getD0 lb k (by omega))
  have HA := Lib.hid (fun (k : Nat) (h : k < n) => show ∃ g off, a = some ⟨g, off, none⟩ ∧ w.cell? ⟨g, off + k, none⟩ = some (.int .u32 (la.getD k 0)) by
    obtain ⟨g, off, e, hc⟩ := ha.addr (by omega); exact ⟨g, off, e, hc k h⟩)
  have HB := Lib.hid (fun (k : Nat) (h : k < m) => show ∃ g off, b = some ⟨g, off, none⟩ ∧ w.cell? ⟨g, off + k, none⟩ = some (.int .u32 (lb.getD k 0)) by
    obtain ⟨g, off, e, hc⟩ := hb.addr (by omega); exact ⟨g, off, e, hc k h⟩)
  have I0 := Lib.hid (addInv_zero la lb)
  have wcap := ha.parts.2.1
  have wcap2 := hb.parts.2.1
  clear na nb ha hb wa wb
  go_enter Tryz.func146, Tryz.ntmps146
  go_wp2
  go_loopw [5, 6, 7] (fun v5 v6 v7 wr => ∃ (k : Nat) (z : Int) (o : List Int) (a2 : Option Addr) (c2 : Nat), k ≤ 1000000 ∧ 0 ≤ z ∧ z ≤ 1 ∧ v5 = .slice a2 k c2 ∧ v6 = .int .u64 z ∧ v7 = .int .i64 k ∧ Below w.heap.size w wr ∧ Hid (wr.ownsRow w.heap.size 40 1 (.slice a2 k c2) k (o.map (Value.int .u32)) ∧ AddInv la lb k o z))
    (fun _ _ v7 _ => 1000000 - (intOf v7).toNat)
  case atStart => exact ⟨0, 0, [], none, 0, by omega, by decide, by decide, rfl, rfl, rfl, Below.refl _ _, World.ownsRow_nil _ _ _ _, I0.out⟩
  case round =>
    obtain ⟨k, z, o, a2, c2, hk, z0, z1, rfl, rfl, rfl, hbw, HO⟩ := hrel
    have ga := GA.out k
    have gb := GB.out k
    have za := ZA.out k
    have zb := ZB.out k
    have HX := Lib.hid (fun t => HN.out k o z t HO.out.2)
    by_cases ka : k < n
    · obtain ⟨g, off, rfl, ca⟩ := HA.out k ka
      have ca' := cell_below hbw ca
      obtain ⟨x, hx⟩ : ∃ x, la.getD k 0 = x := ⟨_, rfl⟩
      rw [hx] at ca' ga HX
      clear hx ca za
      by_cases kb : k < m
      · obtain ⟨g', off', rfl, cb⟩ := HB.out k kb
        have cb' := cell_below hbw cb
        obtain ⟨y, hy⟩ : ∃ y, lb.getD k 0 = y := ⟨_, rfl⟩
        rw [hy] at cb' gb HX
        clear hy cb zb
        go_wp2_with (at_builtin; go_loud (refine wp_app 37 40 (.int .u32 0) 4 Tryz.underlying37 info_u32 rfl w.heap.size (.slice a2 k c2) k _ (.int .u32 ((z + x + y) % 4294967296)) wr _ rfl (by rfl) (.tmp 42) (.tmp 45) (by rfl) (by rfl) (by rfl) HO.out.1 hbw.size rfl (by omega) (by decide) ?_); intro v' w' hown hbel)
        obtain ⟨a', c', rfl⟩ := ownsRow_slice hown
        have H := Lib.hid hown
        clear hown
        go_wp2
        go_roundw
        case rel =>
          have N := HX.out _ rfl
          refine ⟨k + 1, _, o ++ [(z + x + y) % 4294967296], a', c', by omega, N.2.2.1, N.2.2.2.1, rfl, rfl, by go_num, hbw.trans hbel, ?_, N⟩
          have := H.out
          rw [List.map_append]
          exact this
        case measure => simp [intOf]; omega
      · have zb := zb (by omega)
        rw [zb] at HX
        clear gb zb
        go_wp2_with (at_builtin; go_loud (refine wp_app 37 40 (.int .u32 0) 4 Tryz.underlying37 info_u32 rfl w.heap.size (.slice a2 k c2) k _ (.int .u32 ((z + x) % 4294967296)) wr _ rfl (by rfl) (.tmp 42) (.tmp 45) (by rfl) (by rfl) (by rfl) HO.out.1 hbw.size rfl (by omega) (by decide) ?_); intro v' w' hown hbel)
        obtain ⟨a', c', rfl⟩ := ownsRow_slice hown
        have H := Lib.hid hown
        clear hown
        go_wp2
        go_roundw
        case rel =>
          have N := HX.out (z + x) (by omega)
          refine ⟨k + 1, _, o ++ [(z + x) % 4294967296], a', c', by omega, N.2.2.1, N.2.2.2.1, rfl, rfl, by go_num, hbw.trans hbel, ?_, N⟩
          have := H.out
          rw [List.map_append]
          exact this
        case measure => simp [intOf]; omega
    · have za := za (by omega)
      rw [za] at HX
      clear ga za
      by_cases kb : k < m
      · obtain ⟨g', off', rfl, cb⟩ := HB.out k kb
        have cb' := cell_below hbw cb
        obtain ⟨y, hy⟩ : ∃ y, lb.getD k 0 = y := ⟨_, rfl⟩
        rw [hy] at cb' gb HX
        clear hy cb zb
        go_wp2_with (at_builtin; go_loud (refine wp_app 37 40 (.int .u32 0) 4 Tryz.underlying37 info_u32 rfl w.heap.size (.slice a2 k c2) k _ (.int .u32 ((z + y) % 4294967296)) wr _ rfl (by rfl) (.tmp 42) (.tmp 45) (by rfl) (by rfl) (by rfl) HO.out.1 hbw.size rfl (by omega) (by decide) ?_); intro v' w' hown hbel)
        obtain ⟨a', c', rfl⟩ := ownsRow_slice hown
        have H := Lib.hid hown
        clear hown
        go_wp2
        go_roundw
        case rel =>
          have N := HX.out (z + y) (by omega)
          refine ⟨k + 1, _, o ++ [(z + y) % 4294967296], a', c', by omega, N.2.2.1, N.2.2.2.1, rfl, rfl, by go_num, hbw.trans hbel, ?_, N⟩
          have := H.out
          rw [List.map_append]
          exact this
        case measure => simp [intOf]; omega
      · have E := HE.out k o z HO.out.2 (by omega) (by omega)
        have HW := Lib.hid E
        clear gb zb E HX
        go_wp2_with (first
          | (at_builtin; go_loud (refine wp_app 37 40 (.int .u32 0) 4 Tryz.underlying37 info_u32 rfl w.heap.size (.slice a2 k c2) k _ (.int .u32 z) wr _ rfl (by rfl) (.tmp 49) (.tmp 52) (by rfl) (by rfl) (by rfl) HO.out.1 hbw.size rfl (by omega) (by decide) ?_); intro v' w' hown hbel; obtain ⟨a', c', rfl⟩ := ownsRow_slice hown; have H := Lib.hid hown; clear hown)
          | (go_at_call 155; refine (rnorm_c _ _ _ (o ++ [z]) _ (own_rd (by rw [List.map_append]; exact H.out)) HW.out.1 (by omega)).mono ?_; rintro e1 w1 ⟨v, rfl, hv, hb1⟩))
        go_ret
        exact ⟨v, rfl, by rw [HW.out.2] at hv; exact hv, below_then (hbw.trans hbel) (hbw.trans hbel).size hb1⟩
end Go.Proofs.YtkifdppppihjcaaGreat

namespace Go.Proofs.YtkifdppppihjcaaGreat
set_option linter.unusedVariables false
set_option linter.unusedSimpArgs false
open Go.RowKit Go.ChangeShapes Go.WideShapes SF
/-- A difference on its way. -/
def SubInv (la lb : List Int) (k : Nat) (o : List Int) (c : Int) : Prop := o.length = k ∧ Words o ∧ 0 ≤ c ∧ c ≤ 1 ∧ (wv o : Int) + wv (lb.take k) = wv (la.take k) + Q k * c
theorem subInv_zero (la lb : List Int) : SubInv la lb 0 [] 0 := ⟨rfl, words_nil, by decide, by decide, by rw [List.take_zero, List.take_zero, wi_nil]; simp⟩
theorem subInv_next {la lb o : List Int} {k : Nat} {c t : Int} (wa : Words la) (wb : Words lb) (I : SubInv la lb k o c) (ht : t = la.getD k 0 - c - lb.getD k 0) : SubInv la lb (k + 1) (o ++ [t % 4294967296]) (-(t / 4294967296)) := by
  obtain ⟨h1, h2, h3, h4, h5⟩ := I
  have g0 := getD_word wa k
  have g1 := getD_word wb k
  exact ⟨by simp [h1], words_snoc h2 (by omega) (by omega), by omega, by omega, sub_step wa wb h1 h5 ht⟩
theorem subInv_end {la lb o : List Int} {k : Nat} {c : Int} (I : SubInv la lb k o c) (ha : la.length ≤ k) (hb : lb.length ≤ k) (h : wv lb ≤ wv la) : Words o ∧ wv o = wv la - wv lb := by
  obtain ⟨h1, h2, h3, h4, h5⟩ := I
  refine ⟨h2, ?_⟩
  have e := wi_lt h2
  rw [h1] at e
  rw [List.take_of_length_le ha, List.take_of_length_le hb] at h5
  have hq := Q_pos k
  have c0 : c = 0 := by
    rcases (show c = 0 ∨ c = 1 by omega) with h | h
    · exact h
    · subst h; omega
  subst c0
  omega
set_option maxRecDepth 100000 in
set_option maxHeartbeats 2000000 in
theorem rsub_w (a : Option Addr) (n c : Nat) (la : List Int) (b : Option Addr) (m d : Nat) (lb : List Int) (w : World) (ha : Rd w .u32 (.slice a n c) la) (wa : Words la) (hn : n ≤ 1000000) (hb : Rd w .u32 (.slice b m d) lb) (wb : Words lb) (hm : m ≤ 1000000) (hle : wv lb ≤ wv la) :
    Calls Tryz.prog 151 #[.slice a n c, .slice b m d] w fun e w' => ∃ v, e = .returned (.tuple #[v, .int .i64 0]) ∧ Nw w' v (wv la - wv lb) ∧ Below w.heap.size w w' ∧ New w v := by
  have na := ha.parts.1
  have HC := rncmp_c a n c la b m d lb w ha wa (by omega) hb wb (by omega)
  obtain ⟨R, hR⟩ : ∃ R, cmpI (wv la : Int) (wv lb : Int) = R := ⟨_, rfl⟩
  have hR0 : ¬ R < 0 := by rw [← hR]; unfold cmpI; split <;> (try split) <;> omega
  rw [hR] at HC
  have HC := Lib.hid HC
  have HT := Lib.hid (fun w1 (h : Below w.heap.size w w1) => rtrim_c b m d lb w1 (hb.below h) wb (by omega))
  have lb' := ws_len_mono hle
  have la' := ws_len_le (len_bound wa)
  have B0 : wv (ws (wv lb)) = wv lb := wv_ws _
  obtain ⟨B, hB⟩ : ∃ B, wv lb = B := ⟨_, rfl⟩
  rw [hB] at HT lb' hle B0 ⊢
  have wb2 := words_ws B
  have HB := Lib.hid (fun (w1 : World) (k : Nat) (hv : Nw w1 (.slice b (ws B).length d) B) (h : k < (ws B).length) => show ∃ g off, b = some ⟨g, off, none⟩ ∧ w1.cell? ⟨g, off + k, none⟩ = some (.int .u32 ((ws B).getD k 0)) by
    obtain ⟨g, off, e, hc⟩ := hv.addr (by omega); exact ⟨g, off, e, hc k h⟩)
  obtain ⟨lc, hlc⟩ : ∃ lc, ws B = lc := ⟨_, rfl⟩
  rw [hlc] at HB lb' B0 wb2 HT
  obtain ⟨r, hr⟩ : ∃ r, lc.length = r := ⟨_, rfl⟩
  rw [hr] at HB lb' HT
  have HN := Lib.hid (fun (k : Nat) (o : List Int) (c t : Int) (I : SubInv la lc k o c) => subInv_next (t := t) wa wb2 I)
  have HE := Lib.hid (fun (k : Nat) (o : List Int) (c : Int) (I : SubInv la lc k o c) (h1 : n ≤ k) => show Words o ∧ wv o = wv la - B by
    have := subInv_end I (by omega) (by omega) (by omega)
    rw [B0] at this; exact this)
  have GA := Lib.hid (fun k => getD_word wa k)
  have GB := Lib.hid (fun k => getD_word wb2 k)
  have ZB := Lib.hid (fun (k : Nat) (h : r ≤ k) => @getD0 lc k (by omega))
  have HA := Lib.hid (fun (k : Nat) (h : k < n) => show ∃ g off, a = some ⟨g, off, none⟩ ∧ w.cell? ⟨g, off + k, none⟩ = some (.int .u32 (la.getD k 0)) by
    obtain ⟨g, off, e, hc⟩ := ha.addr (by omega); exact ⟨g, off, e, hc k h⟩)
  have I0 := Lib.hid (subInv_zero la lc)
  have wcap := ha.parts.2.1
  have hrn : r ≤ n := by omega
  clear na ha hb wa wb hR hB hlc hr B0 wb2 lb' la' hle
  go_enter Tryz.func151, Tryz.ntmps151
  go_wp2_with (first
    | (go_at_call 123; (with_reducible refine (HC.out).mono ?_); rintro e1 w1 ⟨rfl, hb1⟩)
    | (go_at_call 154; refine (HT.out _ hb1).mono ?_; rintro e1 w2 ⟨rfl, hv, rfl⟩))
  go_loopw [6, 7, 8, 9] (fun v6 v7 v8 v9 wr => ∃ (k : Nat) (z : Int) (o : List Int) (a2 : Option Addr) (c2 : Nat), k ≤ n ∧ 0 ≤ z ∧ z ≤ 1 ∧ v6 = .slice a2 k c2 ∧ v7 = .int .u64 z ∧ v8 = .int .i64 k ∧ Below w1.heap.size w1 wr ∧ Hid (wr.ownsRow w1.heap.size 40 1 (.slice a2 k c2) k (o.map (Value.int .u32)) ∧ SubInv la lc k o z))
    (fun _ _ v8 _ _ => n - (intOf v8).toNat)
  case atStart => exact ⟨0, 0, [], none, 0, by omega, by decide, by decide, rfl, rfl, rfl, Below.refl _ _, World.ownsRow_nil _ _ _ _, I0.out⟩
  case round =>
    obtain ⟨k, z, o, a2, c2, hk, z0, z1, rfl, rfl, rfl, hbw, HO⟩ := hrel
    have ga := GA.out k
    have gb := GB.out k
    have zb := ZB.out k
    have HX := Lib.hid (fun t => HN.out k o z t HO.out.2)
    by_cases ka : k < n
    · obtain ⟨g, off, rfl, ca⟩ := HA.out k ka
      have ca' := cell_below hbw (cell_below hb1 ca)
      obtain ⟨x, hx⟩ : ∃ x, la.getD k 0 = x := ⟨_, rfl⟩
      rw [hx] at ca' ga HX
      clear hx ca
      by_cases kb : k < r
      · obtain ⟨g', off', rfl, cb⟩ := HB.out _ k hv kb
        have cb' := cell_below hbw cb
        obtain ⟨y, hy⟩ : ∃ y, lc.getD k 0 = y := ⟨_, rfl⟩
        rw [hy] at cb' gb HX
        clear hy cb zb
        obtain ⟨T, hT⟩ : ∃ T, IntKind.u64.wrap (IntKind.u64.wrap (x - z) - y) = T := ⟨_, rfl⟩
        have hw1 : T % 4294967296 = (x - z - y) % 4294967296 ∧ T / 9223372036854775808 = -((x - z - y) / 4294967296) ∧ 0 ≤ T ∧ T < 18446744073709551616 := by
          rw [← hT]; simp only [IntKind.wrap_u64]; omega
        have HS := Lib.hid (show SubInv la lc (k + 1) (o ++ [T % 4294967296]) (T / 9223372036854775808) by
          rw [hw1.1, hw1.2.1]; exact HX.out _ (by omega))
        have t0 := hw1.2.2.1
        have t1 := hw1.2.2.2
        clear hw1 HX
        go_wp2_with (at_builtin; go_loud (refine wp_app 37 40 (.int .u32 0) 4 Tryz.underlying37 info_u32 rfl w1.heap.size (.slice a2 k c2) k _ (.int .u32 (T % 4294967296)) wr _ rfl (by rfl) (.tmp 40) (.tmp 43) (by rfl) (by rfl) (by rfl) HO.out.1 hbw.size rfl (by omega) (by decide) ?_); intro v' w' hown hbel)
        obtain ⟨a', c', rfl⟩ := ownsRow_slice hown
        have H := Lib.hid hown
        clear hown
        go_wp2
        go_roundw
        case rel =>
          have N := HS.out
          refine ⟨k + 1, _, o ++ [T % 4294967296], a', c', by omega, N.2.2.1, N.2.2.2.1, rfl, rfl, by go_num, hbw.trans hbel, ?_, N⟩
          have := H.out
          rw [List.map_append]
          exact this
        case measure => simp [intOf]; omega
      · have zb := zb (by omega)
        rw [zb] at HX
        clear gb zb
        obtain ⟨T, hT⟩ : ∃ T, IntKind.u64.wrap (x - z) = T := ⟨_, rfl⟩
        have hw1 : T % 4294967296 = (x - z) % 4294967296 ∧ T / 9223372036854775808 = -((x - z) / 4294967296) ∧ 0 ≤ T ∧ T < 18446744073709551616 := by
          rw [← hT]; simp only [IntKind.wrap_u64]; omega
        have HS := Lib.hid (show SubInv la lc (k + 1) (o ++ [T % 4294967296]) (T / 9223372036854775808) by
          rw [hw1.1, hw1.2.1]; exact HX.out _ (by omega))
        have t0 := hw1.2.2.1
        have t1 := hw1.2.2.2
        clear hw1 HX
        go_wp2_with (at_builtin; go_loud (refine wp_app 37 40 (.int .u32 0) 4 Tryz.underlying37 info_u32 rfl w1.heap.size (.slice a2 k c2) k _ (.int .u32 (T % 4294967296)) wr _ rfl (by rfl) (.tmp 40) (.tmp 43) (by rfl) (by rfl) (by rfl) HO.out.1 hbw.size rfl (by omega) (by decide) ?_); intro v' w' hown hbel)
        obtain ⟨a', c', rfl⟩ := ownsRow_slice hown
        have H := Lib.hid hown
        clear hown
        go_wp2
        go_roundw
        case rel =>
          have N := HS.out
          refine ⟨k + 1, _, o ++ [T % 4294967296], a', c', by omega, N.2.2.1, N.2.2.2.1, rfl, rfl, by go_num, hbw.trans hbel, ?_, N⟩
          have := H.out
          rw [List.map_append]
          exact this
        case measure => simp [intOf]; omega
    · have E := HE.out k o z HO.out.2 (by omega)
      have HW := Lib.hid E
      clear ga gb zb E HX
      go_wp2_with (go_at_call 155; refine (rnorm_n _ _ _ o _ (own_rd HO.out.1) HW.out.1 (by omega)).mono ?_; rintro e1 w2 ⟨v, rfl, hv2, hb2, hn2⟩)
      go_ret2
      exact ⟨v, rfl, by rw [HW.out.2] at hv2; exact hv2, btn hb1 (btn hbw hb2), fun g hg => Nat.le_trans (btn hb1 hbw).size (hn2 g hg)⟩
/-- A made array of words, of the call's own. -/
def Arr (w : World) (G n : Nat) (o : List Int) : Prop := w.ownsRow G 40 1 (.slice (some ⟨G, 0, none⟩) n n) n (o.map (Value.int .u32))
theorem Arr.len {w : World} {G n : Nat} {o : List Int} (h : Arr w G n o) : o.length = n := by have := h.1; simpa using this
theorem Arr.cell {w : World} {G n : Nat} {o : List Int} (h : Arr w G n o) {j : Nat} (hj : j < n) : w.cell? ⟨G, j, none⟩ = some (.int .u32 (o.getD j 0)) := by
  have hl := h.len
  rw [World.ownsRow.cellAt h j (by omega), List.getElem?_map, List.getElem?_eq_getElem (by omega), List.getD_eq_getElem?_getD, List.getElem?_eq_getElem (by omega)]; rfl
theorem Arr.frozen {w : World} {G n : Nat} {o : List Int} (h : Arr w G n o) (j : Nat) : w.frozen? ⟨G, j, none⟩ = false := World.ownsRow.frozenAt h j
theorem Arr.set {w : World} {G n : Nat} {o : List Int} (h : Arr w G n o) (j : Nat) (x : Int) : Arr (w.setCell ⟨G, j, none⟩ (.int .u32 x)) G n (o.set j x) := by
  have := (World.ownsRow.stored h j (.int .u32 x)).1
  unfold Arr
  rw [List.map_set]; exact this
theorem Arr.rd {w : World} {G n : Nat} {o : List Int} (h : Arr w G n o) : Rd w .u32 (.slice (some ⟨G, 0, none⟩) n n) o := own_rd h
theorem Arr.below {w w' : World} {G n : Nat} {o : List Int} (h : Arr w G n o) (hb : Below w.heap.size w w') : Arr w' G n o := by
  rcases h.2 with ⟨h', _⟩ | ⟨g', cap', cur, h', h3, h4, h5, h6, h7, h8⟩
  · simp at h'
  · simp only [Value.slice.injEq, Option.some.injEq, Addr.mk.injEq, and_true, true_and] at h'
    obtain ⟨rfl, rfl⟩ := h'
    refine ⟨h.1, .inr ⟨_, _, cur, rfl, h3, ?_, h5, h6, h7, h8⟩⟩
    have hl : G < w.heap.size := by
      rcases Nat.lt_or_ge G w.heap.size with h | h
      · exact h
      · rw [Array.getElem?_eq_none h] at h4; simp at h4
    rw [hb.block _ hl]; exact h4
theorem wp_make {P : Program} (T : TypeId) (ht : P.underlying T = some (.slice 40)) (hinfo : (P.info? 40).map (fun i => (i.zero, i.size, i.bytes)) = some (some (.int .u32 0), 1, 4)) (w : World) {ops : Array Oper} {rest : List Oper} {o : Oper} {a : Act} {Q : Exit → Act → World → Prop} (hg : o.guard = none) (l : Operand) (hop : o.op = Op.makeSlice T l l) (L : Int) (n : Nat) (hl : a.eval l = .int .i64 L) (hL : L = (n : Int)) (hn : n ≤ 1000000)
    (hK : ∀ w', Arr w' w.heap.size n (List.replicate n 0) → Below w.heap.size w w' → wpList P ops Q rest (a.put o.dst (.slice (some ⟨w.heap.size, 0, none⟩) n n)) w') : wpList P ops Q (o :: rest) a w := by
  obtain ⟨i0, hi, hz0, hz2, hz3⟩ := info_parts hinfo
  refine wpList_make_full w hg l l T hop w.heap.size 40 i0 (.int .u32 0) 1 ht hi hz0 hz2 .i64 .i64 L L n hl hl hL hL (by rw [hz3]; omega) (by unfold maxLen; omega) (Nat.le_refl _) ?_
  intro w' h1 h2
  refine hK w' ?_ ((Below.refl _ w).grown h2 (Nat.le_refl _) (fun k hk => by simp at hk))
  have e : (madeCells (Value.int .u32 0).cells (n * 1)).toList = (List.replicate n (0 : Int)).map (Value.int .u32) := by
    rw [List.map_replicate, Nat.mul_one]
    exact toList_madeCells_one _ _
  rw [e] at h1
  exact h1
theorem or32_zero {y : Int} (hy : 0 ≤ y ∧ y < 4294967296) : bits .or .u32 0 y = y := by
  obtain ⟨Y, rfl⟩ := Int.eq_ofNat_of_zero_le hy.1
  rw [show (0 : Int) = ((0 : Nat) : Int) from rfl, u32_or_nat _ _ (by decide) (by omega), Nat.zero_or]
theorem or32_join {r : Nat} {z x : Int} (hz : 0 ≤ z ∧ z < (2 : Int) ^ r) (hx : 0 ≤ x ∧ x < 4294967296) (hm : x % (2 : Int) ^ r = 0) (hr : r < 32) : bits .or .u32 z x = z + x ∧ z + x < 4294967296 := by
  obtain ⟨Z, rfl⟩ := Int.eq_ofNat_of_zero_le hz.1
  obtain ⟨X, rfl⟩ := Int.eq_ofNat_of_zero_le hx.1
  have p : ((2 : Int) ^ r) = ((2 ^ r : Nat) : Int) := by rw [Int.natCast_pow]; rfl
  rw [p] at hz hm
  have hz' : Z < 2 ^ r := by omega
  have hm' : X % 2 ^ r = 0 := by have := hm; rw [← Int.natCast_emod] at this; omega
  have e32 : (4294967296 : Nat) = 2 ^ r * 2 ^ (32 - r) := pow_split32 (by omega)
  have hX : X < 4294967296 := by omega
  have hfit : Z + X < 4294967296 := by
    have h1 : X = 2 ^ r * (X / 2 ^ r) := by have := Nat.div_add_mod X (2 ^ r); omega
    have h2 : X / 2 ^ r < 2 ^ (32 - r) := by rw [Nat.div_lt_iff_lt_mul (Nat.two_pow_pos _), Nat.mul_comm, ← e32]; exact hX
    have h3 : 2 ^ r * (X / 2 ^ r + 1) ≤ 2 ^ r * 2 ^ (32 - r) := Nat.mul_le_mul_left _ h2
    rw [← e32, Nat.mul_add, ← h1, Nat.mul_one] at h3
    omega
  have p32 : 2 ^ r ≤ 2 ^ 31 := Nat.pow_le_pow_right (by decide) (by omega)
  have p31 : (2 : Nat) ^ 31 = 2147483648 := by decide
  refine ⟨?_, by omega⟩
  rw [u32_or_nat _ _ (by omega) (by omega), Nat.or_comm, nat_join r X Z hm' hz']
  omega
/-- A shift to the left on its way. -/
def ShlInv (la : List Int) (q r k : Nat) (o : List Int) : Prop := Words o ∧ o.length = la.length + q + 1 ∧ (wv o : Int) = Q q * (2 : Int) ^ r * wv (la.take k) ∧ (∀ j, k + q < j → o.getD j 0 = 0) ∧ o.getD (k + q) 0 < (2 : Int) ^ r
theorem two_pos (r : Nat) : (0 : Int) < (2 : Int) ^ r := by
  have : ((2 : Int) ^ r) = ((2 ^ r : Nat) : Int) := by rw [Int.natCast_pow]; rfl
  rw [this]; exact Int.natCast_pos.2 (Nat.two_pow_pos r)
theorem shlInv_zero (la : List Int) (q r : Nat) : ShlInv la q r 0 (List.replicate (la.length + q + 1) 0) := by
  have z : ∀ j, (List.replicate (la.length + q + 1) (0 : Int)).getD j 0 = 0 := fun j => by
    rw [List.getD_eq_getElem?_getD, List.getElem?_replicate]; split <;> rfl
  refine ⟨words_zeros _, List.length_replicate, ?_, fun j _ => z j, by rw [z]; exact two_pos r⟩
  rw [List.take_zero, wi_nil, wv_zeros']; simp
theorem shl_word {x : Int} {r : Nat} (hx : 0 ≤ x ∧ x < 4294967296) (hr : r < 32) : 0 ≤ x * (2 : Int) ^ r ∧ x * (2 : Int) ^ r < 18446744073709551616 ∧ x * (2 : Int) ^ r % 4294967296 % (2 : Int) ^ r = 0 ∧ x * (2 : Int) ^ r / 4294967296 < (2 : Int) ^ r := by
  obtain ⟨X, rfl⟩ := Int.eq_ofNat_of_zero_le hx.1
  have p : ((2 : Int) ^ r) = ((2 ^ r : Nat) : Int) := by rw [Int.natCast_pow]; rfl
  have s := shl_parts (a := X) (r := r) (by omega) hr
  have e : (X : Int) * (2 : Int) ^ r = ((X * 2 ^ r : Nat) : Int) := by rw [p, Int.natCast_mul]
  rw [e, p]
  refine ⟨Int.natCast_nonneg _, by omega, ?_, by omega⟩
  have h1 : ((X * 2 ^ r : Nat) : Int) % 4294967296 = ((X * 2 ^ r % 4294967296 : Nat) : Int) := by omega
  rw [h1, s.1, ← Int.natCast_emod, Nat.mul_mod_left]; rfl
theorem shlInv_next {la o : List Int} {q r k : Nat} {x X v : Int} (wa : Words la) (hr : r < 32) (I : ShlInv la q r k o) (hk : k < la.length) (hx : la.getD k 0 = x) (hX : x * (2 : Int) ^ r = X) :
    bits .or .u32 (o.getD (k + q) 0) (X % 4294967296) = o.getD (k + q) 0 + X % 4294967296 ∧ o.getD (k + q) 0 + X % 4294967296 < 4294967296 ∧ 0 ≤ o.getD (k + q) 0 ∧ o.getD (k + q) 0 < 4294967296 ∧ 0 ≤ X ∧ X < 18446744073709551616 ∧
    ShlInv la q r (k + 1) ((o.set (k + q) (o.getD (k + q) 0 + X % 4294967296)).set (k + q + 1) (X / 4294967296)) := by
  obtain ⟨h1, h2, h3, h4, h5⟩ := I
  have g := getD_word wa k
  rw [hx] at g
  have sw := shl_word g hr
  rw [hX] at sw
  have gz := getD_word h1 (k + q)
  have j := or32_join ⟨gz.1, h5⟩ (x := X % 4294967296) ⟨by omega, by omega⟩ sw.2.2.1 hr
  have hset : Words (o.set (k + q) (o.getD (k + q) 0 + X % 4294967296)) := words_set h1 (by omega) j.2
  refine ⟨j.1, j.2, gz.1, gz.2, sw.1, sw.2.1, words_set hset (by omega) (by omega), by rw [List.length_set, List.length_set]; exact h2, ?_, ?_, ?_⟩
  · have := shl_step (o := o) (a := la) (i := k) (s := q) (D := (2 : Int) ^ r) (x := X) h1 wa (by omega) (two_pos r) (by rw [hx]; exact hX.symm) h3 (h4 _ (by omega)) j.2
    exact this
  · intro i hi
    rw [getD_set (by rw [List.length_set]; omega), if_neg (by omega), getD_set (by omega), if_neg (by omega)]
    exact h4 i (by omega)
  · rw [getD_set (by rw [List.length_set]; omega), if_pos (by omega)]
    exact sw.2.2.2
theorem shlInv_end {la o : List Int} {q r s : Nat} (I : ShlInv la q r la.length o) (hs : 32 * q + r = s) : Words o ∧ wv o = wv la * 2 ^ s := by
  obtain ⟨h1, h2, h3, h4, h5⟩ := I
  refine ⟨h1, ?_⟩
  rw [List.take_of_length_le (Nat.le_refl _)] at h3
  have e : Q q * (2 : Int) ^ r = ((2 ^ s : Nat) : Int) := by
    unfold Q
    have p : ((2 : Int) ^ r) = ((2 ^ r : Nat) : Int) := by rw [Int.natCast_pow]; rfl
    rw [p, ← Int.natCast_mul, ← Nat.pow_add, hs]
  rw [e, ← Int.natCast_mul] at h3
  have := Int.ofNat_inj.1 h3
  rw [this, Nat.mul_comm]
set_option maxRecDepth 100000 in
set_option maxHeartbeats 2000000 in
theorem rshl_c (a : Option Addr) (n c : Nat) (la : List Int) (s : Nat) (w : World) (ha : Rd w .u32 (.slice a n c) la) (wa : Words la) (hn : n ≤ 2000) (hs : 0 < s) (hb : bl (wv la) + s ≤ 64000) :
    Calls Tryz.prog 120 #[.slice a n c, .int .i64 (s : Int)] w fun e w' => ∃ v, e = .returned (.tuple #[v, .int .i64 0]) ∧ Nw w' v (wv la * 2 ^ s) ∧ Below w.heap.size w w' := by
  have HL := rlarge_c a n c la w ha wa (by omega)
  rw [show decide (64000 < bl (wv la)) = false from decide_eq_false (by omega)] at HL
  have HL := Lib.hid HL
  have HT := Lib.hid (rtrim_c a n c la w ha wa (by omega))
  have la' := ws_len_le (len_bound wa)
  have na := ha.parts.1
  obtain ⟨A, hA⟩ : ∃ A, wv la = A := ⟨_, rfl⟩
  rw [hA] at HT la' hb ⊢
  have w2 := words_ws A
  have A0 : wv (ws A) = A := wv_ws A
  have HA := Lib.hid (fun (w1 : World) (k : Nat) (hv : Nw w1 (.slice a (ws A).length c) A) (h : k < (ws A).length) => show ∃ g off, a = some ⟨g, off, none⟩ ∧ w1.cell? ⟨g, off + k, none⟩ = some (.int .u32 ((ws A).getD k 0)) by
    obtain ⟨g, off, e, hc⟩ := hv.addr (by omega); exact ⟨g, off, e, hc k h⟩)
  obtain ⟨lc, hlc⟩ : ∃ lc, ws A = lc := ⟨_, rfl⟩
  rw [hlc] at HA la' w2 HT A0
  obtain ⟨m, hm⟩ : ∃ m, lc.length = m := ⟨_, rfl⟩
  rw [hm] at HA la' HT
  obtain ⟨q, hq⟩ : ∃ q, s / 32 = q := ⟨_, rfl⟩
  obtain ⟨r, hr⟩ : ∃ r, s % 32 = r := ⟨_, rfl⟩
  obtain ⟨S, hS⟩ : ∃ S : Int, (s : Int) = S := ⟨_, rfl⟩
  have q0 : S / 32 = (q : Int) := by omega
  have r0 : S % 32 = (r : Int) := by omega
  have hS0 : 0 < S := by omega
  have hS1 : S ≤ 64000 := by omega
  have hqb : q ≤ 2000 := by omega
  have hr32 : r < 32 := by omega
  have hm2 : m ≤ 2000 := by omega
  have hsum : 32 * q + r = s := by omega
  have HI := Lib.hid (shlInv_zero lc q r)
  rw [hm] at HI
  have HN := Lib.hid (fun (o : List Int) (k : Nat) (x X : Int) (I : ShlInv lc q r k o) (hk : k < m) => @shlInv_next lc o q r k x X 0 w2 hr32 I (by omega))
  have HE := Lib.hid (fun (o : List Int) (k : Nat) (I : ShlInv lc q r k o) (hk : k = m) => show Words o ∧ wv o = A * 2 ^ s by
    have := shlInv_end (s := s) (by rw [hm, ← hk]; exact I) hsum
    rw [A0] at this; exact this)
  have HP := Lib.hid (show (ws (A * 2 ^ s)).length ≤ 2000 by
    have := bl_shl A s
    exact ws_len_le (by omega))
  have GW := Lib.hid (fun k => getD_word w2 k)
  rw [hS]
  obtain ⟨N, hN⟩ : ∃ N, A * 2 ^ s = N := ⟨_, rfl⟩
  rw [hN] at HE HP ⊢
  clear hN hA ha wa na hq hr hS hm hlc A0 w2 hsum hb
  go_enter Tryz.func120, Tryz.ntmps120
  go_wp2_with (first
    | (go_at_call 153; (with_reducible refine (HL.out).mono ?_); rintro e1 w1 ⟨rfl, rfl⟩)
    | (go_at_call 154; (with_reducible refine (HT.out).mono ?_); rintro e1 w1 ⟨rfl, hv, rfl⟩)
    | (at_make; go_loud (refine wp_make 37 Tryz.underlying37 info_u32 w rfl (.tmp 27) rfl _ (m + q + 1) rfl (by omega) (by omega) ?_); intro w3 harr hb3))
  have HAR := Lib.hid harr
  clear harr
  go_loopw [7, 8] (fun v7 _ wr => ∃ (k : Nat) (o : List Int), k ≤ m ∧ v7 = .int .i64 k ∧ Below w.heap.size w wr ∧ Hid (Arr wr w.heap.size (m + q + 1) o ∧ ShlInv lc q r k o)) (fun v7 _ _ => m - (intOf v7).toNat)
  case atStart => exact ⟨0, _, by omega, rfl, hb3, HAR.out, HI.out⟩
  case round =>
    obtain ⟨k, o, hk, rfl, hbw, HO⟩ := hrel
    by_cases km : k < m
    · obtain ⟨g, off, rfl, ca⟩ := HA.out _ k hv km
      have ca' := cell_below hbw ca
      have gx := GW.out k
      have HX := HN.out o k
      obtain ⟨x, hx⟩ : ∃ x, lc.getD k 0 = x := ⟨_, rfl⟩
      rw [hx] at ca' gx
      obtain ⟨X, hX⟩ : ∃ X, x * (2 : Int) ^ r = X := ⟨_, rfl⟩
      obtain ⟨j1, j2, j3, j4, j5, j6, j7⟩ := HX x X HO.out.2 km hx hX
      have cz := HO.out.1.cell (j := k + q) (by omega)
      have c1 := (HO.out.1.set (k + q) (o.getD (k + q) 0 + X % 4294967296)).cell (j := k + q + 1) (by omega)
      have hlen := HO.out.1.len
      have ez : (o.set (k + q) (o.getD (k + q) 0 + X % 4294967296)).getD (k + q + 1) 0 = 0 := by
        rw [getD_set (by omega), if_neg (by omega)]; exact HO.out.2.2.2.2.1 _ (by omega)
      rw [ez] at c1
      have f1 := HO.out.1.frozen (k + q)
      have f2 := (HO.out.1.set (k + q) (o.getD (k + q) 0 + X % 4294967296)).frozen (k + q + 1)
      have HZ := Lib.hid ((HO.out.1.set (k + q) (o.getD (k + q) 0 + X % 4294967296)).set (k + q + 1) (X / 4294967296))
      obtain ⟨z, hz⟩ : ∃ z, o.getD (k + q) 0 = z := ⟨_, rfl⟩
      simp only [hz] at j1 j2 j3 j4 j7 cz c1 f2 HZ
      have H7 := Lib.hid j7
      have or0 := or32_zero (y := X / 4294967296) ⟨by omega, by omega⟩
      clear hz hx ca j7 HX ez hlen
      go_wp2
      go_roundw
      case rel => exact ⟨k + 1, _, by omega, by go_num, (hbw.setCell (Nat.le_refl _) _).setCell (Nat.le_refl _) _, HZ.out, H7.out⟩
      case measure => simp [intOf]; omega
    · have E := HE.out o k HO.out.2 (by omega)
      have HW := Lib.hid E
      have HR := Lib.hid HO.out.1.rd
      have HPP := HP.out
      clear E
      go_wp2_with (go_at_call 155; refine (rnorm_c _ _ _ o _ HR.out HW.out.1 (by omega)).mono ?_; rintro e1 w5 ⟨v, rfl, hv5, hb5⟩; rw [HW.out.2] at hv5; obtain ⟨a5, c5, rfl⟩ := Rd.len hv5)
      go_ret2
      exact ⟨_, rfl, hv5, btn hbw hb5⟩
/-- A shift to the right on its way. -/
def ShrInv (la : List Int) (q r k : Nat) (o : List Int) : Prop := o.length = k ∧ Words o ∧ wv o = wv (la.drop q) / 2 ^ r % 2 ^ (32 * k)
theorem shrInv_zero (la : List Int) (q r : Nat) : ShrInv la q r 0 [] := ⟨rfl, words_nil, by rw [Nat.mul_zero, Nat.pow_zero, Nat.mod_one]; rfl⟩
theorem getD_drop (la : List Int) (q k : Nat) : (la.drop q).getD k 0 = la.getD (q + k) 0 := by
  rw [List.getD_eq_getElem?_getD, List.getD_eq_getElem?_getD, List.getElem?_drop]
theorem shrInv_next {la o : List Int} {q r k : Nat} {X Y : Int} (wa : Words la) (hr : r < 32) (I : ShrInv la q r k o) (hX : X = la.getD (q + k) 0 + 4294967296 * la.getD (q + k + 1) 0) (hY : X / (2 : Int) ^ r = Y) : 0 ≤ Y ∧ Y < 18446744073709551616 ∧ ShrInv la q r (k + 1) (o ++ [Y % 4294967296]) := by
  obtain ⟨h1, h2, h3⟩ := I
  have wb := words_drop wa q
  have s := shr_step wb h1 hr h3
  rw [getD_drop, getD_drop, ← Nat.add_assoc] at s
  have g0 := getD_word wa (q + k)
  have g1 := getD_word wa (q + k + 1)
  have p : ((2 : Int) ^ r) = ((2 ^ r : Nat) : Int) := by rw [Int.natCast_pow]; rfl
  have e : Y = ((((la.getD (q + k) 0).toNat + 4294967296 * (la.getD (q + k + 1) 0).toNat) / 2 ^ r : Nat) : Int) := by
    rw [← hY, hX, p, Int.natCast_ediv]; congr 1; omega
  have l := Nat.div_le_self ((la.getD (q + k) 0).toNat + 4294967296 * (la.getD (q + k + 1) 0).toNat) (2 ^ r)
  generalize ((la.getD (q + k) 0).toNat + 4294967296 * (la.getD (q + k + 1) 0).toNat) / 2 ^ r = Z at *
  subst e
  refine ⟨by omega, by omega, by rw [List.length_append, h1]; rfl, words_snoc h2 (by omega) (by omega), ?_⟩
  rw [← s]; rfl
theorem shrInv_end {la o : List Int} {q r s : Nat} {k : Nat} (wa : Words la) (I : ShrInv la q r k o) (hk : la.length ≤ q + k) (hs : 32 * q + r = s) (hr : r < 32) : Words o ∧ wv o = wv la / 2 ^ s := by
  obtain ⟨h1, h2, h3⟩ := I
  refine ⟨h2, ?_⟩
  have hl : (la.drop q).length ≤ k := by rw [List.length_drop]; omega
  have e : wv (la.drop q) / 2 ^ r % 2 ^ (32 * k) = wv (la.drop q) / 2 ^ r := by
    apply Nat.mod_eq_of_lt
    refine Nat.lt_of_le_of_lt (Nat.div_le_self _ _) (Nat.lt_of_lt_of_le (wv_lt (words_drop wa q)) (pow_le ?_))
    omega
  have q0 : s / 32 = q := by omega
  have r0 : s % 32 = r := by omega
  have := shr_all wa s
  rw [q0, r0] at this
  rw [h3, e, this]
def ShrRel (w : World) (lc : List Int) (m q r : Nat) (v9 v10 : Value) (wr : World) : Prop := ∃ (k i : Nat) (o : List Int) (a2 : Option Addr) (c2 : Nat), k ≤ m - q ∧ i ≤ 4000 ∧ v9 = .slice a2 k c2 ∧ v10 = .int .i64 (i : Int) ∧ Hid (i = q + k) ∧ Below w.heap.size w wr ∧ Hid (wr.ownsRow w.heap.size 40 1 (.slice a2 k c2) k (o.map (Value.int .u32)) ∧ ShrInv lc q r k o)
set_option maxRecDepth 100000 in
set_option maxHeartbeats 2000000 in
theorem rshr_c (a : Option Addr) (n c : Nat) (la : List Int) (s : Nat) (w : World) (ha : Rd w .u32 (.slice a n c) la) (wa : Words la) (hn : n ≤ 1000000) (hs : s ≤ 1000000000) (hb : bl (wv la) ≤ 64000) :
    Calls Tryz.prog 120 #[.slice a n c, .int .i64 (-(s : Int))] w fun e w' => ∃ v, e = .returned (.tuple #[v, .int .i64 0]) ∧ Nw w' v (wv la / 2 ^ s) ∧ Below w.heap.size w w' := by
  have HL := rlarge_c a n c la w ha wa (by omega)
  rw [show decide (64000 < bl (wv la)) = false from decide_eq_false (by omega)] at HL
  have HL := Lib.hid HL
  have HT := Lib.hid (rtrim_c a n c la w ha wa (by omega))
  have la' := ws_len_le (len_bound wa)
  have hm2 : (ws (wv la)).length ≤ 2000 := ws_len_le (by omega)
  have na := ha.parts.1
  obtain ⟨A, hA⟩ : ∃ A, wv la = A := ⟨_, rfl⟩
  rw [hA] at HT la' hb hm2 ⊢
  obtain ⟨S, hS⟩ : ∃ S : Int, (s : Int) = S := ⟨_, rfl⟩
  by_cases big : 64000 ≤ s
  · have e0 : A / 2 ^ s = 0 := Nat.div_eq_of_lt (Nat.lt_of_lt_of_le (bl_lt A) (pow_le (by omega)))
    have HZ := Lib.hid e0
    have hS1 : 64000 ≤ S := by omega
    have hS2 : S ≤ 1000000000 := by omega
    rw [hS]
    clear hA ha wa na hS e0 hb la' hm2
    go_enter Tryz.func120, Tryz.ntmps120
    go_wp2_with (first
      | (go_at_call 153; (with_reducible refine (HL.out).mono ?_); rintro e1 w1 ⟨rfl, rfl⟩)
      | (go_at_call 154; (with_reducible refine (HT.out).mono ?_); rintro e1 w1 ⟨rfl, hv, rfl⟩))
    go_ret2
    exact ⟨_, rfl, by rw [HZ.out]; unfold Nw; rw [ws_zero]; exact Rd.nil _ _ _, Below.refl _ _⟩
  have w2 := words_ws A
  have A0 : wv (ws A) = A := wv_ws A
  have HA := Lib.hid (fun (w1 : World) (k : Nat) (hv : Nw w1 (.slice a (ws A).length c) A) (h : k < (ws A).length) => show ∃ g off, a = some ⟨g, off, none⟩ ∧ w1.cell? ⟨g, off + k, none⟩ = some (.int .u32 ((ws A).getD k 0)) by
    obtain ⟨g, off, e, hc⟩ := hv.addr (by omega); exact ⟨g, off, e, hc k h⟩)
  obtain ⟨lc, hlc⟩ : ∃ lc, ws A = lc := ⟨_, rfl⟩
  rw [hlc] at HA la' w2 HT A0 hm2
  obtain ⟨m, hm⟩ : ∃ m, lc.length = m := ⟨_, rfl⟩
  rw [hm] at HA la' HT hm2
  obtain ⟨q, hq⟩ : ∃ q, s / 32 = q := ⟨_, rfl⟩
  obtain ⟨r, hr⟩ : ∃ r, s % 32 = r := ⟨_, rfl⟩
  have q0 : S / 32 = (q : Int) := by omega
  have r0 : S % 32 = (r : Int) := by omega
  have hS0 : 0 ≤ S := by omega
  have hS1 : S < 64000 := by omega
  have hqb : q ≤ 2000 := by omega
  have hr32 : r < 32 := by omega
  have hsum : 32 * q + r = s := by omega
  have HI := Lib.hid (shrInv_zero lc q r)
  have HN := Lib.hid (fun (o : List Int) (k : Nat) (X Y : Int) (I : ShrInv lc q r k o) => @shrInv_next lc o q r k X Y w2 hr32 I)
  have HE := Lib.hid (fun (o : List Int) (k : Nat) (I : ShrInv lc q r k o) (hk : m ≤ q + k) => show Words o ∧ wv o = A / 2 ^ s by
    have := shrInv_end (s := s) w2 I (by omega) hsum hr32
    rw [A0] at this; exact this)
  have GW := Lib.hid (fun k => getD_word w2 k)
  have ZW := Lib.hid (fun (k : Nat) (h : m ≤ k) => @getD0 lc k (by omega))
  obtain ⟨N, hN⟩ : ∃ N, A / 2 ^ s = N := ⟨_, rfl⟩
  rw [hN] at HE ⊢
  rw [hS]
  clear hN hA ha wa na hq hr hS hm hlc A0 w2 hsum hb big
  go_enter Tryz.func120, Tryz.ntmps120
  go_wp2_with (first
    | (go_at_call 153; (with_reducible refine (HL.out).mono ?_); rintro e1 w1 ⟨rfl, rfl⟩)
    | (go_at_call 154; (with_reducible refine (HT.out).mono ?_); rintro e1 w1 ⟨rfl, hv, rfl⟩))
  have HQ0 := Lib.hid q0
  clear q0
  go_loopw [9, 10, 11] (fun v9 v10 _ wr => ShrRel w lc m q r v9 v10 wr) (fun _ v10 _ _ => m - (intOf v10).toNat)
  case atStart => unfold ShrRel; exact ⟨0, q, [], none, 0, Nat.zero_le _, by omega, rfl, val_int HQ0.out, Lib.hid rfl, Below.refl _ _, World.ownsRow_nil _ _ _ _, HI.out⟩
  case round =>
    obtain ⟨k, i, o, a2, c2, hk, hi, rfl, rfl, HQ, hbw, HO⟩ := hrel
    by_cases km : i < m
    · obtain ⟨g, off, rfl, ca⟩ := HA.out _ i hv km
      have ca' := cell_below hbw ca
      have gx := GW.out i
      have gy := GW.out (i + 1)
      have HX := HN.out o k
      rw [← HQ.out] at HX
      have zy := ZW.out (i + 1)
      have hkb : k ≤ 2000 := by omega
      have hk2 := HQ.out
      have HK := Lib.hid (show k + 1 ≤ m - q by omega)
      clear hk hk2
      by_cases kn : i + 1 < m
      · obtain ⟨g2, off2, e2, cb⟩ := HA.out _ (i + 1) hv kn
        injection e2 with e2
        injection e2 with e2 e3
        subst e2 e3
        have cb' := cell_below hbw cb
        obtain ⟨x, hx⟩ : ∃ x, lc.getD i 0 = x := ⟨_, rfl⟩
        obtain ⟨y, hy⟩ : ∃ y, lc.getD (i + 1) 0 = y := ⟨_, rfl⟩
        rw [hx] at ca' gx HX
        rw [hy] at cb' gy HX
        have ol := or_low gx gy
        obtain ⟨X, hX⟩ : ∃ X, x + 4294967296 * y = X := ⟨_, rfl⟩
        have X0 : 0 ≤ X := by omega
        have X1 : X < 18446744073709551616 := by omega
        rw [hX] at ol HX
        obtain ⟨Y, hY⟩ : ∃ Y, X / (2 : Int) ^ r = Y := ⟨_, rfl⟩
        obtain ⟨y0, y1, hI⟩ := HX X Y HO.out.2 rfl hY
        have H7 := Lib.hid hI
        clear hx hy hX ca cb hI HX zy
        go_wp2_with (at_builtin; go_loud (refine wp_app 37 40 (.int .u32 0) 4 Tryz.underlying37 info_u32 rfl w.heap.size (.slice a2 k c2) k _ (.int .u32 (Y % 4294967296)) wr _ rfl (by rfl) (.tmp 115) (.tmp 121) (by rfl) (by rfl) (by rfl) HO.out.1 hbw.size rfl (by omega) (by decide) ?_); intro v' w' hown hbel)
        obtain ⟨a', c', rfl⟩ := ownsRow_slice hown
        have H := Lib.hid hown
        clear hown
        go_wp2
        go_roundw
        case rel =>
          unfold ShrRel
          refine ⟨k + 1, i + 1, o ++ [Y % 4294967296], a', c', HK.out, by omega, rfl, by go_num, Lib.hid (by rw [HQ.out]; rfl), hbw.trans hbel, ?_, H7.out⟩
          have := H.out
          rw [List.map_append]
          exact this
        case measure => simp [intOf]; omega
      · have zy := zy (by omega)
        rw [zy] at HX
        obtain ⟨x, hx⟩ : ∃ x, lc.getD i 0 = x := ⟨_, rfl⟩
        rw [hx] at ca' gx HX
        obtain ⟨Y, hY⟩ : ∃ Y, x / (2 : Int) ^ r = Y := ⟨_, rfl⟩
        obtain ⟨y0, y1, hI⟩ := HX x Y HO.out.2 (by omega) hY
        have H7 := Lib.hid hI
        clear hx ca hI HX zy gy
        go_wp2_with (at_builtin; go_loud (refine wp_app 37 40 (.int .u32 0) 4 Tryz.underlying37 info_u32 rfl w.heap.size (.slice a2 k c2) k _ (.int .u32 (Y % 4294967296)) wr _ rfl (by rfl) (.tmp 115) (.tmp 121) (by rfl) (by rfl) (by rfl) HO.out.1 hbw.size rfl (by omega) (by decide) ?_); intro v' w' hown hbel)
        obtain ⟨a', c', rfl⟩ := ownsRow_slice hown
        have H := Lib.hid hown
        clear hown
        go_wp2
        go_roundw
        case rel =>
          unfold ShrRel
          refine ⟨k + 1, i + 1, o ++ [Y % 4294967296], a', c', HK.out, by omega, rfl, by go_num, Lib.hid (by rw [HQ.out]; rfl), hbw.trans hbel, ?_, H7.out⟩
          have := H.out
          rw [List.map_append]
          exact this
        case measure => simp [intOf]; omega
    · have E := HE.out o k HO.out.2 (by have := HQ.out; omega)
      have HW := Lib.hid E
      have HR := Lib.hid (own_rd HO.out.1)
      have hkb : k ≤ 2000 := by omega
      clear E hk
      go_wp2_with (go_at_call 155; refine (rnorm_c _ _ _ o _ HR.out HW.out.1 (by omega)).mono ?_; rintro e1 w5 ⟨v, rfl, hv5, hb5⟩)
      go_ret2
      exact ⟨v, rfl, by rw [HW.out.2] at hv5; exact hv5, btn hbw hb5⟩
end Go.Proofs.YtkifdppppihjcaaGreat
