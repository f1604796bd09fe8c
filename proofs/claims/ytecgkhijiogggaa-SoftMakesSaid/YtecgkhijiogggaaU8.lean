/- The words of numbers: Divide of the reference. -/
import Derived.Test.YtecgkhijiogggaaU5
namespace Go.Proofs.Ytecgkhijiogggaa
set_option linter.unusedVariables false
set_option linter.unusedSimpArgs false
open Go.RowKit Go.ChangeShapes Go.WideShapes SF

theorem divInv_skip {la o : List Int} {D : Int} {p : Nat} {r T x : Int} (wa : Words la) (hD : 0 < D) (I : DivInv la D (p + 1) o r) (hp : p < la.length) (hx : la.getD p 0 = x) (hT : r * 4294967296 + x = T) (hlt : T < D) : DivInv la D p o T := by
  have h := divInv_next wa hD I hp hx hT
  have e0 : T / D = 0 := Int.ediv_eq_zero_of_lt h.1 hlt
  have e1 : T % D = T := Int.emod_eq_of_lt h.1 hlt
  rw [e0, e1] at h
  have e2 : o.set p 0 = o := by
    apply List.ext_getElem?
    intro i
    by_cases c : p = i
    · subst c
      have hl : p < o.length := by rw [I.2.1]; exact hp
      have := I.2.2.2.2.2 p (by omega)
      rw [List.getD_eq_getElem?_getD, List.getElem?_eq_getElem hl] at this
      rw [List.getElem?_set_self hl, List.getElem?_eq_getElem hl]
      exact congrArg some this.symm
    · rw [List.getElem?_set_ne c]
  rw [e2] at h
  exact h.2.2.2.2.2
/-- A word ahead of a number's words. -/
theorem cons_words (x : Nat) (R : Nat) (hx : x < 4294967296) : Words ((x : Int) :: ws R) ∧ wv ((x : Int) :: ws R) = R * 4294967296 + x := by
  refine ⟨words_cons.2 ⟨⟨by omega, by omega⟩, words_ws R⟩, ?_⟩
  rw [wv, wv_ws, Int.toNat_natCast]; omega
theorem rone_nw (w : World) (m : Nat) (hm : m < 4294967296) (t : TypeId) : Rd (w.alloc (.cells #[.int .u32 (m : Int)] t)) .u32 (.slice (some ⟨w.heap.size, 0, none⟩) 1 1) [(m : Int)] ∧ Words [(m : Int)] ∧ wv [(m : Int)] = m :=
  ⟨rd_one _ _ _, words_cons.2 ⟨⟨by omega, by omega⟩, words_nil⟩, wv_one m⟩
theorem rmul1 {w : World} {b : Option Addr} {n d B m : Nat} (hb : Nw w (.slice b n d) B) (hB : bl B ≤ 63900) (hm : m < 4294967296) (t : TypeId) : Calls Try.prog 80 #[.slice b n d, .slice (some ⟨w.heap.size, 0, none⟩) 1 1] (w.alloc (.cells #[.int .u32 (m : Int)] t)) (OneOk w (B * m)) := by
  have h1 := rone_nw w m hm t
  have hb1 : Nw (w.alloc (.cells #[.int .u32 (m : Int)] t)) (.slice b n d) B := hb.below ((Below.refl _ _).alloc (Nat.le_refl _) _)
  have bm : bl m ≤ 32 := bl_le_of_lt (k := 32) (by rw [show (2 : Nat) ^ 32 = 4294967296 by decide]; exact hm)
  have := rmul_c b n d (ws B) (some ⟨w.heap.size, 0, none⟩) 1 1 [(m : Int)] _ hb1 (words_ws B) (by have := hb.sz (k := 2000) (by omega); omega) h1.1 h1.2.1 (by decide) (by rw [wv_ws, h1.2.2]; omega)
  rw [wv_ws, h1.2.2] at this
  refine this.mono ?_
  rintro e w' ⟨v, rfl, hv, hb2⟩
  obtain ⟨a, n, c, rfl⟩ := hv.slice
  exact ⟨a, n, c, rfl, hv, btn ((Below.refl _ _).alloc (Nat.le_refl _) _) hb2⟩
theorem Arr.lt {w : World} {G n : Nat} {o : List Int} (h : Arr w G n o) : G < w.heap.size := (World.ownsRow.lt h G rfl).2
theorem new_at {w w' : World} {v : Value} (h : New w' v) (hs : w.heap.size ≤ w'.heap.size) : New w v := fun g hg => Nat.le_trans hs (h g hg)
/-- Three values. -/
def Two3 (w : World) (N M : Nat) (e : Ending) (w' : World) : Prop := ∃ a n c b m d, e = .returned (.tuple #[.slice a n c, .slice b m d, .int .i64 0]) ∧ Nw w' (.slice a n c) N ∧ Nw w' (.slice b m d) M ∧ Below w.heap.size w w'
def DivRel (w : World) (la : List Int) (n G B : Nat) (v10 v11 : Value) (wr : World) : Prop := ∃ (p R n5 c5 : Nat) (o : List Int) (a5 : Option Addr), p ≤ n ∧ R < B ∧ v10 = .slice a5 n5 c5 ∧ v11 = .int .i64 ((p : Int) - 1) ∧ Below w.heap.size w wr ∧ Hid (Arr wr G n o ∧ DivInv la (B : Int) p o (R : Int) ∧ Nw wr (.slice a5 n5 c5) R)
def HalfRel (w : World) (B T : Nat) (v12 v13 : Value) (wr : World) : Prop := ∃ lo hi : Nat, 1 ≤ lo ∧ lo ≤ hi ∧ hi < 4294967296 ∧ v12 = .int .u64 (lo : Int) ∧ v13 = .int .u64 (hi : Int) ∧ Below w.heap.size w wr ∧ Hid (lo * B ≤ T ∧ T < (hi + 1) * B)
set_option maxRecDepth 100000 in
set_option maxHeartbeats 4000000 in
theorem rdiv_small {w : World} {a b : Option Addr} {n c m d A B : Nat} (ha : Nw w (.slice a n c) A) (hA : bl A ≤ 64000) (hb : Nw w (.slice b m d) B) (hB : B < 4294967296) (h0 : B ≠ 0) : Calls Try.prog 109 #[.slice a n c, .slice b m d] w fun e w' => ∃ a n c b m d, e = .returned (.tuple #[.slice a n c, .slice b m d, .int .i64 0]) ∧ Nw w' (.slice a n c) (A / B) ∧ Nw w' (.slice b m d) (A % B) ∧ Below w.heap.size w w' := by
  have bB : bl B ≤ 32 := bl_le_of_lt (k := 32) (by rw [show (2 : Nat) ^ 32 = 4294967296 by decide]; exact hB)
  have sa := ha.sz (k := 2000) hA
  have HL1 := rlarge_c a n c (ws A) w ha (words_ws A) (by omega)
  have HL2 := rlarge_c b m d (ws B) w hb (words_ws B) (by have := hb.sz (k := 1) bB; omega)
  have HT1 := rtrim_c a n c (ws A) w ha (words_ws A) (by omega)
  have HT2 := rtrim_c b m d (ws B) w hb (words_ws B) (by have := hb.sz (k := 1) bB; omega)
  have e1 : n = (ws A).length := (Rd.parts ha).1
  have e2 : m = (ws B).length := (Rd.parts hb).1
  rw [wv_ws, show decide (64000 < bl A) = false from decide_eq_false (by omega)] at HL1
  rw [wv_ws, show decide (64000 < bl B) = false from decide_eq_false (by omega)] at HL2
  rw [wv_ws, ← e1] at HT1
  rw [wv_ws, ← e2] at HT2
  have m1 : m = 1 := by rw [e2, ws_small hB h0]; rfl
  subst m1
  obtain ⟨g, off, rfl, cb⟩ := Rd.addr hb (by decide)
  have cb := cb 0 (by decide)
  rw [ws_small hB h0, Nat.add_zero] at cb
  have HS := rsmall_c a n c (ws A) B w ha (words_ws A) (by omega) (by omega) hB
  rw [wv_ws] at HS
  have HL1 := Lib.hid HL1
  have HL2 := Lib.hid HL2
  have HT1 := Lib.hid HT1
  have HT2 := Lib.hid HT2
  have HS := Lib.hid HS
  have cb1 : w.cell? ⟨g, off, none⟩ = some (.int .u32 (B : Int)) := cb
  clear cb e1 e2 h0 hB bB ha hb
  go_enter Try.func109, Try.ntmps109
  go_wp2_with (first
    | (go_at_call 111; (with_reducible refine (HL1.out).mono ?_); rintro e1 w1 ⟨rfl, rfl⟩)
    | (go_at_call 111; (with_reducible refine (HL2.out).mono ?_); rintro e1 w1 ⟨rfl, rfl⟩)
    | (go_at_call 110; (with_reducible refine (HT1.out).mono ?_); rintro e1 w1 ⟨rfl, hva, rfl⟩)
    | (go_at_call 110; (with_reducible refine (HT2.out).mono ?_); rintro e1 w1 ⟨rfl, hvb, rfl⟩)
    | (go_at_call 120; (with_reducible refine (HS.out).mono ?_); rintro e1 w1 ⟨v, u, rfl, hv, hu, hb1⟩; obtain ⟨a1, n1, c1, rfl⟩ := hv.slice; obtain ⟨a2, n2, c2, rfl⟩ := hu.slice))
  go_ret3
  exact ⟨_, _, _, _, _, _, rfl, hv, hu, hb1⟩
theorem cmp_lt0 {A B : Nat} (h : A < B) : cmpI (A : Int) (B : Int) < 0 := by rw [cmpN_lt h]; decide
theorem cmp_ge0 {A B : Nat} (h : B ≤ A) : ¬ cmpI (A : Int) (B : Int) < 0 := by
  rcases Nat.lt_or_ge B A with g | g
  · rw [cmpN_gt g]; decide
  · rw [cmpN_eq (by omega)]; decide
theorem cmp_le0 {A B : Nat} (h : A ≤ B) : cmpI (A : Int) (B : Int) ≤ 0 := by
  rcases Nat.lt_or_ge A B with g | g
  · rw [cmpN_lt g]; decide
  · rw [cmpN_eq (by omega)]; decide
theorem cmp_gt0 {A B : Nat} (h : B < A) : ¬ cmpI (A : Int) (B : Int) ≤ 0 := by rw [cmpN_gt h]; decide
set_option maxRecDepth 100000 in
set_option maxHeartbeats 8000000 in
theorem rdiv_great {w : World} {a b : Option Addr} {n c m d A B : Nat} (ha : Nw w (.slice a n c) A) (hA : bl A ≤ 64000) (hb : Nw w (.slice b m d) B) (hB : 4294967296 ≤ B) (bB : bl B ≤ 63900) : Calls Try.prog 109 #[.slice a n c, .slice b m d] w fun e w' => ∃ a n c b m d, e = .returned (.tuple #[.slice a n c, .slice b m d, .int .i64 0]) ∧ Nw w' (.slice a n c) (A / B) ∧ Nw w' (.slice b m d) (A % B) ∧ Below w.heap.size w w' := by
  have sa := ha.sz (k := 2000) hA
  have sb := hb.sz (k := 2000) (by omega)
  have HL1 := rlarge_c a n c (ws A) w ha (words_ws A) (by omega)
  have HL2 := rlarge_c b m d (ws B) w hb (words_ws B) (by omega)
  have HT1 := rtrim_c a n c (ws A) w ha (words_ws A) (by omega)
  have HT2 := rtrim_c b m d (ws B) w hb (words_ws B) (by omega)
  have e1 : n = (ws A).length := (Rd.parts ha).1
  have e2 : m = (ws B).length := (Rd.parts hb).1
  rw [wv_ws, show decide (64000 < bl A) = false from decide_eq_false (by omega)] at HL1
  rw [wv_ws, show decide (64000 < bl B) = false from decide_eq_false (by omega)] at HL2
  rw [wv_ws, ← e1] at HT1
  rw [wv_ws, ← e2] at HT2
  have m2 : 2 ≤ m := by
    rw [e2, ws_length]
    have := lt_bl_of_le (n := B) (k := 32) (by rw [show (2 : Nat) ^ 32 = 4294967296 by decide]; exact hB)
    omega
  have HL1 := Lib.hid HL1
  have HL2 := Lib.hid HL2
  have HT1 := Lib.hid HT1
  have HT2 := Lib.hid HT2
  have wa := words_ws A
  have A0 : wv (ws A) = A := wv_ws A
  have HA := Lib.hid (fun (k : Nat) (h : k < n) => show ∃ g off, a = some ⟨g, off, none⟩ ∧ w.cell? ⟨g, off + k, none⟩ = some (.int .u32 ((ws A).getD k 0)) by
    obtain ⟨g, off, e, hc⟩ := Rd.addr ha (by omega); exact ⟨g, off, e, hc k h⟩)
  obtain ⟨lx, hlx⟩ : ∃ l, ws A = l := ⟨_, rfl⟩
  rw [hlx] at HA wa A0 e1
  have D0 : (0 : Int) < (B : Int) := by omega
  have HI := divInv_zero lx D0
  rw [← e1] at HI
  have HI := Lib.hid HI
  have HN := Lib.hid (fun (o : List Int) (p : Nat) (r T x : Int) (I : DivInv lx (B : Int) (p + 1) o r) (hp : p < n) => @divInv_next lx o (B : Int) p r T x wa D0 I (by omega))
  have HK := Lib.hid (fun (o : List Int) (p : Nat) (r T x : Int) (I : DivInv lx (B : Int) (p + 1) o r) (hp : p < n) => @divInv_skip lx o (B : Int) p r T x wa D0 I (by omega))
  have HE := Lib.hid (fun (o : List Int) (r : Nat) (I : DivInv lx (B : Int) 0 o (r : Int)) => show Words o ∧ wv o = A / B ∧ r = A % B by
    have := divInv_end I
    rw [A0] at this
    exact ⟨this.1, this.2.1, by have := this.2.2; omega⟩)
  have GX := Lib.hid (fun k => getD_word wa k)
  obtain ⟨N, hN⟩ : ∃ N, A / B = N := ⟨_, rfl⟩
  obtain ⟨M, hM⟩ : ∃ N, A % B = N := ⟨_, rfl⟩
  rw [hN, hM] at HE ⊢
  have Hb := Lib.hid hb
  have HBB := Lib.hid bB
  have HB0 := Lib.hid hB
  clear hN hM ha hb hA hB bB e1 e2 hlx A0 wa
  go_enter Try.func109, Try.ntmps109
  go_wp2_with (first
    | (go_at_call 111; (with_reducible refine (HL1.out).mono ?_); rintro e1 w1 ⟨rfl, rfl⟩)
    | (go_at_call 111; (with_reducible refine (HL2.out).mono ?_); rintro e1 w1 ⟨rfl, rfl⟩)
    | (go_at_call 110; (with_reducible refine (HT1.out).mono ?_); rintro e1 w1 ⟨rfl, hva, rfl⟩)
    | (go_at_call 110; (with_reducible refine (HT2.out).mono ?_); rintro e1 w1 ⟨rfl, hvb, rfl⟩)
    | (at_make; go_loud (refine wp_make 41 Try.underlying41 info_u32 w rfl (.tmp 46) rfl _ n rfl (by omega) (by omega) ?_); intro w3 harr hb3))
  have HAR := Lib.hid harr
  clear harr
  go_loopw [10, 11, 12, 13, 14, 15, 16, 17, 18] (fun v10 v11 _ _ _ _ _ _ _ wr => DivRel w lx n w.heap.size B v10 v11 wr) (fun _ v11 _ _ _ _ _ _ _ _ => (intOf v11 + 1).toNat)
  case atStart => unfold DivRel; exact ⟨n, 0, 0, 0, _, none, Nat.le_refl _, by omega, rfl, rfl, hb3, HAR.out, HI.out, by unfold Nw; rw [ws_zero]; exact Rd.nil _ _ _⟩
  case round =>
    obtain ⟨p, R, n5, c5, o, a5, hp, hR, rfl, rfl, hbw, HO⟩ := hrel
    cases p with
    | zero =>
      have HW := HE.out o R HO.out.2.1
      have HW1 := Lib.hid HW.1
      have HW2 := Lib.hid HW.2.1
      have HW3 := Lib.hid HW.2.2
      have HC1 := Lib.hid (rnorm_c _ n n o _ HO.out.1.rd HW.1 (by omega))
      clear HW
      go_wp2_with (go_at_call 106; (with_reducible refine (HC1.out).mono ?_); rintro e1 w5 ⟨v, rfl, hv5, hb5⟩; rw [HW2.out] at hv5; obtain ⟨a6, n6, c6, rfl⟩ := hv5.slice)
      go_ret3
      exact ⟨_, _, _, _, _, _, rfl, hv5, by rw [← HW3.out]; exact HO.out.2.2.below hb5, btn hbw hb5⟩
    | succ i =>
      obtain ⟨g, off, rfl, ca⟩ := HA.out i (by omega)
      have ca' := cell_below hbw ca
      have gx := GX.out i
      obtain ⟨x, hx⟩ : ∃ x, lx.getD i 0 = x := ⟨_, rfl⟩
      rw [hx] at ca' gx
      obtain ⟨X, rfl⟩ := Int.eq_ofNat_of_zero_le gx.1
      have hX : X < 4294967296 := by omega
      have cw := cons_words X R hX
      have hn5 := HO.out.2.2.sz (k := 2000) (by have := bl_mono (Nat.le_of_lt hR); have := HBB.out; omega)
      have hlen := (Rd.parts HO.out.2.2).1
      have bT : bl (R * 4294967296 + X) ≤ 63932 := by
        apply bl_le_of_lt
        have h1 := bl_lt B
        have h2 : R * 4294967296 + X < B * 4294967296 := by omega
        calc R * 4294967296 + X < B * 4294967296 := h2
          _ ≤ 2 ^ bl B * 4294967296 := Nat.mul_le_mul_right _ (Nat.le_of_lt h1)
          _ = 2 ^ (bl B + 32) := by rw [Nat.pow_add]
          _ ≤ 2 ^ 63932 := pow_le (by have := HBB.out; omega)
      have HNX := Lib.hid (fun (T : Nat) (hT : R * 4294967296 + X = T) => HN.out o i (R : Int) (T : Int) (X : Int) HO.out.2.1 (by omega) hx (by omega))
      have HKX := Lib.hid (fun (T : Nat) (hT : R * 4294967296 + X = T) (h : (T : Int) < (B : Int)) => HK.out o i (R : Int) (T : Int) (X : Int) HO.out.2.1 (by omega) hx (by omega) h)
      obtain ⟨T, hT⟩ : ∃ T, R * 4294967296 + X = T := ⟨_, rfl⟩
      have HNX := Lib.hid (HNX.out T hT)
      have HKX := Lib.hid (HKX.out T hT)
      rw [hT] at cw bT
      have HRD := Lib.hid (Rd.below HO.out.2.2 ((Below.refl _ wr).alloc (Nat.le_refl _) (.cells #[.int .u32 (X : Int)] 35)))
      have HGB := Lib.hid (fun w' (h : World.grownBy (wr.alloc (.cells #[.int .u32 (X : Int)] 35)) w' (Value.slice (some ⟨wr.heap.size, 0, none⟩) 1 1).ownBlock) => show Below wr.heap.size wr w' from
        ((Below.refl _ wr).alloc (Nat.le_refl _) _).trans (grown_below (e := 35) h (World.ownsRow_lit wr #[.int .u32 (X : Int)] 1 (Nat.le_refl _) (by decide) rfl) (by simp)))
      have HCW := Lib.hid cw
      have HCMP := Lib.hid (fun (w5 : World) (a6 : Option Addr) (n6 c6 : Nat) (h : Nw w5 (.slice a6 n6 c6) T) (hw : Below w.heap.size w w5) => rcmp_n h (by omega) (Hb.out.below hw) (by have := HBB.out; omega))
      have HMUL := Lib.hid (fun (w1 : World) (K : Nat) (hK : K < 4294967296) (hw : Below w.heap.size w w1) => rmul1 (Hb.out.below hw) HBB.out hK 35)
      have HCMP2 := Lib.hid (fun (w5 : World) (a6 : Option Addr) (n6 c6 : Nat) (a7 : Option Addr) (n7 c7 K : Nat) (h : Nw w5 (.slice a6 n6 c6) T) (h7 : Nw w5 (.slice a7 n7 c7) (B * K)) (hK : K < 4294967296) => rcmp_n h7 (by
        have := bl_mulb (Nat.le_refl (bl B)) (show bl K ≤ 32 from bl_le_of_lt (k := 32) (by rw [show (2 : Nat) ^ 32 = 4294967296 by decide]; exact hK))
        have := HBB.out; omega) h (by omega))
      have HT := Lib.hid bT
      have hlen' : n5 ≤ 2000 := hn5
      have HL := Lib.hid (show 1 + (ws R).length < 1000000000000 by omega)
      have HL2 := Lib.hid (show 1 + (ws R).length ≤ 100000000 by omega)
      have HTB := Lib.hid (show T < 4294967296 * B by omega)
      clear hx ca hn5 hlen bT hT cw
      by_cases lt : T < B
      · have hc := cmp_lt0 lt
        obtain ⟨c0, hc0⟩ : ∃ c0, cmpI (T : Int) (B : Int) = c0 := ⟨_, rfl⟩
        rw [hc0] at HCMP hc
        have HS := Lib.hid (HKX.out (by omega))
        clear hc0
        go_wp2_with (first
          | (at_builtin; go_loud (refine wp_apps 41 35 (.int .u32 0) 4 Try.underlying41 info_u32 rfl wr.heap.size (.slice (some ⟨wr.heap.size, 0, none⟩) 1 1) 1 [.int .u32 (X : Int)] rfl (.tmp 59) (.tmp 60) (by rfl) (by rfl) (World.ownsRow_lit wr #[.int .u32 (X : Int)] 1 (Nat.le_refl _) (by decide) rfl) (by simp) .u32 (.slice a5 n5 c5) (ws R) (by rfl) HRD.out HL.out (by decide) ?_); intro v' w4 hown hg hv; obtain ⟨a', c', rfl⟩ := ownsRow_slice hown; have HOWN := Lib.hid hown; have hb4 := HGB.out w4 hg; clear hown hg hv)
          | (go_at_call 106; refine (rnorm_c _ _ _ ((X : Int) :: ws R) _ (own_rd HOWN.out) HCW.out.1 HL2.out).mono ?_; rintro e1 w5 ⟨v, rfl, hv5, hb5⟩; rw [HCW.out.2] at hv5; obtain ⟨a6, n6, c6, rfl⟩ := hv5.slice)
          | (go_at_call 81; refine (HCMP.out _ _ _ _ hv5 (btn hbw (btn hb4 hb5))).mono ?_; rintro e1 w6 ⟨rfl, hb6⟩))
        go_roundw
        case rel =>
          unfold DivRel
          exact ⟨i, T, n6, c6, o, a6, by omega, lt, rfl, rfl, btn hbw (btn hb4 (btn hb5 hb6)), HO.out.1.below (btn hb4 (btn hb5 hb6)), HS.out, hv5.below hb6⟩
        case measure => simp [intOf]
      · have hc := cmp_ge0 (show B ≤ T by omega)
        obtain ⟨c0, hc0⟩ : ∃ c0, cmpI (T : Int) (B : Int) = c0 := ⟨_, rfl⟩
        rw [hc0] at HCMP hc
        clear hc0
        go_wp2_with (first
          | (at_builtin; go_loud (refine wp_apps 41 35 (.int .u32 0) 4 Try.underlying41 info_u32 rfl wr.heap.size (.slice (some ⟨wr.heap.size, 0, none⟩) 1 1) 1 [.int .u32 (X : Int)] rfl (.tmp 59) (.tmp 60) (by rfl) (by rfl) (World.ownsRow_lit wr #[.int .u32 (X : Int)] 1 (Nat.le_refl _) (by decide) rfl) (by simp) .u32 (.slice a5 n5 c5) (ws R) (by rfl) HRD.out HL.out (by decide) ?_); intro v' w4 hown hg hv; obtain ⟨a', c', rfl⟩ := ownsRow_slice hown; have HOWN := Lib.hid hown; have hb4 := HGB.out w4 hg; clear hown hg hv)
          | (go_at_call 106; refine (rnorm_c _ _ _ ((X : Int) :: ws R) _ (own_rd HOWN.out) HCW.out.1 HL2.out).mono ?_; rintro e1 w5 ⟨v, rfl, hv5, hb5⟩; rw [HCW.out.2] at hv5; obtain ⟨a6, n6, c6, rfl⟩ := hv5.slice)
          | (go_at_call 81; refine (HCMP.out _ _ _ _ hv5 (btn hbw (btn hb4 hb5))).mono ?_; rintro e1 w6 ⟨rfl, hb6⟩))
        have hbs := btn hb4 (btn hb5 hb6)
        have hv6 := hv5.below hb6
        clear hb4 hb5 hb6 hv5
        go_loopw [12, 13, 14, 15, 16] (fun v12 v13 _ _ _ wq => HalfRel w6 B T v12 v13 wq) (fun v12 v13 _ _ _ _ => (intOf v13 - intOf v12).toNat)
        case atStart => unfold HalfRel; exact ⟨1, 4294967295, by decide, by decide, by decide, rfl, rfl, Below.refl _ _, by omega, by have := HTB.out; omega⟩
        case round =>
          obtain ⟨lo, hi, l1, l2, l3, rfl, rfl, hbq, HH⟩ := hrel
          by_cases hlo : lo < hi
          · obtain ⟨K, hK⟩ : ∃ K : Nat, (lo + hi + 1) / 2 = K := ⟨_, rfl⟩
            have eK : ((lo : Int) + (hi : Int) + 1) / 2 = (K : Int) := by omega
            have k1 : K < 4294967296 := by omega
            have k2 : lo < K := by omega
            have k3 : K ≤ hi := by omega
            have HMK := Lib.hid (HMUL.out _ K k1 (btn (btn hbw hbs) hbq))
            have HC2 := Lib.hid (fun w5 a7 n7 c7 h h7 => HCMP2.out w5 a6 n6 c6 a7 n7 c7 K h h7 k1)
            clear hK
            by_cases le : B * K ≤ T
            · have hc2 := cmp_le0 le
              obtain ⟨c1, hc1⟩ : ∃ c1, cmpI ((B * K : Nat) : Int) (T : Int) = c1 := ⟨_, rfl⟩
              rw [hc1] at hc2 HC2
              have HLE := Lib.hid le
              clear hc1 le
              go_wp2_with (first
                | (go_at_call 80; refine (HMK.out).mono ?_; rintro e1 w7 ⟨a7, n7, c7, rfl, hv7, hb7⟩)
                | (go_at_call 81; refine (HC2.out _ _ _ _ ((hv6.below hbq).below hb7) hv7).mono ?_; rintro e1 w8 ⟨rfl, hb8⟩))
              go_roundw
              case rel =>
                unfold HalfRel
                exact ⟨K, hi, by omega, k3, l3, rfl, rfl, btn hbq (btn hb7 hb8), by rw [Nat.mul_comm]; exact HLE.out, HH.out.2⟩
              case measure => simp [intOf]; omega
            · have hc2 := cmp_gt0 (show T < B * K by omega)
              obtain ⟨c1, hc1⟩ : ∃ c1, cmpI ((B * K : Nat) : Int) (T : Int) = c1 := ⟨_, rfl⟩
              rw [hc1] at hc2 HC2
              have HLE := Lib.hid le
              clear hc1 le
              go_wp2_with (first
                | (go_at_call 80; refine (HMK.out).mono ?_; rintro e1 w7 ⟨a7, n7, c7, rfl, hv7, hb7⟩)
                | (go_at_call 81; refine (HC2.out _ _ _ _ ((hv6.below hbq).below hb7) hv7).mono ?_; rintro e1 w8 ⟨rfl, hb8⟩))
              go_roundw
              case rel =>
                unfold HalfRel
                refine ⟨lo, K - 1, l1, by omega, by omega, rfl, val_int (by omega), btn hbq (btn hb7 hb8), HH.out.1, ?_⟩
                have := HLE.out
                rw [show K - 1 + 1 = K by omega, Nat.mul_comm]; omega
              case measure => simp [intOf]; omega
          · obtain rfl : lo = hi := by omega
            have he := half_end HH.out.1 HH.out.2
            have HL3 := Lib.hid (show B * lo ≤ T by rw [Nat.mul_comm]; exact HH.out.1)
            have HQ := Lib.hid (show T - B * lo = T % B by rw [Nat.mul_comm]; exact he.2)
            have HZ := Lib.hid (show DivInv lx (B : Int) i (o.set i (lo : Int)) ((T % B : Nat) : Int) by
              have := HNX.out.2.2.2.2.2
              rw [← Int.natCast_ediv, he.1, ← Int.natCast_emod] at this
              exact this)
            have HMK := Lib.hid (HMUL.out _ lo l3 (btn (btn hbw hbs) hbq))
            have HA6 := HO.out.1.below (btn hbs hbq)
            have HAA := Lib.hid HA6
            have HB1 : 0 < B := by have := HB0.out; omega
            have HMOD := Lib.hid (Nat.mod_lt T HB1)
            clear he HA6 HB1
            go_wp2_with (first
              | (go_at_call 80; refine (HMK.out).mono ?_; rintro e1 w7 ⟨a7, n7, c7, rfl, hv7, hb7⟩)
              | (go_at_call 87; refine (rsub_n ((hv6.below hbq).below hb7) (Nat.le_trans HT.out (by decide)) hv7 HL3.out).mono ?_; rintro e1 w8 ⟨a8, n8, c8, rfl, hv8, hb8, hn8⟩; have hA8 := HAA.out.below (btn hb7 hb8); have cz := hA8.cell (j := i) (by omega); have f0 := hA8.frozen i))
            go_roundw
            case rel =>
              unfold DivRel
              refine ⟨i, T % B, n8, c8, o.set i (lo : Int), a8, by omega, HMOD.out, rfl, rfl, (btn (btn hbw hbs) (btn hbq (btn hb7 hb8))).setCell (Nat.le_refl _) _, hA8.set i (lo : Int), HZ.out, ?_⟩
              have h := hv8
              rw [HQ.out] at h
              exact h.setCell hn8 (HAA.out.below hb7).lt
            case measure => simp [intOf]
/-- Divide, where it answers. -/
theorem rdiv_n {w : World} {a b : Option Addr} {n c m d A B : Nat} (ha : Nw w (.slice a n c) A) (hA : bl A ≤ 64000) (hb : Nw w (.slice b m d) B) (bB : bl B ≤ 63900) (h0 : B ≠ 0) : Calls Try.prog 109 #[.slice a n c, .slice b m d] w (Two3 w (A / B) (A % B)) := by
  by_cases h : B < 4294967296
  · exact rdiv_small ha hA hb h h0
  · exact rdiv_great ha hA hb (by omega) bB
end Go.Proofs.Ytecgkhijiogggaa
