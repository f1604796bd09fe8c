/- Both texts' Garbage and Columns. -/
import Derived.Test.YtpkfkipnagajkaaDoorG
import Derived.Laws.RangeAny
namespace Go.Proofs.YtpkfkipnagajkaaDoor
set_option linter.unusedVariables false
set_option linter.unusedSimpArgs false
open Go.RowKit Go.Shelf

/-- How many bytes are left, from k on down. -/
def gar (l : List Int) : Nat → Nat
  | 0 => 0
  | k + 1 => if bkT (l.take (k + 1)) = 0 then k + 1 else gar l k
theorem gar_le (l : List Int) : ∀ k, gar l k ≤ k
  | 0 => Nat.le_refl _
  | k + 1 => by unfold gar; split; exact Nat.le_refl _; have := gar_le l k; omega
def wdt (l : List Int) : Nat := if (dec l).2 = 0 then 1 else (dec l).2.toNat
def colF : Nat → List Int → Nat
  | 0, _ => 0
  | f + 1, l => if l = [] then 0 else 1 + colF f (l.drop (wdt l))
theorem colF_le : ∀ (f : Nat) (l : List Int), colF f l ≤ f
  | 0, l => Nat.le_refl _
  | f + 1, l => by unfold colF; split; exact Nat.zero_le _; have := colF_le f (l.drop (wdt l)); omega
theorem colF_nil (f : Nat) : colF f [] = 0 := by cases f <;> simp [colF]
theorem wdt_ge (l : List Int) (hb : Byt l) : 1 ≤ wdt l := by
  have := dec_range l hb
  unfold wdt; split <;> omega
theorem wdt_le (l : List Int) (hb : Byt l) (hne : l ≠ []) : wdt l ≤ l.length := by
  have := dec_range l hb
  have h0 : l.length ≠ 0 := fun h => hne (List.eq_nil_of_length_eq_zero h)
  unfold wdt; split <;> omega
theorem wdt_decode (l : List Int) (hb : Byt l) (pos : Nat) (hp : pos < l.length) : (Utf8.decode (strOfNums l) pos).2 = wdt (l.drop pos) := by
  have hne : l.drop pos ≠ [] := fun h => by have := congrArg List.length h; rw [List.length_drop] at this; simp at this; omega
  have hbd : Byt (l.drop pos) := fun x hx => hb x (List.mem_of_mem_drop hx)
  rw [← Lib.decodeL_drop, strOfNums_data l, ← List.map_drop]
  show (Lib.decodeL (Lib.bytesOf (l.drop pos))).2 = _
  unfold wdt
  rcases decodeL_dec (l.drop pos) hbd hne with ⟨h1, h2, h3⟩ | ⟨h1, h2, h3⟩
  · rw [h2, h3]; rfl
  · rw [h1]
    simp only
    rw [if_neg (by omega)]
    simp
theorem pgar_c (v : Value) (l : List Int) (w : World) (hr : Rd w .u8 v l) (hb : Byt l) (hs : l.length ≤ 9223372036854775807) (hT : Tabs w) :
    Calls Tryd.prog 12 #[v] w fun e w' => e = .returned (.int .i64 (gar l l.length)) ∧ Below w.heap.size w w' := by
  have HR := Lib.hid hr
  obtain ⟨a, c, rfl, hc, _⟩ := hr
  have HB := Lib.hid hb
  have HT := Lib.hid hT
  obtain ⟨L, hL⟩ : ∃ L, l.length = L := ⟨_, rfl⟩
  rw [hL] at hc hs HR ⊢
  have HL := Lib.hid hL
  clear hb hT hL
  go_enter Tryd.func12, Tryd.ntmps12
  go_wp2
  go_loopw [0] (fun v wr => ∃ k : Nat, k ≤ L ∧ v = .slice a k c ∧ Hid (gar l L = gar l k) ∧ Below w.heap.size w wr) (fun v _ => match v with | .slice _ n _ => n | _ => 0)
  case atStart => exact ⟨L, Nat.le_refl _, rfl, Lib.hid rfl, Below.refl _ _⟩
  case round =>
    obtain ⟨k, hk, rfl, HG, hbw⟩ := hrel
    cases k with
    | zero =>
      have HG2 : Hid (gar l L = 0) := HG
      clear HG
      go_wp2
      go_ret
      exact ⟨ret1 (by rw [HG2.out]; rfl), hbw⟩
    | succ k =>
      have C := back_c (.slice a (k + 1) c) (l.take (k + 1)) wr ((HR.out.below hbw).take hk) (fun x hx => HB.out x (List.mem_of_mem_take hx)) (by rw [List.length_take]; omega) (HT.out.below hbw)
      obtain ⟨n, hn⟩ : ∃ u, bkN (l.take (k + 1)) = u := ⟨_, rfl⟩
      obtain ⟨t, ht⟩ : ∃ u, bkT (l.take (k + 1)) = u := ⟨_, rfl⟩
      rw [hn, ht] at C
      have HC := Lib.hid C
      have HT1 := Lib.hid ht
      clear C hn ht
      by_cases h : t = 0
      · have e : gar l (k + 1) = k + 1 := by show (if bkT (l.take (k + 1)) = 0 then k + 1 else gar l k) = k + 1; rw [HT1.out, if_pos h]
        have HE := Lib.hid (HG.out.trans e)
        subst h
        clear e HG HT1
        go_wp2_with (go_at_call 10; with_reducible refine (HC.out).mono ?_; rintro e w1 ⟨rfl, hb1⟩)
        go_ret
        exact ⟨ret1 (by rw [HE.out]; rfl), below_then hbw hbw.size hb1⟩
      · have e : gar l (k + 1) = gar l k := by show (if bkT (l.take (k + 1)) = 0 then k + 1 else gar l k) = gar l k; rw [HT1.out, if_neg h]
        have HE := Lib.hid (HG.out.trans e)
        have hB := beq_no h
        clear e HG HT1 h
        go_wp2_with (go_at_call 10; with_reducible refine (HC.out).mono ?_; rintro e w1 ⟨rfl, hb1⟩)
        go_roundw
        case rel => exact ⟨k, by omega, rfl, HE, below_then hbw hbw.size hb1⟩
        case measure => exact Nat.lt_succ_self k
theorem rgar_c (v : Value) (l : List Int) (w : World) (hr : Rd w .u8 v l) (hb : Byt l) (hs : l.length ≤ 9223372036854775807) :
    Calls Tryd.prog 13 #[v] w fun e w' => e = .returned (.int .i64 (gar l l.length)) ∧ w = w' := by
  have HR := Lib.hid hr
  obtain ⟨a, c, rfl, hc, _⟩ := hr
  have HB := Lib.hid hb
  obtain ⟨L, hL⟩ : ∃ L, l.length = L := ⟨_, rfl⟩
  rw [hL] at hc hs HR ⊢
  have HL := Lib.hid hL
  clear hb hL
  go_enter Tryd.func13, Tryd.ntmps13
  go_wp2
  go_loop [3] (fun v => ∃ k : Nat, k ≤ L ∧ v = .int .i64 k ∧ Hid (gar l L = gar l k)) (fun v => (intOf v).toNat)
  case atStart => exact ⟨L, Nat.le_refl _, rfl, Lib.hid rfl⟩
  case round =>
    obtain ⟨k, hk, rfl, HG⟩ := hrel
    cases k with
    | zero =>
      have HG2 : Hid (gar l L = 0) := HG
      clear HG
      go_wp2
      go_ret
      exact ⟨ret1 (by rw [HG2.out]; rfl), rfl⟩
    | succ k =>
      have C := rback_c (.slice a (k + 1) c) (l.take (k + 1)) w (HR.out.take hk) (fun x hx => HB.out x (List.mem_of_mem_take hx)) (by rw [List.length_take]; omega)
      obtain ⟨n, hn⟩ : ∃ u, bkN (l.take (k + 1)) = u := ⟨_, rfl⟩
      obtain ⟨t, ht⟩ : ∃ u, bkT (l.take (k + 1)) = u := ⟨_, rfl⟩
      rw [hn, ht] at C
      have HC := Lib.hid C
      have HT1 := Lib.hid ht
      clear C hn ht
      by_cases h : t = 0
      · have e : gar l (k + 1) = k + 1 := by show (if bkT (l.take (k + 1)) = 0 then k + 1 else gar l k) = k + 1; rw [HT1.out, if_pos h]
        have HE := Lib.hid (HG.out.trans e)
        subst h
        clear e HG HT1
        go_wp2_with (go_at_call 11; with_reducible refine (HC.out).mono ?_; rintro e w1 ⟨rfl, rfl⟩)
        go_ret
        exact ⟨ret1 (by rw [HE.out]; rfl), rfl⟩
      · have e : gar l (k + 1) = gar l k := by show (if bkT (l.take (k + 1)) = 0 then k + 1 else gar l k) = gar l k; rw [HT1.out, if_neg h]
        have HE := Lib.hid (HG.out.trans e)
        have hB := beq_no h
        clear e HG HT1 h
        go_wp2_with (go_at_call 11; with_reducible refine (HC.out).mono ?_; rintro e w1 ⟨rfl, rfl⟩)
        go_round
        case rel => exact ⟨k, by omega, by go_num, HE⟩
        case measure => simp [intOf]
theorem pcol_c (v : Value) (l : List Int) (w : World) (hr : Rd w .u8 v l) (hb : Byt l) (hs : l.length ≤ 9223372036854775807) :
    Calls Tryd.prog 14 #[v] w fun e w' => e = .returned (.int .i64 (colF l.length l)) ∧ Below w.heap.size w w' := by
  have c0 := hr.to_string (P := Tryd.prog) Tryd.underlying22 Tryd.underlying5 Tryd.underlying9
  obtain ⟨a, c, rfl, hc, _⟩ := hr
  have WD := Lib.hid (fun pos hp => wdt_decode l hb pos hp)
  have WG := Lib.hid (fun pos => wdt_ge (l.drop pos) (fun x hx => hb x (List.mem_of_mem_drop hx)))
  have HS := Lib.hid (strOfNums_size l)
  obtain ⟨s, hs'⟩ : ∃ s, strOfNums l = s := ⟨_, rfl⟩
  rw [hs'] at c0 WD HS
  have HSE := Lib.hid hs'
  clear hs' hb
  go_enter Tryd.func14, Tryd.ntmps14
  go_wp2
  go_loopw [3] (fun n w' => ∃ (pos f acc : Nat), w' = w.iter s pos ∧ n = .int .i64 (acc : Int) ∧ acc ≤ pos ∧ Hid (acc + colF f (l.drop pos) = colF l.length l ∧ l.length ≤ pos + f)) (fun _ w' => s.size - w'.iterPos w.heap.size)
  case atStart => exact ⟨0, l.length, 0, rfl, rfl, Nat.le_refl _, Lib.hid ⟨by simp, by omega⟩⟩
  case round =>
    obtain ⟨pos, f, acc, rfl, rfl, hap, HC⟩ := hrel
    by_cases hp : pos < s.size
    · have hnx : ∀ ty, (Instr.next (.pointer (some ⟨w.heap.size, 0, none⟩)) true ty).run Tryd.prog (w.iter s pos) = _ := fun ty => run_next_any w s pos ty hp
      have hl : pos < l.length := by have := HS.out; omega
      have e1 := WD.out pos hl
      have e2 := WG.out pos
      obtain ⟨k, hk⟩ : ∃ k, (Utf8.decode s pos).2 = k := ⟨_, rfl⟩
      rw [hk] at hnx e1
      have hpb : (pos : Int) ≤ 9223372036854775806 := by omega
      have HE := Lib.hid e1
      have hk1 : 1 ≤ k := by omega
      have HK := Lib.hid hk
      clear e1 e2 hk
      go_wp2
      go_roundw
      case rel =>
        obtain ⟨h1, h2⟩ := HC.out
        cases f with
        | zero => omega
        | succ f =>
          have hne : l.drop pos ≠ [] := fun h => by have := congrArg List.length h; rw [List.length_drop] at this; simp at this; omega
          refine ⟨pos + k, f, acc + 1, rfl, by go_num, by omega, Lib.hid ⟨?_, by omega⟩⟩
          have : colF (f + 1) (l.drop pos) = 1 + colF f ((l.drop pos).drop (wdt (l.drop pos))) := by rw [colF, if_neg hne]
          rw [this, List.drop_drop, ← HE.out] at h1
          omega
      case measure =>
        simp
        omega
    · have hnx : ∀ ty, (Instr.next (.pointer (some ⟨w.heap.size, 0, none⟩)) true ty).run Tryd.prog (w.iter s pos) = _ := fun ty => run_next_end w s pos ty hp
      go_wp2
      go_ret
      obtain ⟨h1, h2⟩ := HC.out
      rw [List.drop_eq_nil_of_le (by have := HS.out; omega), colF_nil] at h1
      exact ⟨ret1 (by omega), (Below.refl _ _).alloc (Nat.le_refl _) _⟩
set_option maxHeartbeats 1000000 in
theorem rcol_c (v : Value) (l : List Int) (w : World) (hr : Rd w .u8 v l) (hb : Byt l) (hs : l.length ≤ 9223372036854775807) :
    Calls Tryd.prog 15 #[v] w fun e w' => e = .returned (.int .i64 (colF l.length l)) ∧ w = w' := by
  have HB := Lib.hid hb
  have h0 : ∃ a c, v = .slice a l.length c ∧ l.length ≤ c := by obtain ⟨a, c, e, hc, _⟩ := hr; exact ⟨a, c, e, hc⟩
  obtain ⟨a, c, rfl, hc⟩ := h0
  obtain ⟨L, hL⟩ : ∃ L, l.length = L := ⟨_, rfl⟩
  rw [hL] at hs
  have HL := Lib.hid hL
  have HR : Hid (Rd w .u8 (.slice a L c) l) := Lib.hid (hL ▸ hr)
  rw [hL] at hc ⊢
  clear hb hL hr
  go_enter Tryd.func15, Tryd.ntmps15
  go_wp2
  go_loop [0, 3] (fun b n => ∃ (t : List Int) (f acc k c : Nat) (a : Option Addr), b = .slice a k c ∧ k + acc ≤ L ∧ n = .int .i64 (acc : Int) ∧ Hid (Rd w .u8 (.slice a k c) t ∧ Byt t ∧ acc + colF f t = colF L l ∧ k ≤ f)) (fun b _ => match b with | .slice _ n _ => n | _ => 0)
  case atStart => exact ⟨l, L, 0, L, c, a, rfl, by omega, rfl, Lib.hid ⟨HR.out, HB.out, by omega, Nat.le_refl _⟩⟩
  case round =>
    obtain ⟨t, f, acc, k, c, a, rfl, hka, rfl, HH⟩ := hrel
    have hkc : k ≤ c := by obtain ⟨_, c2, e, h, _⟩ := HH.out.1; injection e with _ e1 e2; omega
    have hkt : t.length = k := by obtain ⟨_, c2, e, h, _⟩ := HH.out.1; injection e with _ e1 e2; omega
    by_cases h0 : k = 0
    · subst h0
      have e : Hid ((acc : Int) = (colF L l : Int)) := Lib.hid (by
        have := HH.out.2.2.1
        rw [List.eq_nil_of_length_eq_zero hkt, colF_nil] at this
        omega)
      clear hkt
      go_wp2
      go_ret
      exact ⟨ret1 e.out, rfl⟩
    · have hne : t ≠ [] := fun h => by rw [h] at hkt; simp at hkt; omega
      have D := rdecode_c _ t w HH.out.1 HH.out.2.1
      have g1 := wdt_ge t HH.out.2.1
      have g2 := wdt_le t HH.out.2.1 hne
      have dr := dec_range t HH.out.2.1
      obtain ⟨g, off, rfl⟩ : ∃ g off, a = some ⟨g, off, none⟩ := by
        obtain ⟨_, _, e, _, h⟩ := HH.out.1
        injection e with e1 e2 e3
        rcases h with h | ⟨g, off, ea, _⟩
        · exact absurd h hne
        · exact ⟨g, off, e1.trans ea⟩
      have hdrop : ∀ m ≤ k, Rd w .u8 (.slice (some ⟨g, off + m, none⟩) (k - m) (c - m)) (t.drop m) := fun m hm => HH.out.1.drop hm rfl rfl
      have hend : ∀ (x : Option Addr) (n' c' m : Nat), n' = 0 → k ≤ m → Rd w .u8 (.slice x n' c') (t.drop m) := fun x n' c' m h1 h2 => Rd.empty h1 (List.drop_eq_nil_of_le (by omega))
      have HD := Lib.hid hdrop
      have HE := Lib.hid hend
      clear hdrop hend
      -- the number of bytes that are left off
      have fin : ∀ (x : Option Addr) (n1 c1 m : Nat), m = wdt t → n1 = k - m → Rd w .u8 (.slice x n1 c1) (t.drop m) → ∃ (t' : List Int) (f' acc' k' c' : Nat) (a' : Option Addr), Value.slice x n1 c1 = .slice a' k' c' ∧ k' + acc' ≤ L ∧ Value.int .i64 ((acc : Int) + 1) = .int .i64 (acc' : Int) ∧ Hid (Rd w .u8 (.slice a' k' c') t' ∧ Byt t' ∧ acc' + colF f' t' = colF L l ∧ k' ≤ f') := by
        intro x n1 c1 m hm hn1 hR
        subst hm hn1
        obtain ⟨_, q2, q3, q4⟩ := HH.out
        cases f with
        | zero => omega
        | succ f =>
          refine ⟨t.drop (wdt t), f, acc + 1, _, _, x, rfl, by omega, by go_num, Lib.hid ⟨hR, fun x hx => q2 x (List.mem_of_mem_drop hx), ?_, by omega⟩⟩
          rw [colF, if_neg hne] at q3
          omega
      have FIN := Lib.hid fin
      clear fin
      have eT : decT t = if (dec t).2 = 0 then -77 else 0 := rfl
      have eW : wdt t = if (dec t).2 = 0 then 1 else (dec t).2.toNat := rfl
      obtain ⟨u, hu⟩ : ∃ u, (dec t).1 = u := ⟨_, rfl⟩
      obtain ⟨n, hn⟩ : ∃ u, (dec t).2 = u := ⟨_, rfl⟩
      rw [eT, hu, hn] at D
      rw [hn] at dr eW
      by_cases hz : n = 0
      · rw [if_pos hz] at D eW
        have HDD := Lib.hid D
        have HW := Lib.hid eW.symm
        clear D eT eW hu hn hz dr g1 g2 hne hkt
        by_cases hck : c = 1
        · have k1 : k = 1 := by omega
          subst hck k1
          go_wp2_with (go_at_call 9; with_reducible refine (HDD.out).mono ?_; rintro e w' ⟨rfl, rfl⟩)
          go_round
          case rel => exact FIN.out _ _ _ 1 HW.out (by omega) (HE.out _ _ _ _ rfl (by omega))
          case measure => show 0 < 1; omega
        · go_wp2_with (go_at_call 9; with_reducible refine (HDD.out).mono ?_; rintro e w' ⟨rfl, rfl⟩)
          go_round
          case rel => exact FIN.out _ _ _ 1 HW.out rfl (HD.out 1 (by omega))
          case measure => show k - 1 < k; omega
      · rw [if_neg hz] at D eW
        obtain ⟨m, hm⟩ : ∃ m : Nat, n = m := ⟨n.toNat, by omega⟩
        subst hm
        have eW' : m = wdt t := by omega
        rw [hkt] at g2
        have m1 : 1 ≤ m := by omega
        have mk : m ≤ k := by omega
        have HDD := Lib.hid D
        have HW := Lib.hid eW'
        clear D eT eW hu hn hz dr g1 g2 hne hkt eW'
        by_cases hck : c = m
        · have k1 : k = m := by omega
          subst hck k1
          go_wp2_with (go_at_call 9; with_reducible refine (HDD.out).mono ?_; rintro e w' ⟨rfl, rfl⟩)
          go_round
          case rel => exact FIN.out _ _ _ k HW.out (by omega) (HE.out _ _ _ _ rfl (by omega))
          case measure => show 0 < k; omega
        · go_wp2_with (go_at_call 9; with_reducible refine (HDD.out).mono ?_; rintro e w' ⟨rfl, rfl⟩)
          go_round
          case rel => exact FIN.out _ _ _ m HW.out rfl (HD.out m (by omega))
          case measure => show k - m < k; omega
end Go.Proofs.YtpkfkipnagajkaaDoor
