/- Texts W, for this seat. -/
import Derived.Test.YtkifdppppihjcaaB
import Derived.Lib.SliceRun
import Derived.Laws.CopyOwn
import Derived.BigQuiet
import Derived.Deep.QuietTactic
import Derived.Deep.RegionHeld3
namespace Go.Proofs.Ytkifdppppihjcaa
set_option linter.unusedVariables false
set_option linter.unusedSimpArgs false
open Go.RowKit Go.Shelf Go.ChangeShapes Go.WideShapes SF

theorem ptrim_c (a : Option Addr) (n c : Nat) (l : List Int) (w : World) (hr : Rd w .u32 (.slice a n c) l) (hw : Words l) (hn : n ≤ 4611686018427387903) : Calls Try.prog 69 #[.slice a n c] w fun e w' => e = .returned (.slice a (ws (wv l)).length c) ∧ Nw w (.slice a (ws (wv l)).length c) (wv l) ∧ w = w' := by
  have HT := Lib.hid (fun m => @trim_rd w a n c l hr hw m)
  have hnc := hr.parts.2.1
  go_enter Try.func69, Try.ntmps69
  go_wp2
  go_loop [0] (fun v0 => ∃ m : Nat, m ≤ n ∧ v0 = .slice a m c ∧ Hid (∀ i, m ≤ i → i < n → l.getD i 0 = 0)) (fun v0 => match v0 with | .slice _ m _ => m | _ => 0)
  case atStart => exact ⟨n, Nat.le_refl _, rfl, fun i h1 h2 => by omega⟩
  case round =>
    obtain ⟨m, hm, rfl, HZ⟩ := hrel
    cases m with
    | zero =>
      obtain ⟨e1, e2, e3⟩ := HT.out 0 (by omega) HZ.out (.inl rfl)
      have H1 := Lib.hid e1
      have H2 := Lib.hid e2
      clear e1 e2 e3
      go_wp2
      go_ret
      exact ⟨by rw [← H1.out]; rfl, by rw [← H1.out]; exact H2.out, rfl⟩
    | succ p =>
      obtain ⟨g, off, rfl, hcl⟩ := hr.addr (by omega)
      have hp := hcl p (by omega)
      have hpn : p < p + 1 := by omega
      obtain ⟨x, hx⟩ : ∃ x, l.getD p 0 = x := ⟨_, rfl⟩
      rw [hx] at hp
      by_cases hz : x = 0
      · have hz1 := beq_of hz
        have HZ2 := Lib.hid (show ∀ i, p ≤ i → i < n → l.getD i 0 = 0 from fun i h1 h2 => by
          by_cases e : i = p
          · subst e; rw [hx]; exact hz
          · exact HZ.out i (by omega) h2)
        clear hz hcl hx
        go_wp2
        go_round
        case rel => exact ⟨p, by omega, rfl, HZ2.out⟩
        case measure => simp
      · have hz1 := beq_no hz
        obtain ⟨e1, e2, e3⟩ := HT.out (p + 1) (by omega) HZ.out (.inr (by rw [Nat.add_sub_cancel, hx]; exact hz))
        have H1 := Lib.hid e1
        have H2 := Lib.hid e2
        clear e1 e2 e3 hz hcl hx
        go_wp2
        go_ret
        exact ⟨by rw [← H1.out]; rfl, by rw [← H1.out]; exact H2.out, rfl⟩
set_option maxRecDepth 100000 in
theorem pclone_c (a : Option Addr) (n c : Nat) (l : List Int) (w : World) (h : Rd w .u32 (.slice a n c) l) (hs : n ≤ 100000000) :
    Calls Try.prog 68 #[.slice a n c] w fun e w' => ∃ v, e = .returned v ∧ Rd w' .u32 v l ∧ Below w.heap.size w w' := by
  have HNL := Lib.hid h.parts.1
  cases a with
  | none =>
    have hl : l = [] := by
      rcases h.parts.2.2 with h | ⟨g, off, ea, _⟩
      · exact h
      · cases ea
    have HL := Lib.hid hl
    have E := fun W => Lib.run_eql_slice_nil (P := Try.prog) W 54 57 none n c 0 0 Try.underlying54
    clear h hl
    go_enter Try.func68, Try.ntmps68
    go_wp2
    go_ret
    exact ⟨_, rfl, by rw [HL.out]; exact Rd.nil _ _ _, Below.refl _ _⟩
  | some ad =>
    have HR := Lib.hid h
    have own0 : (w.alloc (.cells #[] 57)).ownsRow w.heap.size 57 1 (.slice (some ⟨w.heap.size, 0, none⟩) 0 0) 0 [] := World.ownsRow_made w #[] 0 (Nat.le_refl _) (Nat.zero_le _) rfl
    have H0 := Lib.hid own0
    have b0 := (Below.refl w.heap.size w).alloc (Nat.le_refl _) (.cells #[] 57)
    have E := fun W => Lib.run_eql_slice_nil (P := Try.prog) W 54 57 (some ad) n c 0 0 Try.underlying54
    have HNN := Lib.hid (show 0 + l.length < 1000000000000 by have := HNL.out; omega)
    clear own0 h
    go_enter Try.func68, Try.ntmps68
    go_wp2_with (at_builtin; go_loud (refine wp_apps 54 57 (.int .u32 0) 4 Try.underlying54 info_u32 rfl w.heap.size (.slice (some ⟨w.heap.size, 0, none⟩) 0 0) 0 [] rfl (.tmp 5) (.tmp 6) (by rfl) (by rfl) H0.out (by simp) .u32 _ l (by rfl) (HR.out.below b0) HNN.out (by decide) ?_); intro v2 w2 hown2 hg2 _; have hO := Lib.hid hown2; have hb2 := b0.trans (grown_below hg2 H0.out (by simp)); clear hown2 hg2)
    go_ret
    exact ⟨_, rfl, Rd.of_own (by have := hO.out; rwa [Nat.zero_add, List.nil_append] at this), hb2⟩
theorem pnorm_c (a : Option Addr) (n c : Nat) (l : List Int) (w : World) (hr : Rd w .u32 (.slice a n c) l) (hw : Words l) (hn : n ≤ 100000000) : Calls Try.prog 63 #[.slice a n c] w fun e w' => ∃ v, e = .returned v ∧ Nw w' v (wv l) ∧ Below w.heap.size w w' := by
  have HT := Lib.hid (ptrim_c a n c l w hr hw (by omega))
  have hk : (ws (wv l)).length ≤ 100000000 := ws_len_nw hw hr.parts.1 hn
  have HC := Lib.hid (fun (w : World) (h : Nw w (.slice a (ws (wv l)).length c) (wv l)) => pclone_c a _ c (ws (wv l)) w h hk)
  obtain ⟨m, hm⟩ : ∃ m, (ws (wv l)).length = m := ⟨_, rfl⟩
  rw [hm] at HT HC
  clear hm hk hr hw hn
  go_enter Try.func63, Try.ntmps63
  go_wp2_with (first
    | (go_at_call 69; (with_reducible refine (HT.out).mono ?_); rintro e1 w1 ⟨rfl, hv, rfl⟩)
    | (go_at_call 68; (with_reducible refine (HC.out _ hv).mono ?_); rintro e1 w2 ⟨v, rfl, hv2, hb⟩))
  go_ret
  exact ⟨v, rfl, hv2, hb⟩
theorem plarge_c (a : Option Addr) (n c : Nat) (l : List Int) (w : World) (hr : Rd w .u32 (.slice a n c) l) (hw : Words l) (hn : n ≤ 100000000) : Calls Try.prog 71 #[.slice a n c] w fun e w' => e = .returned (.bool (decide (64000 < bl (wv l)))) ∧ w = w' := by
  have HC := Lib.hid (ptrim_c a n c l w hr hw (by omega))
  obtain ⟨B, hB⟩ : ∃ B, decide (64000 < bl (wv l)) = B := ⟨_, rfl⟩
  have HB := Lib.hid (show decide ((2000 : Int) < ((ws (wv l)).length : Int)) = B by
    rw [← hB]; have := ws_length (wv l); exact decide_eq_decide.2 (by omega))
  rw [hB]
  have hkn := ws_len_nw hw hr.parts.1 hn
  obtain ⟨k, hk⟩ : ∃ k, (ws (wv l)).length = k := ⟨_, rfl⟩
  rw [hk] at HC HB hkn
  clear hB hk
  go_enter Try.func71, Try.ntmps71
  go_wp2_with (go_at_call 69; (with_reducible refine (HC.out).mono ?_); rintro e1 w1 ⟨rfl, hv, rfl⟩)
  go_ret
  exact ⟨by rw [← HB.out]; rfl, rfl⟩
theorem pbits_c (a : Option Addr) (n c N : Nat) (w : World) (hr : Nw w (.slice a n c) N) (hn : bl N ≤ 64000) : Calls Try.prog 64 #[.slice a n c] w fun e w' => e = .returned (.int .i64 (bl N : Int)) ∧ w = w' := by
  have HC := ptrim_c a n c (ws N) w hr (words_ws N) (by have := (Rd.parts hr).1; have := ws_len_le (A := N) (n := 2000) (by omega); omega)
  rw [wv_ws] at HC
  have hkn : (ws N).length ≤ 2000 := ws_len_le (by omega)
  by_cases h0 : N = 0
  · subst h0
    rw [ws_zero] at HC
    have HC := Lib.hid HC
    clear hkn hr
    go_enter Try.func64, Try.ntmps64
    go_wp2_with (go_at_call 69; (with_reducible refine (HC.out).mono ?_); rintro e1 w1 ⟨rfl, hv, rfl⟩)
    go_ret
    exact ⟨rfl, rfl⟩
  · have b := bl_words h0
    have g := getD_word (words_ws N) ((ws N).length - 1)
    obtain ⟨m, hm⟩ : ∃ m, (ws N).length = m + 1 := ⟨(ws N).length - 1, by have := b.2.2; omega⟩
    have HG : ∀ (w1 : World), Nw w1 (.slice a (m + 1) c) N → ∃ g off, a = some ⟨g, off, none⟩ ∧ w1.cell? ⟨g, off + m, none⟩ = some (.int .u32 ((ws N).getD m 0)) := fun w1 h => by
      obtain ⟨g, off, rfl, hc⟩ := Rd.addr h (by omega)
      exact ⟨g, off, rfl, hc m (by omega)⟩
    have HG := Lib.hid HG
    rw [hm] at HC b hkn
    rw [hm, Nat.add_sub_cancel] at g
    rw [Nat.add_sub_cancel] at b
    obtain ⟨x, hx⟩ : ∃ x, (ws N).getD m 0 = x := ⟨_, rfl⟩
    rw [hx] at g b HG
    obtain ⟨X, rfl⟩ := Int.eq_ofNat_of_zero_le g.1
    rw [Int.toNat_natCast] at b
    rw [b.1]
    have b32 : bl X ≤ 32 := bl_le_of_lt (k := 32) (by rw [show (2 : Nat) ^ 32 = 4294967296 by decide]; omega)
    have L : ∀ w, Calls Try.prog 70 #[.int .u32 (X : Int)] w fun e w' => e = .returned (.int .i64 (bl X : Int)) ∧ w = w' := fun w =>
      (Try.bits_Len32 (X : Int) w (by omega) (by omega)).mono fun _ _ ⟨h1, h2⟩ => ⟨by rw [h1, Int.toNat_natCast, bitLen_bl (by omega)], h2.symm⟩
    have HL := Lib.hid L
    have HC := Lib.hid HC
    clear h0 b hm hx g hr L
    go_enter Try.func64, Try.ntmps64
    go_wp2_with (first
      | (go_at_call 69; (with_reducible refine (HC.out).mono ?_); rintro e1 w1 ⟨rfl, hv, rfl⟩; obtain ⟨g, off, rfl, hcl⟩ := HG.out _ hv)
      | (go_at_call 70; (with_reducible refine (HL.out _).mono ?_); rintro e1 w1 ⟨rfl, rfl⟩))
    go_ret
    exact ⟨ret1 (by omega), rfl⟩
end Go.Proofs.Ytkifdppppihjcaa

namespace Go.Proofs.Ytkifdppppihjcaa
set_option linter.unusedVariables false
set_option linter.unusedSimpArgs false
open Go.RowKit Go.Shelf Go.ChangeShapes Go.WideShapes SF

/-- Right, into a made array. -/
def PShr (la : List Int) (q r k L : Nat) (o : List Int) : Prop := o.length = L ∧ Words o ∧ ShrInv la q r k (o.take k)
theorem pshr_zero (la : List Int) (q r L : Nat) : PShr la q r 0 L (List.replicate L 0) := ⟨List.length_replicate, words_zeros L, by rw [List.take_zero]; exact shrInv_zero la q r⟩
theorem pshr_next {la o : List Int} {q r k L : Nat} {X Y : Int} (wa : Words la) (hr : r < 32) (I : PShr la q r k L o) (hk : k < L) (hX : X = la.getD (q + k) 0 + 4294967296 * la.getD (q + k + 1) 0) (hY : X / (2 : Int) ^ r = Y) : 0 ≤ Y ∧ Y < 18446744073709551616 ∧ PShr la q r (k + 1) L (o.set k (Y % 4294967296)) := by
  obtain ⟨h1, h2, h3⟩ := I
  have n := shrInv_next wa hr h3 hX hY
  refine ⟨n.1, n.2.1, by rw [List.length_set]; exact h1, words_set h2 (by omega) (by omega), ?_⟩
  have e : (o.set k (Y % 4294967296)).take (k + 1) = o.take k ++ [Y % 4294967296] := by
    rw [take_getD (by rw [List.length_set]; omega), getD_set (by omega), if_pos rfl]
    rw [List.take_set, List.set_eq_of_length_le (by rw [List.length_take]; omega)]
  rw [e]; exact n.2.2
theorem pshr_end {la o : List Int} {q r s L : Nat} (wa : Words la) (I : PShr la q r L L o) (hk : la.length ≤ q + L) (hs : 32 * q + r = s) (hr : r < 32) : Words o ∧ wv o = wv la / 2 ^ s := by
  obtain ⟨h1, h2, h3⟩ := I
  rw [List.take_of_length_le (by omega)] at h3
  have := shrInv_end wa h3 hk hs hr
  exact this
def PShrRel (w : World) (la : List Int) (q r L G : Nat) (v : Value) (wr : World) : Prop := ∃ (k : Nat) (o : List Int), k ≤ L ∧ v = .int .i64 (k : Int) ∧ Below w.heap.size w wr ∧ Hid (Arr wr G L o ∧ PShr la q r k L o)
set_option maxRecDepth 100000 in
set_option maxHeartbeats 4000000 in
theorem pshr_c (a : Option Addr) (n c N s : Nat) (w : World) (ha : Nw w (.slice a n c) N) (hs0 : 0 < s) (hs : s < bl N) (hb : bl N ≤ 64000) :
    Calls Try.prog 65 #[.slice a n c, .int .i64 (-(s : Int))] w fun e w' => ∃ v, e = .returned (.tuple #[v, .int .i64 0]) ∧ Nw w' v (N / 2 ^ s) ∧ Below w.heap.size w w' := by
  have na := (Rd.parts ha).1
  have hcap := (Rd.parts ha).2.1
  have hm2 : (ws N).length ≤ 2000 := ws_len_le (by omega)
  have HL := plarge_c a n c (ws N) w ha (words_ws N) (by omega)
  have HT := ptrim_c a n c (ws N) w ha (words_ws N) (by omega)
  rw [wv_ws, show decide (64000 < bl N) = false from decide_eq_false (by omega)] at HL
  rw [wv_ws, ← na] at HT
  have HL := Lib.hid HL
  have HT := Lib.hid HT
  have N0 : N ≠ 0 := by intro h; subst h; rw [bl_zero] at hs; omega
  have hbw := bl_words N0
  have hxl := getD_word (words_ws N) ((ws N).length - 1)
  have bx : bl ((ws N).getD ((ws N).length - 1) 0).toNat ≤ 32 := bl_le_of_lt (k := 32) (by rw [show (2 : Nat) ^ 32 = 4294967296 by decide]; omega)
  have wa := words_ws N
  have A0 : wv (ws N) = N := wv_ws N
  have hsn : s < 32 * n := by omega
  obtain ⟨g, off, rfl, hcl⟩ := Rd.addr ha (by omega)
  have HA := Lib.hid hcl
  obtain ⟨lc, hlc⟩ : ∃ l, ws N = l := ⟨_, rfl⟩
  rw [hlc] at HA wa A0 na hm2
  obtain ⟨q, hq⟩ : ∃ q, s / 32 = q := ⟨_, rfl⟩
  obtain ⟨r, hr⟩ : ∃ r, s % 32 = r := ⟨_, rfl⟩
  obtain ⟨S, hS⟩ : ∃ S : Int, (s : Int) = S := ⟨_, rfl⟩
  have q0 : S / 32 = (q : Int) := by omega
  have r0 : S % 32 = (r : Int) := by omega
  have hS0 : 0 < S := by omega
  have hS1 : S < 64000 := by omega
  have hS2 : S < 32 * (n : Int) := by omega
  have hqb : q < n := by omega
  have hr32 : r < 32 := by omega
  have hsum : 32 * q + r = s := by omega
  obtain ⟨L, hLq⟩ : ∃ L, n = q + L := ⟨n - q, by omega⟩
  have HI := Lib.hid (pshr_zero lc q r L)
  have HN := Lib.hid (fun (o : List Int) (k : Nat) (X Y : Int) (I : PShr lc q r k L o) (hk : k < L) => @pshr_next lc o q r k L X Y wa hr32 I hk)
  have HE := Lib.hid (fun (o : List Int) (I : PShr lc q r L L o) => show Words o ∧ wv o = N / 2 ^ s by
    have := pshr_end (s := s) wa I (by omega) hsum hr32
    rw [A0] at this; exact this)
  have GW := Lib.hid (fun k => getD_word wa k)
  have ZW := Lib.hid (fun (k : Nat) (h : n ≤ k) => @getD0 lc k (by omega))
  obtain ⟨M, hM⟩ : ∃ M, N / 2 ^ s = M := ⟨_, rfl⟩
  rw [hM] at HE ⊢
  rw [hS]
  have hn2 : n ≤ 2000 := by omega
  have hcq : ¬ c = q := by omega
  clear hM ha wa na hq hr hS hlc A0 hsum hb hcl hbw hxl bx N0 hs hs0 hsn hm2
  subst hLq
  go_enter Try.func65, Try.ntmps65
  go_wp2_with (first
    | (go_at_call 71; (with_reducible refine (HL.out).mono ?_); rintro e1 w1 ⟨rfl, rfl⟩)
    | (go_at_call 69; (with_reducible refine (HT.out).mono ?_); rintro e1 w1 ⟨rfl, hv, rfl⟩)
    | (at_make; go_loud (refine wp_make 54 Try.underlying54 info_u32 w rfl (.tmp 49) rfl _ L rfl (by omega) (by omega) ?_); intro w3 harr hb3))
  have HAR := Lib.hid harr
  clear harr q0 r0 hS0 hS1 hS2
  go_loopw [8, 9, 10, 53] (fun _ _ _ v53 wr => PShrRel w lc q r L w.heap.size v53 wr) (fun _ _ _ v53 _ => L - (intOf v53).toNat)
  case atStart => unfold PShrRel; exact ⟨0, _, by omega, rfl, hb3, HAR.out, HI.out⟩
  case round =>
    obtain ⟨k, o, hk, rfl, hbw, HO⟩ := hrel
    by_cases km : k < L
    · have ca := cell_below hbw (HA.out (q + k) (by omega))
      rw [← Nat.add_assoc] at ca
      have gx := GW.out (q + k)
      have gy := GW.out (q + k + 1)
      have HX := HN.out o k
      have zy := ZW.out (q + k + 1)
      have cz := HO.out.1.cell (j := k) km
      have f0 := HO.out.1.frozen k
      by_cases kn : k + 1 < L
      · have cb := cell_below hbw (HA.out (q + k + 1) (by omega))
        rw [show off + (q + k + 1) = off + q + (k + 1) by omega] at cb
        obtain ⟨x, hx⟩ : ∃ x, lc.getD (q + k) 0 = x := ⟨_, rfl⟩
        obtain ⟨y, hy⟩ : ∃ y, lc.getD (q + k + 1) 0 = y := ⟨_, rfl⟩
        rw [hx] at ca gx HX
        rw [hy] at cb gy HX
        have ol := or_low gx gy
        obtain ⟨X, hX⟩ : ∃ X, x + 4294967296 * y = X := ⟨_, rfl⟩
        have X0 : 0 ≤ X := by omega
        have X1 : X < 18446744073709551616 := by omega
        rw [hX] at ol HX
        obtain ⟨Y, hY⟩ : ∃ Y, X / (2 : Int) ^ r = Y := ⟨_, rfl⟩
        obtain ⟨y0, y1, hI⟩ := HX X Y HO.out.2 km rfl hY
        have H7 := Lib.hid hI
        have HW := Lib.hid (HO.out.1.set k (Y % 4294967296))
        clear hx hy hX hI HX zy
        go_wp2
        go_roundw
        case rel =>
          unfold PShrRel
          exact ⟨k + 1, _, by omega, by go_num, hbw.setCell (Nat.le_refl _) _, HW.out, H7.out⟩
        case measure => simp [intOf]; omega
      · have zy := zy (by omega)
        rw [zy] at HX
        obtain ⟨x, hx⟩ : ∃ x, lc.getD (q + k) 0 = x := ⟨_, rfl⟩
        rw [hx] at ca gx HX
        obtain ⟨Y, hY⟩ : ∃ Y, x / (2 : Int) ^ r = Y := ⟨_, rfl⟩
        obtain ⟨y0, y1, hI⟩ := HX x Y HO.out.2 km (by omega) hY
        have H7 := Lib.hid hI
        have HW := Lib.hid (HO.out.1.set k (Y % 4294967296))
        clear hx hI HX zy gy
        go_wp2
        go_roundw
        case rel =>
          unfold PShrRel
          exact ⟨k + 1, _, by omega, by go_num, hbw.setCell (Nat.le_refl _) _, HW.out, H7.out⟩
        case measure => simp [intOf]; omega
    · obtain rfl : k = L := by omega
      have E := HE.out o HO.out.2
      have HW := Lib.hid E
      have HC := ptrim_c _ k k o _ HO.out.1.rd E.1 (by omega)
      rw [E.2] at HC
      have HC := Lib.hid HC
      clear E
      go_wp2_with (go_at_call 69; (with_reducible refine (HC.out).mono ?_); rintro e1 w5 ⟨rfl, hv5, rfl⟩)
      go_ret2
      exact ⟨_, rfl, hv5, hbw⟩
end Go.Proofs.Ytkifdppppihjcaa

namespace Go.Proofs.Ytkifdppppihjcaa
set_option linter.unusedVariables false
set_option linter.unusedSimpArgs false
open Go.RowKit Go.Shelf Go.ChangeShapes Go.WideShapes SF

theorem splice_get (l : List Int) (hl : l.length ≤ 4) (i : Nat) (hi : i < 4) : (Go.splice [Value.int .u32 0, .int .u32 0, .int .u32 0, .int .u32 0] 0 (l.map (Value.int .u32))).toArray[i]? = some (.int .u32 (l.getD i 0)) := by
  match l, hl with
  | [], _ => match i, hi with
    | 0, _ => rfl
    | 1, _ => rfl
    | 2, _ => rfl
    | 3, _ => rfl
  | [x], _ => match i, hi with
    | 0, _ => rfl
    | 1, _ => rfl
    | 2, _ => rfl
    | 3, _ => rfl
  | [x, y], _ => match i, hi with
    | 0, _ => rfl
    | 1, _ => rfl
    | 2, _ => rfl
    | 3, _ => rfl
  | [x, y, z], _ => match i, hi with
    | 0, _ => rfl
    | 1, _ => rfl
    | 2, _ => rfl
    | 3, _ => rfl
  | [x, y, z, u], _ => match i, hi with
    | 0, _ => rfl
    | 1, _ => rfl
    | 2, _ => rfl
    | 3, _ => rfl
/-- copy(w[:], m), w four new words. -/
theorem wp_copy4 {w1 : World} {ops : Array Oper} {rest : List Oper} {o : Oper} {a : Act} {Q : Exit → Act → World → Prop} (hgd : o.guard = none) (d s : Operand) (t : TypeId) (ho : o.op = .call { callee := .builtin .copy, args := #[d, s], argTypes := #[54, 54] })
    (a1 : Option Addr) (n1 c1 : Nat) (l : List Int) (hd : a.eval d = .slice (some ⟨w1.heap.size, 0, none⟩) 4 4) (hs : a.eval s = .slice a1 n1 c1) (hr : Rd w1 .u32 (.slice a1 n1 c1) l) (hl : n1 ≤ 4)
    (h : ∀ w', (∀ i, i < 4 → w'.cell? ⟨w1.heap.size, i, none⟩ = some (.int .u32 (l.getD i 0))) → Below w1.heap.size w1 w' → wpList Try.prog ops Q rest (a.put o.dst (goInt l.length)) w') :
    wpList Try.prog ops Q (o :: rest) a (w1.alloc (.cells #[.int .u32 0, .int .u32 0, .int .u32 0, .int .u32 0] t)) := by
  have hn := hr.parts.1
  refine wpList_copy_splice hgd d s 54 54 ho 57 Try.underlying54 (by kernel_rfl) (some ⟨w1.heap.size, 0, none⟩) a1 4 4 n1 c1 hd hs w1.heap.size 0
    [.int .u32 0, .int .u32 0, .int .u32 0, .int .u32 0] t (heap_alloc_new w1 _) (l.map (Value.int .u32)) (by rw [List.length_map]; show l.length = min n1 4; omega) ?_ (by rw [List.length_map]; simp; omega) (ints_oneCell _ _) w1.heap.size w1 ((Below.refl _ _).alloc (Nat.le_refl _) _) (Nat.le_refl _) ?_
  · intro hp
    rw [List.length_map] at hp
    obtain ⟨g, off, rfl, hc⟩ := (hr.below ((Below.refl _ _).alloc (Nat.le_refl _) (.cells #[.int .u32 0, .int .u32 0, .int .u32 0, .int .u32 0] t))).addr (by omega)
    refine ⟨rfl, ⟨g, off, none⟩, rfl, fun j v hj => ?_⟩
    have hjl : j < l.length := by have := (List.getElem?_eq_some_iff.1 hj).1; simpa using this
    rw [List.getElem?_map, List.getElem?_eq_getElem hjl] at hj
    simp at hj
    rw [← hj, add_plain, hc j (by omega)]
    simp [List.getD_eq_getElem?_getD, List.getElem?_eq_getElem hjl]
  · intro w' hh hb
    rw [List.length_map]
    refine h w' (fun i hi => ?_) hb
    rw [cell_of_row w' _ i _ _ _ hh.out]
    exact splice_get l (by omega) i hi
/-- The two halves of a number of four words. -/
theorem four_get {V : Nat} (h : bl V ≤ 128) : ∃ x0 x1 x2 x3 : Int, (∀ i, i < 4 → (ws V).getD i 0 = [x0, x1, x2, x3].getD i 0) ∧ (0 ≤ x0 ∧ x0 < 4294967296) ∧ (0 ≤ x1 ∧ x1 < 4294967296) ∧ (0 ≤ x2 ∧ x2 < 4294967296) ∧ (0 ≤ x3 ∧ x3 < 4294967296) ∧
    bits .or .u64 (x3 * 4294967296) x2 = ((V / 18446744073709551616 : Nat) : Int) ∧ bits .or .u64 (x1 * 4294967296) x0 = ((V % 18446744073709551616 : Nat) : Int) := by
  have hw := words_ws V
  have hl := ws_len_le (A := V) (n := 4) (by omega)
  have d0 := wi_drop hw 0
  have d1 := wi_drop hw 1
  have d2 := wi_drop hw 2
  have d3 := wi_drop hw 3
  have g0 := getD_word hw 0
  have g1 := getD_word hw 1
  have g2 := getD_word hw 2
  have g3 := getD_word hw 3
  rw [List.drop_zero, wv_ws, Nat.zero_add] at d0
  rw [show 1 + 1 = 2 from rfl] at d1
  rw [show 2 + 1 = 3 from rfl] at d2
  rw [List.drop_of_length_le (show (ws V).length ≤ 3 + 1 by omega), wi_nil] at d3
  refine ⟨_, _, _, _, fun i hi => ?_, g0, g1, g2, g3, ?_, ?_⟩
  · match i, hi with
    | 0, _ => rfl
    | 1, _ => rfl
    | 2, _ => rfl
    | 3, _ => rfl
  · rw [or_high g2 g3]; omega
  · rw [or_high g0 g1]; omega
theorem two_div' (n : Nat) : two (n / 18446744073709551616) (n % 18446744073709551616) = n := by unfold two; omega
theorem ppack_n (neg : Bool) (V : Nat) (hV : bl V ≤ 128) (e : Int) (rest : Bool) (w : World) : Calls Try.prog 41 #[.bool neg, .int .u64 ((V / 18446744073709551616 : Nat) : Int), .int .u64 ((V % 18446744073709551616 : Nat) : Int), .int .i64 e, .bool rest] w fun e' w' => e' = .returned (.int .u64 ((sg neg (pat V e rest) : Nat) : Int)) ∧ Below w.heap.size w w' := by
  have hlt := bl_lt V
  have hle := pow_le hV
  rw [show (2 : Nat) ^ 128 = 340282366920938463463374607431768211456 by decide] at hle
  have := pack_c neg (V / 18446744073709551616) (V % 18446744073709551616) e rest (W_of (by omega)) (W_of (by omega)) w
  rw [two_div'] at this
  exact this
theorem plen {w1 : World} {a1 : Option Addr} {n1 c1 M k : Nat} (h : Nw w1 (.slice a1 n1 c1) M) (hM : bl M ≤ 32 * k) : n1 ≤ k := by rw [(Rd.parts h).1]; exact ws_len_le hM
set_option maxRecDepth 100000 in
set_option maxHeartbeats 4000000 in
theorem pmake_small (neg : Bool) (a : Option Addr) (n c M : Nat) (e b hi lo x0 x1 x2 x3 R : Int) (w : World) (HN : Hid (Calls Try.prog 63 #[.slice a n c] w fun e w' => ∃ v, e = .returned v ∧ Nw w' v M ∧ Below w.heap.size w w'))
    (HL : Hid (∀ (w1 : World) (a1 : Option Addr) (n1 c1 : Nat), Nw w1 (.slice a1 n1 c1) M → n1 ≤ 4)) (HB : Hid (∀ (w1 : World) (a1 : Option Addr) (n1 c1 : Nat), Nw w1 (.slice a1 n1 c1) M → Calls Try.prog 64 #[.slice a1 n1 c1] w1 fun e w' => e = .returned (.int .i64 b) ∧ w1 = w')) (hb : 0 ≤ b ∧ b ≤ 128)
    (HX : Hid (∀ i, i < 4 → (ws M).getD i 0 = [x0, x1, x2, x3].getD i 0)) (b0 : 0 ≤ x0 ∧ x0 < 4294967296) (b1 : 0 ≤ x1 ∧ x1 < 4294967296) (b2 : 0 ≤ x2 ∧ x2 < 4294967296) (b3 : 0 ≤ x3 ∧ x3 < 4294967296)
    (o1 : bits .or .u64 (x3 * 4294967296) x2 = hi) (o2 : bits .or .u64 (x1 * 4294967296) x0 = lo) (HP : Hid (∀ w, Calls Try.prog 41 #[.bool neg, .int .u64 hi, .int .u64 lo, .int .i64 (min (max e (-100000)) 100000), .bool false] w fun e w' => e = .returned (.int .u64 R) ∧ Below w.heap.size w w')) :
    Calls Try.prog 53 #[.bool neg, .slice a n c, .int .i64 e] w fun x w' => x = .returned (.int .u64 R) ∧ Below w.heap.size w w' := by
  go_enter Try.func53, Try.ntmps53
  go_wp2_with (first
    | (go_at_call 63; (with_reducible refine (HN.out).mono ?_); rintro e1 w1 ⟨v1, rfl, hv1, hb1⟩; obtain ⟨a1, n1, c1, rfl⟩ := Nw.slice hv1; have hl := HL.out _ _ _ _ hv1)
    | (go_at_call 64; (with_reducible refine (HB.out _ _ _ _ hv1).mono ?_); rintro e3 w3 ⟨rfl, rfl⟩)
    | (go_at_call 41; (with_reducible refine (HP.out _).mono ?_); rintro e5 w5 ⟨rfl, hb5⟩)
    | (refine wp_copy4 (o := ⟨some 67, _, _, _, _, _⟩) rfl (.tmp 65) (.tmp 66) 72 rfl _ _ _ (ws M) (by rfl) (by rfl) hv1 hl ?_; intro w4 hc4 hb4; have k0 := hc4 0 (by decide); have k1 := hc4 1 (by decide); have k2 := hc4 2 (by decide); have k3 := hc4 3 (by decide); rw [HX.out 0 (by decide)] at k0; rw [HX.out 1 (by decide)] at k1; rw [HX.out 2 (by decide)] at k2; rw [HX.out 3 (by decide)] at k3; clear hc4))
  go_ret
  exact ⟨rfl, btn hb1 (btn hb4 hb5)⟩
end Go.Proofs.Ytkifdppppihjcaa

namespace Go.Proofs.Ytkifdppppihjcaa
set_option linter.unusedVariables false
set_option linter.unusedSimpArgs false
open Go.RowKit Go.Shelf Go.ChangeShapes Go.WideShapes SF

def MakeRel (w1 : World) (l : List Int) (q : Nat) (v7 v29 : Value) (wr : World) : Prop := ∃ k : Nat, k ≤ q ∧ v7 = .bool (some0 l k) ∧ v29 = .int .i64 (k : Int) ∧ wr = w1
set_option maxRecDepth 100000 in
set_option maxHeartbeats 8000000 in
theorem pmake_great (neg : Bool) (a : Option Addr) (n c M V s q r : Nat) (e b S hi lo x0 x1 x2 x3 R m : Int) (rest1 : Bool) (w : World) (HN : Hid (Calls Try.prog 63 #[.slice a n c] w fun e w' => ∃ v, e = .returned v ∧ Nw w' v M ∧ Below w.heap.size w w'))
    (HL : Hid (∀ (w1 : World) (a1 : Option Addr) (n1 c1 : Nat), Nw w1 (.slice a1 n1 c1) M → n1 ≤ 1000 ∧ q < n1)) (HB : Hid (∀ (w1 : World) (a1 : Option Addr) (n1 c1 : Nat), Nw w1 (.slice a1 n1 c1) M → Calls Try.prog 64 #[.slice a1 n1 c1] w1 fun e w' => e = .returned (.int .i64 b) ∧ w1 = w')) (hb : 128 < b ∧ b ≤ 32000) (hS : b - 128 = S) (hS0 : 0 < S ∧ S ≤ 32000)
    (q0 : S / 32 = (q : Int)) (r0 : S % 32 = (r : Int)) (hr : r < 32) (hq : q ≤ 1000)
    (HG : Hid (∀ k, 0 ≤ (ws M).getD k 0 ∧ (ws M).getD k 0 < 4294967296)) (HSU : Hid (∀ k, some0 (ws M) (k + 1) = (some0 (ws M) k || ((ws M).getD k 0 != 0)))) (HS0 : Hid (some0 (ws M) 0 = false))
    (hx : bits .and .u32 ((ws M).getD q 0) ((2 ^ r - 1) % 4294967296) = m) (HR : Hid ((some0 (ws M) q || (m != 0)) = rest1))
    (HSh : Hid (∀ (w1 : World) (a1 : Option Addr) (n1 c1 : Nat), Nw w1 (.slice a1 n1 c1) M → Calls Try.prog 65 #[.slice a1 n1 c1, .int .i64 (-S)] w1 fun e w' => ∃ v, e = .returned (.tuple #[v, .int .i64 0]) ∧ Nw w' v V ∧ Below w1.heap.size w1 w'))
    (HL2 : Hid (∀ (w1 : World) (a1 : Option Addr) (n1 c1 : Nat), Nw w1 (.slice a1 n1 c1) V → n1 ≤ 4))
    (HX : Hid (∀ i, i < 4 → (ws V).getD i 0 = [x0, x1, x2, x3].getD i 0)) (b0 : 0 ≤ x0 ∧ x0 < 4294967296) (b1 : 0 ≤ x1 ∧ x1 < 4294967296) (b2 : 0 ≤ x2 ∧ x2 < 4294967296) (b3 : 0 ≤ x3 ∧ x3 < 4294967296)
    (o1 : bits .or .u64 (x3 * 4294967296) x2 = hi) (o2 : bits .or .u64 (x1 * 4294967296) x0 = lo) (HP : Hid (∀ w, Calls Try.prog 41 #[.bool neg, .int .u64 hi, .int .u64 lo, .int .i64 (min (max e (-100000)) 100000 + S), .bool rest1] w fun e w' => e = .returned (.int .u64 R) ∧ Below w.heap.size w w')) :
    Calls Try.prog 53 #[.bool neg, .slice a n c, .int .i64 e] w fun x w' => x = .returned (.int .u64 R) ∧ Below w.heap.size w w' := by
  have HX0 := Lib.hid hx
  clear hx
  go_enter Try.func53, Try.ntmps53
  go_wp2_with (first
    | (go_at_call 63; (with_reducible refine (HN.out).mono ?_); rintro e1 w1 ⟨v1, rfl, hv1, hb1⟩; obtain ⟨a1, n1, c1, rfl⟩ := Nw.slice hv1; obtain ⟨hl, hql⟩ := HL.out _ _ _ _ hv1; have hqc : q ≤ c1 := Nat.le_trans (Nat.le_of_lt hql) (Rd.parts hv1).2.1)
    | (go_at_call 64; (with_reducible refine (HB.out _ _ _ _ hv1).mono ?_); rintro e3 w3 ⟨rfl, rfl⟩))
  have HQ0 := Lib.hid q0
  have HR0 := Lib.hid r0
  have HSS := Lib.hid hS
  obtain ⟨g, off, rfl, hcl⟩ := Rd.addr hv1 (by omega)
  have HC := Lib.hid hcl
  clear q0 r0 hS hcl
  go_loopw [7, 9, 29] (fun v7 _ v29 wr => MakeRel w1 (ws M) q v7 v29 wr) (fun _ _ v29 _ => q - (intOf v29).toNat)
  case atStart => unfold MakeRel; exact ⟨0, Nat.zero_le _, by rw [HS0.out], rfl, rfl⟩
  case round =>
    obtain ⟨k, hk, rfl, rfl, rfl⟩ := hrel
    have hsu := HSU.out k
    by_cases kq : k < q
    · have ck := HC.out k (by omega)
      obtain ⟨z, hz⟩ : ∃ z, (ws M).getD k 0 = z := ⟨_, rfl⟩
      obtain ⟨t, ht⟩ : ∃ t, some0 (ws M) k = t := ⟨_, rfl⟩
      rw [hz] at ck hsu
      rw [ht] at hsu
      have HU := Lib.hid hsu
      rw [ht]
      have hkn : k < n1 := by omega
      clear hz ht hsu
      cases t
      · go_wp2
        go_roundw
        case rel => unfold MakeRel; exact ⟨k + 1, by omega, by rw [HU.out]; rfl, by go_num, rfl⟩
        case measure => simp [intOf]; omega
      · go_wp2
        go_roundw
        case rel => unfold MakeRel; exact ⟨k + 1, by omega, by rw [HU.out]; rfl, by go_num, rfl⟩
        case measure => simp [intOf]; omega
    · obtain rfl : k = q := by omega
      have q0 := HQ0.out
      have r0 := HR0.out
      have ck := HC.out k hql
      obtain ⟨z, hz⟩ : ∃ z, (ws M).getD k 0 = z := ⟨_, rfl⟩
      have gz := HG.out k
      rw [hz] at ck gz HX0
      have hx := HX0.out
      obtain ⟨t, ht⟩ : ∃ t, some0 (ws M) k = t := ⟨_, rfl⟩
      rw [ht] at HR
      rw [ht]
      clear hsu kq hz ht
      have HV := Lib.hid (fun j => hv1.below (below_drewN (Below.refl _ wr) j))
      cases t
      · have hm : (m != 0) = rest1 := HR.out
        go_wp2_with fail
        go_quiet (fail)
        have hw := HV.out nq
        go_wp2_with (first
          | (go_at_call 65; (with_reducible refine (HSh.out _ _ _ _ hw).mono ?_); rintro e5 w5 ⟨v5, rfl, hv5, hb5⟩; obtain ⟨a5, n5, c5, rfl⟩ := Nw.slice hv5; have hl5 := HL2.out _ _ _ _ hv5)
          | (go_at_call 41; (with_reducible refine (HP.out _).mono ?_); rintro e6 w6 ⟨rfl, hb6⟩)
          | (refine wp_copy4 (o := ⟨some 67, _, _, _, _, _⟩) rfl (.tmp 65) (.tmp 66) 72 rfl _ _ _ (ws V) (by rfl) (by rfl) hv5 hl5 ?_; intro w4 hc4 hb4; have k0 := hc4 0 (by decide); have k1 := hc4 1 (by decide); have k2 := hc4 2 (by decide); have k3 := hc4 3 (by decide); rw [HX.out 0 (by decide)] at k0; rw [HX.out 1 (by decide)] at k1; rw [HX.out 2 (by decide)] at k2; rw [HX.out 3 (by decide)] at k3; clear hc4))
        go_ret
        exact ⟨rfl, btn hb1 (btn (below_drewN (Below.refl _ _) nq) (btn hb5 (btn hb4 hb6)))⟩
      · have hm : rest1 = true := HR.out.symm
        subst hm
        clear hx
        go_wp2_with fail
        go_quiet (fail)
        have hw := HV.out nq
        go_wp2_with (first
          | (go_at_call 65; (with_reducible refine (HSh.out _ _ _ _ hw).mono ?_); rintro e5 w5 ⟨v5, rfl, hv5, hb5⟩; obtain ⟨a5, n5, c5, rfl⟩ := Nw.slice hv5; have hl5 := HL2.out _ _ _ _ hv5)
          | (go_at_call 41; (with_reducible refine (HP.out _).mono ?_); rintro e6 w6 ⟨rfl, hb6⟩)
          | (refine wp_copy4 (o := ⟨some 67, _, _, _, _, _⟩) rfl (.tmp 65) (.tmp 66) 72 rfl _ _ _ (ws V) (by rfl) (by rfl) hv5 hl5 ?_; intro w4 hc4 hb4; have k0 := hc4 0 (by decide); have k1 := hc4 1 (by decide); have k2 := hc4 2 (by decide); have k3 := hc4 3 (by decide); rw [HX.out 0 (by decide)] at k0; rw [HX.out 1 (by decide)] at k1; rw [HX.out 2 (by decide)] at k2; rw [HX.out 3 (by decide)] at k3; clear hc4))
        go_ret
        exact ⟨rfl, btn hb1 (btn (below_drewN (Below.refl _ _) nq) (btn hb5 (btn hb4 hb6)))⟩
end Go.Proofs.Ytkifdppppihjcaa

namespace Go.Proofs.Ytkifdppppihjcaa
set_option linter.unusedVariables false
set_option linter.unusedSimpArgs false
open Go.RowKit Go.Shelf Go.ChangeShapes Go.WideShapes SF

theorem and_low32 {X r : Nat} (hX : X < 4294967296) (hr : r < 32) : bits .and .u32 (X : Int) (((2 : Int) ^ r - 1) % 4294967296) = ((X % 2 ^ r : Nat) : Int) := by
  have p : 2 ^ r ≤ 2 ^ 31 := pow_le (by omega)
  have p0 : 0 < 2 ^ r := Nat.two_pow_pos r
  have e2 : ((2 : Int) ^ r) = ((2 ^ r : Nat) : Int) := by rw [Int.natCast_pow]; rfl
  rw [show (2 : Nat) ^ 31 = 2147483648 by decide] at p
  have e : ((2 : Int) ^ r - 1) % 4294967296 = ((2 ^ r - 1 : Nat) : Int) := by rw [e2]; omega
  rw [e, u32_and_nat _ _ hX (by omega), Nat.and_two_pow_sub_one_eq_mod]
theorem bl_shr {M s : Nat} (h : bl M = 128 + s) : bl (M / 2 ^ s) ≤ 128 := by
  apply bl_le_of_lt
  rw [Nat.div_lt_iff_lt_mul (Nat.two_pow_pos s), ← Nat.pow_add, ← h]
  exact bl_lt M
set_option maxHeartbeats 2000000 in
theorem pmake_c (neg : Bool) (a : Option Addr) (n c : Nat) (l : List Int) (e : Int) (w : World) (hr : Rd w .u32 (.slice a n c) l) (hw : Words l) (hn : n ≤ 1000000) :
    Calls Try.prog 53 #[.bool neg, .slice a n c, .int .i64 e] w fun x w' => x = .returned (.int .u64 ((makeR neg (wv l) e : Nat) : Int)) ∧ Below w.heap.size w w' := by
  have HN := pnorm_c a n c l w hr hw (by omega)
  have hbl := len_bound hw
  have hln := hr.parts.1
  obtain ⟨M, hM⟩ : ∃ M, wv l = M := ⟨_, rfl⟩
  rw [hM] at HN hbl ⊢
  have HN := Lib.hid HN
  have bM : bl M ≤ 32000000 := by omega
  clear hbl hln hM hr hw hn
  by_cases g1 : 32000 < bl M
  · have HL := Lib.hid (fun (w1 : World) (a1 : Option Addr) (n1 c1 : Nat) (h : Nw w1 (.slice a1 n1 c1) M) => show 1000 < n1 by rw [(Rd.parts h).1]; exact len_gt.2 g1)
    have HR := Lib.hid (show ((makeR neg M e : Nat) : Int) = 9221120237041090560 by unfold makeR; rw [if_pos g1]; rfl)
    clear g1 bM
    go_enter Try.func53, Try.ntmps53
    go_wp2_with (go_at_call 63; (with_reducible refine (HN.out).mono ?_); rintro e1 w1 ⟨v1, rfl, hv1, hb1⟩; obtain ⟨a1, n1, c1, rfl⟩ := hv1.slice; have hl := HL.out _ _ _ _ hv1)
    go_ret
    exact ⟨ret1 HR.out.symm, hb1⟩
  have hR : makeR neg M e = makeV neg M e := makeR_ok neg e (by omega)
  rw [hR, ← make_clamp neg M e 100000 (by decide) (by omega)]
  clear hR
  have HB := Lib.hid (fun (w1 : World) (a1 : Option Addr) (n1 c1 : Nat) (h : Nw w1 (.slice a1 n1 c1) M) => pbits_c a1 n1 c1 M w1 h (by omega))
  by_cases g2 : bl M ≤ 128
  · obtain ⟨x0, x1, x2, x3, hx, b0, b1, b2, b3, o1, o2⟩ := four_get g2
    exact pmake_small neg a n c M e _ _ _ x0 x1 x2 x3 _ w HN (Lib.hid (fun w1 a1 n1 c1 h => plen h (by omega))) HB (by omega) (Lib.hid hx) b0 b1 b2 b3 o1 o2 (Lib.hid (fun w => ppack_n neg M g2 _ false w))
  · obtain ⟨s, hs⟩ : ∃ s, bl M = 128 + s := ⟨bl M - 128, by omega⟩
    have hV := bl_shr hs
    have N0 : M ≠ 0 := by intro h; subst h; rw [bl_zero] at hs; omega
    have hbw := bl_words N0
    have hxl := getD_word (words_ws M) ((ws M).length - 1)
    have bx : bl ((ws M).getD ((ws M).length - 1) 0).toNat ≤ 32 := bl_le_of_lt (k := 32) (by rw [show (2 : Nat) ^ 32 = 4294967296 by decide]; omega)
    have lM : (ws M).length ≤ 1000 := ws_len_le (by omega)
    obtain ⟨x0, x1, x2, x3, hx, b0, b1, b2, b3, o1, o2⟩ := four_get hV
    have hrw := rest_words (words_ws M) s
    rw [wv_ws] at hrw
    have gq := getD_word (words_ws M) (s / 32)
    obtain ⟨X, hX⟩ := Int.eq_ofNat_of_zero_le gq.1
    have hand := and_low32 (X := X) (r := s % 32) (by omega) (by omega)
    rw [hX, Int.toNat_natCast] at hrw
    rw [← hX] at hand
    have hR : (some0 (ws M) (s / 32) || (((X % 2 ^ (s % 32) : Nat) : Int) != 0)) = decide (M % 2 ^ s ≠ 0) := by
      rw [hrw]; congr 1
      rw [Bool.eq_iff_iff]; simp only [bne_iff_ne, decide_eq_true_eq]; omega
    have hmk : makeV neg M (min (max e (-100000)) 100000) = sg neg (pat (M / 2 ^ s) (min (max e (-100000)) 100000 + (s : Int)) (decide (M % 2 ^ s ≠ 0))) := by
      unfold makeV; rw [make_top M s _ hs]
    rw [hmk]
    exact pmake_great neg a n c M (M / 2 ^ s) s (s / 32) (s % 32) e _ (s : Int) _ _ x0 x1 x2 x3 _ _ _ w HN
      (Lib.hid (fun w1 a1 n1 c1 h => by have := (Rd.parts h).1; omega)) HB (by omega) (by omega) (by omega) (by omega) (by omega) (by omega) (by omega)
      (Lib.hid (fun k => getD_word (words_ws M) k)) (Lib.hid (fun k => some0_succ (words_ws M) k)) (Lib.hid (some0_zero _)) hand (Lib.hid hR)
      (Lib.hid (fun w1 a1 n1 c1 h => pshr_c a1 n1 c1 M s w1 h (by omega) (by omega) (by omega)))
      (Lib.hid (fun w1 a1 n1 c1 h => plen h (by omega))) (Lib.hid hx) b0 b1 b2 b3 o1 o2 (Lib.hid (fun w => ppack_n neg _ hV _ _ w))
end Go.Proofs.Ytkifdppppihjcaa

namespace Go.Proofs.Ytkifdppppihjcaa
set_option linter.unusedVariables false
set_option linter.unusedSimpArgs false
open Go.RowKit Go.Shelf Go.ChangeShapes Go.WideShapes SF

theorem psplit_c (a : Nat) (ha : W a) (h1 : nan a = false) (h2 : inf a = false) (w : World) : Calls Try.prog 52 #[.int .u64 a] w fun e w' => ∃ b n c, e = .returned (.tuple #[.bool (ng a), .slice b n c, .int .i64 (se a), .bool true]) ∧ Nw w' (.slice b n c) (sm a) ∧ Below w.heap.size w w' := by
  have HN := fun w => isnan_c a ha w
  have HI := fun w => isinf_c a ha w
  rw [h1] at HN
  rw [h2] at HI
  have HS := fun w => split_c a ha w
  have lm := sm_lt a
  unfold num at HS
  have HW : Hid (wv [IntKind.u32.wrap (sm a : Int), IntKind.u32.wrap ((sm a : Int) / 4294967296)] = sm a ∧ Words [IntKind.u32.wrap (sm a : Int), IntKind.u32.wrap ((sm a : Int) / 4294967296)]) := by
    have e1 : IntKind.u32.wrap (sm a : Int) = (sm a : Int) % 4294967296 := IntKind.wrap_u32 _
    have e2 : IntKind.u32.wrap ((sm a : Int) / 4294967296) = (sm a : Int) / 4294967296 % 4294967296 := IntKind.wrap_u32 _
    rw [e1, e2]
    refine ⟨?_, words_cons.2 ⟨by omega, words_cons.2 ⟨by omega, words_nil⟩⟩⟩
    simp only [wv]; omega
  have m0 : (0 : Int) ≤ (sm a : Int) := Int.natCast_nonneg _
  have m1 : (sm a : Int) < 9007199254740992 := by omega
  obtain ⟨p, hp⟩ : ∃ p, ng a = p := ⟨_, rfl⟩
  obtain ⟨e, he⟩ : ∃ e, se a = e := ⟨_, rfl⟩
  obtain ⟨M, hM⟩ : ∃ M, sm a = M := ⟨_, rfl⟩
  rw [hp, he, hM] at HS
  rw [hM] at HW m0 m1
  rw [hp, he, hM]
  obtain ⟨m, hm⟩ : ∃ m : Int, (M : Int) = m := ⟨_, rfl⟩
  rw [hm] at HS HW m0 m1
  have HN := Lib.hid HN
  have HI := Lib.hid HI
  have HS := Lib.hid HS
  clear hp he hM hm h1 h2 lm
  go_enter Try.func52, Try.ntmps52
  go_wp2_with (first
    | (go_at_call 33; (with_reducible refine (HN.out _).mono ?_); rintro e1 w1 ⟨rfl, rfl⟩)
    | (go_at_call 35; (with_reducible refine (HI.out _).mono ?_); rintro e1 w1 ⟨rfl, rfl⟩)
    | (go_at_call 39; (with_reducible refine (HS.out _).mono ?_); rintro e1 w1 ⟨rfl, hb1⟩))
  obtain ⟨w2, hw2⟩ : ∃ x, w1.alloc (.cells #[.bool p, .int .u64 m, .int .i64 e] 35) = x := ⟨_, rfl⟩
  obtain ⟨B, hB⟩ : ∃ x, w1.heap.size = x := ⟨_, rfl⟩
  have k0 : w2.cell? ⟨B, 0, none⟩ = some (.bool p) := by rw [← hw2, ← hB]; simp [go_sem]
  have k1 : w2.cell? ⟨B, 1, none⟩ = some (.int .u64 m) := by rw [← hw2, ← hB]; simp [go_sem]
  have k2 : w2.cell? ⟨B, 2, none⟩ = some (.int .i64 e) := by rw [← hw2, ← hB]; simp [go_sem]
  have hb2 : Below w1.heap.size w1 w2 := by rw [← hw2]; exact (Below.refl _ _).alloc (Nat.le_refl _) _
  have hb3 := btn hb1 hb2
  have hf := Below.refl w2.heap.size w2
  rw [hw2, hB]
  clear hw2 hB hb1 hb2
  go_region_held3 (fun w' => w'.cell? ⟨B, 0, none⟩ = some (.bool p) ∧ w'.cell? ⟨B, 1, none⟩ = some (.int .u64 m) ∧ w'.cell? ⟨B, 2, none⟩ = some (.int .i64 e) ∧ Below w2.heap.size w2 w')
    (first
      | exact ⟨k0, k1, k2, (Below.refl _ _).drew⟩
      | (go_split_ands; exact ⟨by assumption, by assumption, by assumption, by assumption⟩)
      | (go_split_ands; exact ⟨cell_below hb5 (cell_below ((Below.refl _ _).alloc (Nat.le_refl _) _) (by assumption)), cell_below hb5 (cell_below ((Below.refl _ _).alloc (Nat.le_refl _) _) (by assumption)), cell_below hb5 (cell_below ((Below.refl _ _).alloc (Nat.le_refl _) _) (by assumption)), btn (btn (by assumption) ((Below.refl _ _).alloc (Nat.le_refl _) _)) hb5⟩)
      | (go_split_ands; exact ⟨cell_below hb5 (by assumption), cell_below hb5 (by assumption), cell_below hb5 (by assumption), btn (by assumption) hb5⟩)
      | (go_split_ands; exact ⟨cell_below ((Below.refl _ _).alloc (Nat.le_refl _) _) (by assumption), cell_below ((Below.refl _ _).alloc (Nat.le_refl _) _) (by assumption), cell_below ((Below.refl _ _).alloc (Nat.le_refl _) _) (by assumption), btn (by assumption) ((Below.refl _ _).alloc (Nat.le_refl _) _)⟩))
    (first
      | (go_at_call 63; refine (pnorm_c _ 2 2 _ _ ((rd_two w2 _ _ _).below (Below.refl _ _).drew) HW.out.2 (by decide)).mono ?_; rintro e1 w5 ⟨v, rfl, hv, hb5⟩))
  rw [HW.out.1] at hv
  obtain ⟨b5, n5, c5, rfl⟩ := Nw.slice hv
  go_wp2
  exact bodyPost_ret (v := .tuple #[.bool p, .slice b5 n5 c5, .int .i64 e, .bool true]) (by simp [results, Try.results52, go_sem]) rfl ⟨b5, n5, c5, rfl, hv, btn hb3 (drew_alloc_then hb5)⟩
end Go.Proofs.Ytkifdppppihjcaa
