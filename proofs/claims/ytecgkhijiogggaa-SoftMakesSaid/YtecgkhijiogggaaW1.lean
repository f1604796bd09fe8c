/- The program's words of numbers: Shift to the right. -/
import Derived.Test.YtecgkhijiogggaaW0
namespace Go.Proofs.Ytecgkhijiogggaa
set_option linter.unusedVariables false
set_option linter.unusedSimpArgs false
open Go.RowKit Go.Shelf Go.ChangeShapes Go.WideShapes SF

/-- Right, into a made array. -/
def PShr (la : List Int) (q r k L : Nat) (o : List Int) : Prop := o.length = L ∧ Words o ∧ ShrInv la q r k (o.take k)
theorem pshr_zero (la : List Int) (q r L : Nat) : PShr la q r 0 L (List.replicate L 0) := ⟨List.length_replicate, words_zeros L, by rw [List.take_zero]; exact shrInv_zero la q r⟩
theorem pshr_next {la o : List Int} {q r k L : Nat} {X Y : Int} (wa : Words la) (hr : r < 32) (I : PShr la q r k L o) (hk : k < L) (hX : X = la.getD (q + k) 0 + 4294967296 * la.getD (q + k + 1) 0) (hY : X / (2 : Int) ^ r = Y) : 0 ≤ Y ∧ Y < 18446744073709551616 ∧ PShr la q r (k + 1) L (o.set k (Y % 4294967296)) := by
  obtain ⟨h1, h2, h3⟩ := I
  have n := shrInv_next wa hr h3 hX hY
  refine ⟨n.1, n.2.1, by rw [List.length_set]; exact h1, words_set h2 (by omega) (by omega), ?_⟩
  have e : (o.set k (Y % 4294967296)).take (k + 1) = o.take k ++ [Y % 4294967296] := by
    rw [take_getD (by rw [List.length_set]; omega), getD_set (by omega), if_pos rfl]
    rw [List.take_set, List.set_eq_of_length_le (by rw [List.length_take]; omega)]
  rw [e]; exact n.2.2
theorem pshr_end {la o : List Int} {q r s L : Nat} (wa : Words la) (I : PShr la q r L L o) (hk : la.length ≤ q + L) (hs : 32 * q + r = s) (hr : r < 32) : Words o ∧ wv o = wv la / 2 ^ s := by
  obtain ⟨h1, h2, h3⟩ := I
  rw [List.take_of_length_le (by omega)] at h3
  have := shrInv_end wa h3 hk hs hr
  exact this
def PShrRel (w : World) (la : List Int) (q r L G : Nat) (v : Value) (wr : World) : Prop := ∃ (k : Nat) (o : List Int), k ≤ L ∧ v = .int .i64 (k : Int) ∧ Below w.heap.size w wr ∧ Hid (Arr wr G L o ∧ PShr la q r k L o)
set_option maxRecDepth 100000 in
set_option maxHeartbeats 4000000 in
theorem pshr_c (a : Option Addr) (n c N s : Nat) (w : World) (ha : Nw w (.slice a n c) N) (hs0 : 0 < s) (hs : s < bl N) (hb : bl N ≤ 64000) :
    Calls Try.prog 105 #[.slice a n c, .int .i64 (-(s : Int))] w fun e w' => ∃ v, e = .returned (.tuple #[v, .int .i64 0]) ∧ Nw w' v (N / 2 ^ s) ∧ Below w.heap.size w w' := by
  have na := (Rd.parts ha).1
  have hcap := (Rd.parts ha).2.1
  have hm2 : (ws N).length ≤ 2000 := ws_len_le (by omega)
  have HL := plarge_c a n c (ws N) w ha (words_ws N) (by omega)
  have HT := ptrim_c a n c (ws N) w ha (words_ws N) (by omega)
  rw [wv_ws, show decide (64000 < bl N) = false from decide_eq_false (by omega)] at HL
  rw [wv_ws, ← na] at HT
  have HL := Lib.hid HL
  have HT := Lib.hid HT
  have N0 : N ≠ 0 := by intro h; subst h; rw [bl_zero] at hs; omega
  have hbw := bl_words N0
  have hxl := getD_word (words_ws N) ((ws N).length - 1)
  have bx : bl ((ws N).getD ((ws N).length - 1) 0).toNat ≤ 32 := bl_le_of_lt (k := 32) (by rw [show (2 : Nat) ^ 32 = 4294967296 by decide]; omega)
  have wa := words_ws N
  have A0 : wv (ws N) = N := wv_ws N
  have hsn : s < 32 * n := by omega
  obtain ⟨g, off, rfl, hcl⟩ := Rd.addr ha (by omega)
  have HA := Lib.hid hcl
  obtain ⟨lc, hlc⟩ : ∃ l, ws N = l := ⟨_, rfl⟩
  rw [hlc] at HA wa A0 na hm2
  obtain ⟨q, hq⟩ : ∃ q, s / 32 = q := ⟨_, rfl⟩
  obtain ⟨r, hr⟩ : ∃ r, s % 32 = r := ⟨_, rfl⟩
  obtain ⟨S, hS⟩ : ∃ S : Int, (s : Int) = S := ⟨_, rfl⟩
  have q0 : S / 32 = (q : Int) := by omega
  have r0 : S % 32 = (r : Int) := by omega
  have hS0 : 0 < S := by omega
  have hS1 : S < 64000 := by omega
  have hS2 : S < 32 * (n : Int) := by omega
  have hqb : q < n := by omega
  have hr32 : r < 32 := by omega
  have hsum : 32 * q + r = s := by omega
  obtain ⟨L, hLq⟩ : ∃ L, n = q + L := ⟨n - q, by omega⟩
  have HI := Lib.hid (pshr_zero lc q r L)
  have HN := Lib.hid (fun (o : List Int) (k : Nat) (X Y : Int) (I : PShr lc q r k L o) (hk : k < L) => @pshr_next lc o q r k L X Y wa hr32 I hk)
  have HE := Lib.hid (fun (o : List Int) (I : PShr lc q r L L o) => show Words o ∧ wv o = N / 2 ^ s by
    have := pshr_end (s := s) wa I (by omega) hsum hr32
    rw [A0] at this; exact this)
  have GW := Lib.hid (fun k => getD_word wa k)
  have ZW := Lib.hid (fun (k : Nat) (h : n ≤ k) => @getD0 lc k (by omega))
  obtain ⟨M, hM⟩ : ∃ M, N / 2 ^ s = M := ⟨_, rfl⟩
  rw [hM] at HE ⊢
  rw [hS]
  have hn2 : n ≤ 2000 := by omega
  have hcq : ¬ c = q := by omega
  clear hM ha wa na hq hr hS hlc A0 hsum hb hcl hbw hxl bx N0 hs hs0 hsn hm2
  subst hLq
  go_enter Try.func105, Try.ntmps105
  go_wp2_with (first
    | (go_at_call 117; (with_reducible refine (HL.out).mono ?_); rintro e1 w1 ⟨rfl, rfl⟩)
    | (go_at_call 115; (with_reducible refine (HT.out).mono ?_); rintro e1 w1 ⟨rfl, hv, rfl⟩)
    | (at_make; go_loud (refine wp_make 41 Try.underlying41 info_u32 w rfl (.tmp 49) rfl _ L rfl (by omega) (by omega) ?_); intro w3 harr hb3))
  have HAR := Lib.hid harr
  clear harr q0 r0 hS0 hS1 hS2
  go_loopw [8, 9, 10, 53] (fun _ _ _ v53 wr => PShrRel w lc q r L w.heap.size v53 wr) (fun _ _ _ v53 _ => L - (intOf v53).toNat)
  case atStart => unfold PShrRel; exact ⟨0, _, by omega, rfl, hb3, HAR.out, HI.out⟩
  case round =>
    obtain ⟨k, o, hk, rfl, hbw, HO⟩ := hrel
    by_cases km : k < L
    · have ca := cell_below hbw (HA.out (q + k) (by omega))
      rw [← Nat.add_assoc] at ca
      have gx := GW.out (q + k)
      have gy := GW.out (q + k + 1)
      have HX := HN.out o k
      have zy := ZW.out (q + k + 1)
      have cz := HO.out.1.cell (j := k) km
      have f0 := HO.out.1.frozen k
      by_cases kn : k + 1 < L
      · have cb := cell_below hbw (HA.out (q + k + 1) (by omega))
        rw [show off + (q + k + 1) = off + q + (k + 1) by omega] at cb
        obtain ⟨x, hx⟩ : ∃ x, lc.getD (q + k) 0 = x := ⟨_, rfl⟩
        obtain ⟨y, hy⟩ : ∃ y, lc.getD (q + k + 1) 0 = y := ⟨_, rfl⟩
        rw [hx] at ca gx HX
        rw [hy] at cb gy HX
        have ol := or_low gx gy
        obtain ⟨X, hX⟩ : ∃ X, x + 4294967296 * y = X := ⟨_, rfl⟩
        have X0 : 0 ≤ X := by omega
        have X1 : X < 18446744073709551616 := by omega
        rw [hX] at ol HX
        obtain ⟨Y, hY⟩ : ∃ Y, X / (2 : Int) ^ r = Y := ⟨_, rfl⟩
        obtain ⟨y0, y1, hI⟩ := HX X Y HO.out.2 km rfl hY
        have H7 := Lib.hid hI
        have HW := Lib.hid (HO.out.1.set k (Y % 4294967296))
        clear hx hy hX hI HX zy
        go_wp2
        go_roundw
        case rel =>
          unfold PShrRel
          exact ⟨k + 1, _, by omega, by go_num, hbw.setCell (Nat.le_refl _) _, HW.out, H7.out⟩
        case measure => simp [intOf]; omega
      · have zy := zy (by omega)
        rw [zy] at HX
        obtain ⟨x, hx⟩ : ∃ x, lc.getD (q + k) 0 = x := ⟨_, rfl⟩
        rw [hx] at ca gx HX
        obtain ⟨Y, hY⟩ : ∃ Y, x / (2 : Int) ^ r = Y := ⟨_, rfl⟩
        obtain ⟨y0, y1, hI⟩ := HX x Y HO.out.2 km (by omega) hY
        have H7 := Lib.hid hI
        have HW := Lib.hid (HO.out.1.set k (Y % 4294967296))
        clear hx hI HX zy gy
        go_wp2
        go_roundw
        case rel =>
          unfold PShrRel
          exact ⟨k + 1, _, by omega, by go_num, hbw.setCell (Nat.le_refl _) _, HW.out, H7.out⟩
        case measure => simp [intOf]; omega
    · obtain rfl : k = L := by omega
      have E := HE.out o HO.out.2
      have HW := Lib.hid E
      have HC := ptrim_c _ k k o _ HO.out.1.rd E.1 (by omega)
      rw [E.2] at HC
      have HC := Lib.hid HC
      clear E
      go_wp2_with (go_at_call 115; (with_reducible refine (HC.out).mono ?_); rintro e1 w5 ⟨rfl, hv5, rfl⟩)
      go_ret2
      exact ⟨_, rfl, hv5, hbw⟩
end Go.Proofs.Ytecgkhijiogggaa
