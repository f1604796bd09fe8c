/- The program's words of numbers: trim, Norm, Bits. -/
import Derived.Test.YtecgkhijiogggaaU2
import Derived.Test.YtecgkhijiogggaaG
import Derived.Lib.SliceRun
namespace Go.Proofs.Ytecgkhijiogggaa
set_option linter.unusedVariables false
set_option linter.unusedSimpArgs false
open Go.RowKit Go.Shelf Go.ChangeShapes Go.WideShapes SF

theorem ptrim_c (a : Option Addr) (n c : Nat) (l : List Int) (w : World) (hr : Rd w .u32 (.slice a n c) l) (hw : Words l) (hn : n ≤ 4611686018427387903) : Calls Try.prog 115 #[.slice a n c] w fun e w' => e = .returned (.slice a (ws (wv l)).length c) ∧ Nw w (.slice a (ws (wv l)).length c) (wv l) ∧ w = w' := by
  have HT := Lib.hid (fun m => @trim_rd w a n c l hr hw m)
  have hnc := hr.parts.2.1
  go_enter Try.func115, Try.ntmps115
  go_wp2
  go_loop [0] (fun v0 => ∃ m : Nat, m ≤ n ∧ v0 = .slice a m c ∧ Hid (∀ i, m ≤ i → i < n → l.getD i 0 = 0)) (fun v0 => match v0 with | .slice _ m _ => m | _ => 0)
  case atStart => exact ⟨n, Nat.le_refl _, rfl, fun i h1 h2 => by omega⟩
  case round =>
    obtain ⟨m, hm, rfl, HZ⟩ := hrel
    cases m with
    | zero =>
      obtain ⟨e1, e2, e3⟩ := HT.out 0 (by omega) HZ.out (.inl rfl)
      have H1 := Lib.hid e1
      have H2 := Lib.hid e2
      clear e1 e2 e3
      go_wp2
      go_ret
      exact ⟨by rw [← H1.out]; rfl, by rw [← H1.out]; exact H2.out, rfl⟩
    | succ p =>
      obtain ⟨g, off, rfl, hcl⟩ := hr.addr (by omega)
      have hp := hcl p (by omega)
      have hpn : p < p + 1 := by omega
      obtain ⟨x, hx⟩ : ∃ x, l.getD p 0 = x := ⟨_, rfl⟩
      rw [hx] at hp
      by_cases hz : x = 0
      · have hz1 := beq_of hz
        have HZ2 := Lib.hid (show ∀ i, p ≤ i → i < n → l.getD i 0 = 0 from fun i h1 h2 => by
          by_cases e : i = p
          · subst e; rw [hx]; exact hz
          · exact HZ.out i (by omega) h2)
        clear hz hcl hx
        go_wp2
        go_round
        case rel => exact ⟨p, by omega, rfl, HZ2.out⟩
        case measure => simp
      · have hz1 := beq_no hz
        obtain ⟨e1, e2, e3⟩ := HT.out (p + 1) (by omega) HZ.out (.inr (by rw [Nat.add_sub_cancel, hx]; exact hz))
        have H1 := Lib.hid e1
        have H2 := Lib.hid e2
        clear e1 e2 e3 hz hcl hx
        go_wp2
        go_ret
        exact ⟨by rw [← H1.out]; rfl, by rw [← H1.out]; exact H2.out, rfl⟩
set_option maxRecDepth 100000 in
theorem pclone_c (a : Option Addr) (n c : Nat) (l : List Int) (w : World) (h : Rd w .u32 (.slice a n c) l) (hs : n ≤ 100000000) :
    Calls Try.prog 114 #[.slice a n c] w fun e w' => ∃ v, e = .returned v ∧ Rd w' .u32 v l ∧ Below w.heap.size w w' := by
  have HNL := Lib.hid h.parts.1
  cases a with
  | none =>
    have hl : l = [] := by
      rcases h.parts.2.2 with h | ⟨g, off, ea, _⟩
      · exact h
      · cases ea
    have HL := Lib.hid hl
    have E := fun W => Lib.run_eql_slice_nil (P := Try.prog) W 41 35 none n c 0 0 Try.underlying41
    clear h hl
    go_enter Try.func114, Try.ntmps114
    go_wp2
    go_ret
    exact ⟨_, rfl, by rw [HL.out]; exact Rd.nil _ _ _, Below.refl _ _⟩
  | some ad =>
    have HR := Lib.hid h
    have own0 : (w.alloc (.cells #[] 35)).ownsRow w.heap.size 35 1 (.slice (some ⟨w.heap.size, 0, none⟩) 0 0) 0 [] := World.ownsRow_made w #[] 0 (Nat.le_refl _) (Nat.zero_le _) rfl
    have H0 := Lib.hid own0
    have b0 := (Below.refl w.heap.size w).alloc (Nat.le_refl _) (.cells #[] 35)
    have E := fun W => Lib.run_eql_slice_nil (P := Try.prog) W 41 35 (some ad) n c 0 0 Try.underlying41
    have HNN := Lib.hid (show 0 + l.length < 1000000000000 by have := HNL.out; omega)
    clear own0 h
    go_enter Try.func114, Try.ntmps114
    go_wp2_with (at_builtin; go_loud (refine wp_apps 41 35 (.int .u32 0) 4 Try.underlying41 info_u32 rfl w.heap.size (.slice (some ⟨w.heap.size, 0, none⟩) 0 0) 0 [] rfl (.tmp 5) (.tmp 6) (by rfl) (by rfl) H0.out (by simp) .u32 _ l (by rfl) (HR.out.below b0) HNN.out (by decide) ?_); intro v2 w2 hown2 hg2 _; have hO := Lib.hid hown2; have hb2 := b0.trans (grown_below hg2 H0.out (by simp)); clear hown2 hg2)
    go_ret
    exact ⟨_, rfl, Rd.of_own (by have := hO.out; rwa [Nat.zero_add, List.nil_append] at this), hb2⟩
theorem pnorm_c (a : Option Addr) (n c : Nat) (l : List Int) (w : World) (hr : Rd w .u32 (.slice a n c) l) (hw : Words l) (hn : n ≤ 100000000) : Calls Try.prog 103 #[.slice a n c] w fun e w' => ∃ v, e = .returned v ∧ Nw w' v (wv l) ∧ Below w.heap.size w w' := by
  have HT := Lib.hid (ptrim_c a n c l w hr hw (by omega))
  have hk : (ws (wv l)).length ≤ 100000000 := ws_len_nw hw hr.parts.1 hn
  have HC := Lib.hid (fun (w : World) (h : Nw w (.slice a (ws (wv l)).length c) (wv l)) => pclone_c a _ c (ws (wv l)) w h hk)
  obtain ⟨m, hm⟩ : ∃ m, (ws (wv l)).length = m := ⟨_, rfl⟩
  rw [hm] at HT HC
  clear hm hk hr hw hn
  go_enter Try.func103, Try.ntmps103
  go_wp2_with (first
    | (go_at_call 115; (with_reducible refine (HT.out).mono ?_); rintro e1 w1 ⟨rfl, hv, rfl⟩)
    | (go_at_call 114; (with_reducible refine (HC.out _ hv).mono ?_); rintro e1 w2 ⟨v, rfl, hv2, hb⟩))
  go_ret
  exact ⟨v, rfl, hv2, hb⟩
theorem plarge_c (a : Option Addr) (n c : Nat) (l : List Int) (w : World) (hr : Rd w .u32 (.slice a n c) l) (hw : Words l) (hn : n ≤ 100000000) : Calls Try.prog 117 #[.slice a n c] w fun e w' => e = .returned (.bool (decide (64000 < bl (wv l)))) ∧ w = w' := by
  have HC := Lib.hid (ptrim_c a n c l w hr hw (by omega))
  obtain ⟨B, hB⟩ : ∃ B, decide (64000 < bl (wv l)) = B := ⟨_, rfl⟩
  have HB := Lib.hid (show decide ((2000 : Int) < ((ws (wv l)).length : Int)) = B by
    rw [← hB]; have := ws_length (wv l); exact decide_eq_decide.2 (by omega))
  rw [hB]
  have hkn := ws_len_nw hw hr.parts.1 hn
  obtain ⟨k, hk⟩ : ∃ k, (ws (wv l)).length = k := ⟨_, rfl⟩
  rw [hk] at HC HB hkn
  clear hB hk
  go_enter Try.func117, Try.ntmps117
  go_wp2_with (go_at_call 115; (with_reducible refine (HC.out).mono ?_); rintro e1 w1 ⟨rfl, hv, rfl⟩)
  go_ret
  exact ⟨by rw [← HB.out]; rfl, rfl⟩
theorem pbits_c (a : Option Addr) (n c N : Nat) (w : World) (hr : Nw w (.slice a n c) N) (hn : bl N ≤ 64000) : Calls Try.prog 104 #[.slice a n c] w fun e w' => e = .returned (.int .i64 (bl N : Int)) ∧ w = w' := by
  have HC := ptrim_c a n c (ws N) w hr (words_ws N) (by have := (Rd.parts hr).1; have := ws_len_le (A := N) (n := 2000) (by omega); omega)
  rw [wv_ws] at HC
  have hkn : (ws N).length ≤ 2000 := ws_len_le (by omega)
  by_cases h0 : N = 0
  · subst h0
    rw [ws_zero] at HC
    have HC := Lib.hid HC
    clear hkn hr
    go_enter Try.func104, Try.ntmps104
    go_wp2_with (go_at_call 115; (with_reducible refine (HC.out).mono ?_); rintro e1 w1 ⟨rfl, hv, rfl⟩)
    go_ret
    exact ⟨rfl, rfl⟩
  · have b := bl_words h0
    have g := getD_word (words_ws N) ((ws N).length - 1)
    obtain ⟨m, hm⟩ : ∃ m, (ws N).length = m + 1 := ⟨(ws N).length - 1, by have := b.2.2; omega⟩
    have HG : ∀ (w1 : World), Nw w1 (.slice a (m + 1) c) N → ∃ g off, a = some ⟨g, off, none⟩ ∧ w1.cell? ⟨g, off + m, none⟩ = some (.int .u32 ((ws N).getD m 0)) := fun w1 h => by
      obtain ⟨g, off, rfl, hc⟩ := Rd.addr h (by omega)
      exact ⟨g, off, rfl, hc m (by omega)⟩
    have HG := Lib.hid HG
    rw [hm] at HC b hkn
    rw [hm, Nat.add_sub_cancel] at g
    rw [Nat.add_sub_cancel] at b
    obtain ⟨x, hx⟩ : ∃ x, (ws N).getD m 0 = x := ⟨_, rfl⟩
    rw [hx] at g b HG
    obtain ⟨X, rfl⟩ := Int.eq_ofNat_of_zero_le g.1
    rw [Int.toNat_natCast] at b
    rw [b.1]
    have b32 : bl X ≤ 32 := bl_le_of_lt (k := 32) (by rw [show (2 : Nat) ^ 32 = 4294967296 by decide]; omega)
    have L : ∀ w, Calls Try.prog 116 #[.int .u32 (X : Int)] w fun e w' => e = .returned (.int .i64 (bl X : Int)) ∧ w = w' := fun w =>
      (Try.bits_Len32 (X : Int) w (by omega) (by omega)).mono fun _ _ ⟨h1, h2⟩ => ⟨by rw [h1, Int.toNat_natCast, bitLen_bl (by omega)], h2.symm⟩
    have HL := Lib.hid L
    have HC := Lib.hid HC
    clear h0 b hm hx g hr L
    go_enter Try.func104, Try.ntmps104
    go_wp2_with (first
      | (go_at_call 115; (with_reducible refine (HC.out).mono ?_); rintro e1 w1 ⟨rfl, hv, rfl⟩; obtain ⟨g, off, rfl, hcl⟩ := HG.out _ hv)
      | (go_at_call 116; (with_reducible refine (HL.out _).mono ?_); rintro e1 w1 ⟨rfl, rfl⟩))
    go_ret
    exact ⟨ret1 (by omega), rfl⟩
end Go.Proofs.Ytecgkhijiogggaa
