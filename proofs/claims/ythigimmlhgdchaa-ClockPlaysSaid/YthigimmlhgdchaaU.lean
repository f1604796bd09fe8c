/- Init and Pop of the heap. -/
import Derived.Test.YthigimmlhgdchaaT
namespace Go.Proofs.Ythigimmlhgdchaa
set_option linter.unusedVariables false
set_option linter.unusedSimpArgs false
open Go.RowKit

set_option maxRecDepth 100000 in
set_option maxHeartbeats 8000000 in
theorem init_gen (b B g c N : Nat) (s t : Int) (l : List Ev) (w : World) (hC : Clk 54 w b s t (.slice (some ⟨g, 0, none⟩) N c)) (h : Rw w B (.slice (some ⟨g, 0, none⟩) N c) l) (hN : l.length = N) (hb : b < B) (hs : N ≤ 100000) :
    Calls Try.prog 20 #[.iface 60 (.pointer (some ⟨b, 2, none⟩))] w fun e w' => e = .returned (.tuple #[]) ∧ Clk 54 w' b s t (.slice (some ⟨g, 0, none⟩) N c) ∧ (∃ l', Rw w' B (.slice (some ⟨g, 0, none⟩) N c) l' ∧ l'.Perm l ∧ l'.length = N ∧ Hp l' 0 N) ∧ F2 b g w w' := by
  have M := run_len _ _ w hC.c2
  have LN := Lib.hid (len_c (some ⟨g, 0, none⟩) N c w)
  have HC := Lib.hid hC
  have HR := Lib.hid h
  have HN := Lib.hid hN
  have q1 : (N : Int).tdiv 2 = ((N / 2 : Nat) : Int) := by rw [Int.tdiv_eq_ediv_of_nonneg (by omega)]; omega
  obtain ⟨H, hH⟩ : ∃ H, N / 2 = H := ⟨_, rfl⟩
  rw [hH] at q1
  have q2 : IntKind.i64.wrap ((H : Int) - 1) = (H : Int) - 1 := by simp only [IntKind.wrap_i64]; omega
  have hHN : H ≤ N := by omega
  have HS := Lib.hid (show Hp l H N by rw [← hH]; exact Hp.start l N)
  clear hC h hN hH
  go_enter Try.func20, Try.ntmps20
  go_wp2_with (go_at_call 52; (with_reducible refine (LN.out).mono ?_); rintro e w' ⟨rfl, rfl⟩)
  go_loopw [3] (fun v3 wx => ∃ (k : Nat) (l' : List Ev), v3 = .int .i64 ((k : Int) - 1) ∧ k ≤ N ∧ Hid (l'.length = N ∧ l'.Perm l ∧ Hp l' k N) ∧ Hid (Clk 54 wx b s t (.slice (some ⟨g, 0, none⟩) N c)) ∧ Hid (Rw wx B (.slice (some ⟨g, 0, none⟩) N c) l') ∧ Hid (F2 b g w wx)) (fun v3 _ => ((intOf v3) + 1).toNat)
  case atStart => exact ⟨H, l, rfl, hHN, Lib.hid ⟨HN.out, .refl _, HS.out⟩, HC, HR, Lib.hid (F2.of_below (Below.refl _ _))⟩
  case round =>
    obtain ⟨k, l', rfl, hk, HL, HC, HR, HF⟩ := hrel
    by_cases h0 : k = 0
    · subst h0
      go_wp2_with fail
      go_end0
      exact ⟨rfl, HC.out, ⟨l', HR.out, HL.out.2.1, HL.out.1, HL.out.2.2⟩, HF.out⟩
    · obtain ⟨i, rfl⟩ : ∃ i, k = i + 1 := ⟨k - 1, by omega⟩
      have e1 : (((i + 1 : Nat) : Int) - 1) = i := by omega
      rw [e1]
      have i1 : IntKind.i64.wrap ((i : Int) - 1) = (i : Int) - 1 := by simp only [IntKind.wrap_i64]; omega
      obtain ⟨R, hD⟩ := dn_total N (N - i) l' i (Nat.le_refl _)
      have D := Lib.hid (down_c b B g c N N i s t l' R wr HC.out HR.out HL.out.1 hb (Nat.le_refl _) hs (by omega) hD)
      have RR : Hid (R.length = N ∧ R.Perm l ∧ Hp R i N) := Lib.hid ⟨hD.len.trans HL.out.1, (hD.perm (by rw [HL.out.1]; exact Nat.le_refl _)).trans HL.out.2.1, hD.heap (by rw [HL.out.1]; exact Nat.le_refl _) (Nat.le_refl _) HL.out.2.2.hole⟩
      clear hD
      go_wp2_with (go_at_call 29; (with_reducible refine (D.out).mono ?_); rintro e w2 ⟨⟨r, rfl⟩, k1, k2, k3⟩; have K1 := Lib.hid k1; have K2 := Lib.hid k2; have K3 := Lib.hid (HF.out.trans k3); clear k1 k2 k3)
      go_roundw
      case rel => exact ⟨i, R, rfl, by omega, RR, K1, K2, K3⟩
      case measure => simp [intOf]
theorem ix_take {l : List Ev} {n k : Nat} (h : k < n) : ix (l.take n) k = ix l k := by
  unfold ix
  simp [List.getD_eq_getElem?_getD, List.getElem?_take, h]
theorem take_last {l : List Ev} {n : Nat} (h : l.length = n + 1) : l.take n ++ [ix l n] = l := by
  have e : l.take (n + 1) = l := List.take_of_length_le (by omega)
  conv => rhs; rw [← e]
  rw [List.take_add_one]
  unfold ix
  simp [List.getD_eq_getElem?_getD, List.getElem?_eq_getElem (show n < l.length by omega)]
set_option maxRecDepth 100000 in
set_option maxHeartbeats 8000000 in
theorem hpop_gen (b B g c n : Nat) (s t : Int) (l : List Ev) (w : World) (hC : Clk 54 w b s t (.slice (some ⟨g, 0, none⟩) (n + 1) c)) (h : Rw w B (.slice (some ⟨g, 0, none⟩) (n + 1) c) l) (hN : l.length = n + 1) (hb : b < B) (hs : n + 1 ≤ 100000) (hp : Hp l 0 (n + 1)) :
    Calls Try.prog 30 #[.iface 60 (.pointer (some ⟨b, 2, none⟩))] w fun e w' => e = .returned (.iface 58 (.agg #[.int .i64 (ix l 0).1, .int .i64 (ix l 0).2.1, .int .i64 (ix l 0).2.2])) ∧ Clk 54 w' b s t (.slice (some ⟨g, 0, none⟩) n c) ∧ (∃ l', Rw w' B (.slice (some ⟨g, 0, none⟩) n c) l' ∧ (l' ++ [ix l 0]).Perm l ∧ l'.length = n ∧ Hp l' 0 n) ∧ F2 b g w w' := by
  have hg : b ≠ g := by have := (row_blk (h.own hN)).1; omega
  have c2 := hC.c2
  have M1 := run_len _ _ _ c2
  have M2 := run_swap _ _ _ c2
  have LN := Lib.hid (len_c (some ⟨g, 0, none⟩) (n + 1) c w)
  obtain ⟨R, hD⟩ := dn_total n (n - 0) (sw l 0 n) 0 (Nat.le_refl _)
  have hsl : (sw l 0 n).length = n + 1 := by rw [sw_len]; exact hN
  have hRl : R.length = n + 1 := hD.len.trans hsl
  have hRn : ix R n = ix l 0 := by rw [hD.behind (by omega) n (Nat.le_refl _), ix_sw (by omega) (by omega), if_pos rfl]
  have hRp : R.Perm l := (hD.perm (by omega)).trans (sw_perm (by omega) (by omega))
  have hRh : Hp R 0 n := hD.heap (by omega) (Nat.le_refl _) (hp.pop (by omega))
  have S : Hid (Calls Try.prog 54 #[.slice (some ⟨g, 0, none⟩) (n + 1) c, .int .i64 0, .int .i64 n] w fun e w' => e = .returned (.tuple #[]) ∧ (Clk 54 w' b s t (.slice (some ⟨g, 0, none⟩) (n + 1) c) ∧ Rw w' B (.slice (some ⟨g, 0, none⟩) (n + 1) c) (sw l 0 n) ∧ F2 b g w w')) := by
    refine Lib.hid ((swap_c B g c 0 n (n + 1) l w h hN (by omega) (by omega)).mono ?_)
    rintro e w' ⟨rfl, h1, h2⟩
    exact ⟨rfl, hC.fb h2 hg, h1, F2.of_g h2⟩
  have D := Lib.hid (fun w' (k : Clk 54 w' b s t (.slice (some ⟨g, 0, none⟩) (n + 1) c) ∧ Rw w' B (.slice (some ⟨g, 0, none⟩) (n + 1) c) (sw l 0 n) ∧ F2 b g w w') => (show Calls Try.prog 29 #[.iface 60 (.pointer (some ⟨b, 2, none⟩)), .int .i64 0, .int .i64 n] w' _ from down_c b B g c n (n + 1) 0 s t (sw l 0 n) R w' k.1 k.2.1 hsl hb (by omega) hs (by omega) hD))
  have MP := Lib.hid (fun w' : World => run_pop ⟨b, 2, none⟩ w')
  have P := Lib.hid (fun w' (k1 : Clk 54 w' b s t (.slice (some ⟨g, 0, none⟩) (n + 1) c)) (k2 : Rw w' B (.slice (some ⟨g, 0, none⟩) (n + 1) c) R) => popm_c b B g c n s t R w' k1 k2 hRl hb (by omega))
  have EN : Hid ((R.take n ++ [ix l 0]).Perm l ∧ (R.take n).length = n ∧ Hp (R.take n) 0 n) := by
    refine Lib.hid ⟨?_, by rw [List.length_take]; omega, fun k hk h1 h2 => ?_⟩
    · rw [← hRn, take_last hRl]; exact hRp
    · rw [ix_take hk, ix_take (by omega)]; exact hRh k hk h1 h2
  rw [show ∀ k, R.getD k e0 = ix R k from fun _ => rfl, hRn] at P
  have q1 : IntKind.i64.wrap ((n : Int) + 1 - 1) = n := by simp only [IntKind.wrap_i64]; omega
  obtain ⟨⟨x0, x1, x2⟩, hx⟩ : ∃ x, ix l 0 = x := ⟨_, rfl⟩
  rw [hx] at P EN ⊢
  clear hC h hN hp hD hsl hRl hRn hRp hRh hx
  go_enter Try.func30, Try.ntmps30
  go_wp2_with (first
    | (go_at_call 52; (with_reducible refine (LN.out).mono ?_); rintro e w' ⟨rfl, rfl⟩)
    | (go_at_call 54; (with_reducible refine (S.out).mono ?_); rintro e w1 ⟨rfl, hh⟩)
    | (go_at_call 29; (with_reducible refine (D.out _ hh).mono ?_); rintro e w2 ⟨⟨r, rfl⟩, d1, d2, d3⟩; have M3 := MP.out w2)
    | (go_at_call 58; (with_reducible refine (P.out _ d1 d2).mono ?_); rintro e w3 ⟨rfl, k1, k2, k3⟩))
  go_ret
  exact ⟨rfl, k1, ⟨_, k2, EN.out⟩, (hh.2.2.trans d3).trans (F2.of_b k3)⟩
end Go.Proofs.Ythigimmlhgdchaa
