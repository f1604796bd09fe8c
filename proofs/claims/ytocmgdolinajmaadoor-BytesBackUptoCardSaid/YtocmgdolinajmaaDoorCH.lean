/- The law BytesUnescape. -/
import Derived.Test.YtocmgdolinajmaaDoorCG
namespace Go.Proofs.YtocmgdolinajmaaDoor
set_option linter.unusedVariables false
set_option linter.unusedSimpArgs false
open Go.RowKit

theorem row_get {w : World} {B e k g n c : Nat} {xs : List Value} (h : w.ownsRow B e k (.slice (some ⟨g, 0, none⟩) n c) n xs) {i : Nat} {u : Value} (hu : xs[i]? = some u) : w.cell? ⟨g, i, none⟩ = some u := by
  have := h.cells (g := g) rfl i u hu
  have ha : (⟨g, 0, none⟩ : Addr).add i = ⟨g, i, none⟩ := by unfold Addr.add; split <;> simp_all
  rwa [ha] at this
theorem row_blk {w : World} {B e k g n c : Nat} {xs : List Value} (h : w.ownsRow B e k (.slice (some ⟨g, 0, none⟩) n c) n xs) : B ≤ g ∧ ∃ cur, w.heap[g]? = some (.cells cur e (0, 0)) ∧ n ≤ c ∧ c ≤ maxLen ∧ cur.size = c * k ∧ cur.toList.take (n * k) = xs := by
  rcases h.2 with ⟨h1, _⟩ | ⟨g', cap, cur, h1, h2, h3, h4⟩
  · cases h1
  · injection h1 with e1 e2 e3
    injection e1 with e1
    injection e1 with e1
    subst e1 e3
    exact ⟨h2, cur, h3, h4⟩
theorem row_fz {w : World} {B e k g n c : Nat} {xs : List Value} (h : w.ownsRow B e k (.slice (some ⟨g, 0, none⟩) n c) n xs) (i : Nat) : w.frozen? ⟨g, i, none⟩ = false := by
  obtain ⟨_, cur, hg, _⟩ := row_blk h
  simp [World.frozen?, hg]
theorem row_set {w : World} {B e k g n c : Nat} {xs : List Value} (h : w.ownsRow B e k (.slice (some ⟨g, 0, none⟩) n c) n xs) (i : Nat) (u : Value) : (w.setCell ⟨g, i, none⟩ u).ownsRow B e k (.slice (some ⟨g, 0, none⟩) n c) n (xs.set i u) := by
  obtain ⟨hb, cur, hg, h1, h2, h3, h4⟩ := row_blk h
  refine ⟨by rw [List.length_set]; exact h.1, .inr ⟨g, c, cur.setIfInBounds i u, rfl, hb, ?_, h1, h2, by simpa using h3, ?_⟩⟩
  · simp [World.setCell, Array.getElem?_modify, hg]
  · rw [← h4, Array.toList_setIfInBounds, List.take_set]
theorem own_below {w w' : World} {B e : Nat} {v : Value} {n : Nat} {xs : List Value} (h : w.ownsRow B e 1 v n xs) (hb : Below w.heap.size w w') : w'.ownsRow B e 1 v n xs := ownsRow_same h (fun g hg => hb.block g (h.lt g hg).2)
theorem own_form {w : World} {B e n c : Nat} {a : Option Addr} {xs : List Value} (h : w.ownsRow B e 1 (.slice a n c) n xs) (h0 : 0 < n) : ∃ g, a = some ⟨g, 0, none⟩ ∧ B ≤ g := by
  rcases h.2 with ⟨_, h1⟩ | ⟨g, cap, cur, e1, hb, _⟩
  · omega
  · injection e1 with e1
    exact ⟨g, e1, hb⟩
set_option maxRecDepth 100000 in
set_option maxHeartbeats 8000000 in
theorem lunescape_walk (v : Value) (l : List Int) (w : World) (hsh : w.ShapedOpen Tryd.prog) (hr : Rd w .u8 v l) (hb : Byt l) :
    Calls Tryd.prog 3 #[v] w fun e w' => e = .returned (.bool true) ∧ Below w.heap.size w w' := by
  have AW := Lib.hid (fun w => awake_c w)
  by_cases h1 : 400 < l.length
  · obtain ⟨aa, ca, rfl⟩ := hr.len
    obtain ⟨L, hL⟩ : ∃ L, l.length = L := ⟨_, rfl⟩
    rw [hL] at h1 ⊢
    have h2 : (400 : Int) < L := by omega
    clear hr hL hsh hb
    go_enter Tryd.func3, Tryd.ntmps3
    go_wp2_with (go_at_call 6; (with_reducible refine (AW.out _).mono ?_); rintro e w5 ⟨rfl, hb5⟩)
    go_ret
    exact ⟨rfl, hb5⟩
  · have hl : l.length ≤ 400 := by omega
    have HR := Lib.hid hr
    have LA := Lib.hid (lent_c v l w hr (by omega))
    obtain ⟨N, hN⟩ : ∃ N, (dbl l).length = N := ⟨_, rfl⟩
    have hN8 : N ≤ 800 := by have := dbl_len l; have := cnt_le l; omega
    have PU : Hid (∀ w1 u1, Lent w1 u1 l → Below w.heap.size w w1 → Calls Tryd.prog 8 #[u1] w1 fun e w' => ∃ a2 c2, e = .returned (.slice a2 N c2) ∧ Hid (w'.ownsRow w1.heap.size 5 1 (.slice a2 N c2) N ((dbl l).map (Value.int .u8))) ∧ Hid (Below w1.heap.size w1 w')) := Lib.hid (fun w1 u1 l1 b1 => by
      refine (punesc_c u1 l w1 (shaped_below hsh b1) l1.rd hb hl).mono ?_
      rintro e w' ⟨v2, rfl, h1, h2⟩
      rw [hN] at h1
      obtain ⟨a2, c2, rfl⟩ := ownsRow_slice h1
      exact ⟨a2, c2, rfl, Lib.hid h1, Lib.hid h2⟩)
    have RU : Hid (∀ w2, Below w.heap.size w w2 → Calls Tryd.prog 10 #[v] w2 fun e w' => ∃ a3 c3, e = .returned (.slice a3 N c3) ∧ Hid (Rd w' .u8 (.slice a3 N c3) (dbl l)) ∧ Hid (Below w2.heap.size w2 w')) := Lib.hid (fun w2 b2 => by
      refine (runesc_c v l w2 (HR.out.below b2) hl).mono ?_
      rintro e w' ⟨v3, rfl, h1, h2⟩
      rw [hN] at h1
      obtain ⟨a3, c3, rfl⟩ := ownsRow_slice h1
      exact ⟨a3, c3, rfl, Lib.hid (Rd.of_own h1), Lib.hid h2⟩)
    have SM := Lib.hid (fun x y w3 h1 h2 => same_yes x y (dbl l) w3 h1 h2 (byt_dbl hb))
    have BK := Lib.hid (fun u1 w4 h1 h2 => back_c u1 v l w4 h1 h2 hb (by omega))
    obtain ⟨aa, ca, rfl⟩ := hr.len
    have HL : Hid (((dbl l).map (Value.int .u8)).length = N) := Lib.hid (by simpa using hN)
    obtain ⟨L, hL⟩ : ∃ L, l.length = L := ⟨_, rfl⟩
    rw [hL] at hl HR LA RU BK ⊢
    have h5 : ¬ (400 : Int) < L := by omega
    clear hr hL hsh hb h1 hN
    go_enter Tryd.func3, Tryd.ntmps3
    go_wp2_with (first
      | (go_at_call 7; (with_reducible refine (LA.out).mono ?_); rintro e w1 ⟨u1, rfl, l1, b1⟩; have L1 := Lib.hid l1; have B1 := Lib.hid b1; clear l1 b1)
      | (go_at_call 8; (with_reducible refine (PU.out _ _ L1.out B1.out).mono ?_); rintro e w2 ⟨a2, c2, rfl, O2, B2⟩; have Z2 := Lib.hid (below_then B1.out B1.out.size B2.out))
      | (go_at_call 10; (with_reducible refine (RU.out _ Z2.out).mono ?_); rintro e w3 ⟨a3, c3, rfl, R3, B3⟩; have Q3 := Lib.hid (Rd.of_own (own_below O2.out B3.out)))
      | (go_at_call 9; (with_reducible refine (SM.out _ _ _ Q3.out R3.out).mono ?_); rintro e w' ⟨rfl, rfl⟩))
    go_loopw [6] (fun x6 wr => ∃ i : Nat, i ≤ N ∧ x6 = .int .i64 i ∧ Hid (∃ xs, wr.ownsRow w1.heap.size 5 1 (.slice a2 N c2) N xs ∧ Below w1.heap.size w1 wr)) (fun x6 _ => N - (intOf x6).toNat)
    case atStart => exact ⟨0, Nat.zero_le _, rfl, Lib.hid ⟨_, own_below O2.out B3.out, below_then B2.out B2.out.size B3.out⟩⟩
    case round =>
      obtain ⟨i, hi, rfl, HX⟩ := hrel
      by_cases hlt : i < N
      · obtain ⟨xs, hrow, hbw⟩ := HX.out
        obtain ⟨g, rfl, hbg⟩ := own_form hrow (by omega)
        have hxl := hrow.1
        have c0 := row_get hrow (List.getElem?_eq_getElem (show i < xs.length by omega))
        obtain ⟨y, hy⟩ : ∃ y, xs[i]'(by omega) = y := ⟨_, rfl⟩
        rw [hy] at c0
        have z0 := row_fz hrow i
        have FIN := Lib.hid (fun x => And.intro (row_set hrow i x) (hbw.setCell (p := ⟨g, i, none⟩) hbg x))
        clear hrow hbw HX hxl hy
        go_wp2_with fail
        go_roundw
        case rel => exact ⟨i + 1, by omega, by go_num, Lib.hid ⟨_, FIN.out _⟩⟩
        case measure => simp [intOf]; omega
      · have HB : Hid (Below w1.heap.size w1 wr) := by obtain ⟨_, _, h⟩ := HX.out; exact Lib.hid h
        have BZ := Lib.hid (below_then B1.out B1.out.size HB.out)
        have K := Lib.hid (BK.out u1 wr (L1.out.below HB.out) (HR.out.below BZ.out))
        clear HX
        go_wp2_with (first
          | (go_at_call 11; (with_reducible refine (K.out).mono ?_); rintro e w5 ⟨rfl, b5⟩; have Z5 := Lib.hid (below_then BZ.out BZ.out.size b5); clear b5)
          | (go_at_call 6; (with_reducible refine (AW.out _).mono ?_); rintro e w6 ⟨rfl, b6⟩))
        go_ret
        exact ⟨rfl, below_then Z5.out Z5.out.size b6⟩
end Go.Proofs.YtocmgdolinajmaaDoor
