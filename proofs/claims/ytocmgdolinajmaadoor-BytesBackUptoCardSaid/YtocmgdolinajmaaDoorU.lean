/- The laws' helpers: same, lent, back, Compare, awake. -/
import Derived.Test.YtocmgdolinajmaaDoorT
import Derived.Lib.BytesEntry
import Derived.Laws.Externs
namespace Go.Proofs.YtocmgdolinajmaaDoor
set_option linter.unusedVariables false
set_option linter.unusedSimpArgs false
open Go.RowKit

theorem same_c (u v : Value) (a b : List Int) (w : World) (ha : Rd w .u8 u a) (hb : Rd w .u8 v b) (ba : Byt a) (bb : Byt b) : Calls Tryd.prog 9 #[u, v] w fun e w' => e = .returned (.bool (a == b)) ∧ w = w' := by
  have c1 := ha.to_string (P := Tryd.prog) (src := 22) (dst := 9) Tryd.underlying22 Tryd.underlying5 Tryd.underlying9
  have c2 := hb.to_string (P := Tryd.prog) (src := 22) (dst := 9) Tryd.underlying22 Tryd.underlying5 Tryd.underlying9
  obtain ⟨ua, uc, rfl⟩ := ha.len
  obtain ⟨va, vc, rfl⟩ := hb.len
  have E := Lib.hid (str_eq ba bb)
  clear ha hb
  go_enter Tryd.func9, Tryd.ntmps9
  go_wp2
  go_ret
  exact ⟨retb E.out, rfl⟩
theorem same_yes (u v : Value) (a : List Int) (w : World) (ha : Rd w .u8 u a) (hb : Rd w .u8 v a) (ba : Byt a) : Calls Tryd.prog 9 #[u, v] w fun e w' => e = .returned (.bool true) ∧ w = w' := by
  have h := same_c u v a a w ha hb ba ba
  rwa [beq_self_eq_true] at h
/-- Bytes of the call's own, and one behind them. -/
def Lent (w : World) (v : Value) (l : List Int) : Prop :=
  ∃ g c, v = .slice (some ⟨g, 0, none⟩) l.length c ∧ l.length + 1 ≤ c ∧ (∀ i, i < l.length → w.cell? ⟨g, i, none⟩ = some (.int .u8 (l.getD i 0))) ∧ w.cell? ⟨g, l.length, none⟩ = some (.int .u8 77)
theorem Lent.rd {w : World} {v : Value} {l : List Int} (h : Lent w v l) : Rd w .u8 v l := by
  obtain ⟨g, c, rfl, h1, h2, h3⟩ := h
  exact ⟨_, c, rfl, by omega, .inr ⟨g, 0, rfl, fun i hi => by rw [Nat.zero_add]; exact h2 i hi⟩⟩
theorem Lent.below {w w1 : World} {v : Value} {l : List Int} (h : Lent w v l) (hb : Below w.heap.size w w1) : Lent w1 v l := by
  obtain ⟨g, c, e, h1, h2, h3⟩ := h
  exact ⟨g, c, e, h1, fun i hi => cell_below hb (h2 i hi), cell_below hb h3⟩
theorem Lent.of_own {w : World} {B : Nat} {a : Option Addr} {c : Nat} {l : List Int} (h : w.ownsRow B 5 1 (.slice a (l.length + 1) c) (l.length + 1) (l.map (Value.int .u8) ++ [.int .u8 77])) : ∃ g, a = some ⟨g, 0, none⟩ ∧ l.length + 1 ≤ c ∧ Lent w (.slice (some ⟨g, 0, none⟩) l.length c) l := by
  rcases h.2 with ⟨e, h0⟩ | ⟨g, cap, cur, e, hb, hh, hc, _⟩
  · cases h0
  · injection e with e1 e2 e3
    subst e1 e3
    have hcells := h.cells (g := g) rfl
    have ha : ∀ i, (⟨g, 0, none⟩ : Addr).add i = ⟨g, i, none⟩ := fun i => by unfold Addr.add; split <;> simp_all
    refine ⟨g, rfl, hc, g, c, rfl, hc, fun i hi => ?_, ?_⟩
    · have := hcells i (.int .u8 (l.getD i 0)) (by rw [List.getElem?_append_left (by simpa using hi)]; simp [List.getElem?_eq_getElem hi, List.getD_eq_getElem?_getD])
      rwa [ha] at this
    · have := hcells l.length (.int .u8 77) (by rw [List.getElem?_append_right (by simp)]; simp)
      rwa [ha] at this
theorem lent_c (v : Value) (l : List Int) (w : World) (hr : Rd w .u8 v l) (hs : l.length ≤ 1000000) : Calls Tryd.prog 7 #[v] w fun e w' => ∃ u, e = .returned u ∧ Lent w' u l ∧ Below w.heap.size w w' := by
  obtain ⟨va, vc, rfl⟩ := hr.len
  have HR := Lib.hid hr
  have E0 := Lib.hid (World.ownsRow_nil w w.heap.size 5 1)
  obtain ⟨L, hL⟩ : ∃ L, l.length = L := ⟨_, rfl⟩
  have HL := Lib.hid hL
  rw [hL] at hs HR ⊢
  clear hr hL
  have FIN : Hid (∀ w2 a1 d1, w2.ownsRow w.heap.size 5 1 (.slice a1 (L + 1) d1) (L + 1) (l.map (Value.int .u8) ++ [.int .u8 77]) → ∃ g, a1 = some ⟨g, 0, none⟩ ∧ L + 1 ≤ d1 ∧ Hid (Lent w2 (.slice (some ⟨g, 0, none⟩) L d1) l)) := Lib.hid (fun w2 a1 d1 h => by
    rw [← HL.out] at h ⊢
    obtain ⟨g, e, h1, h2⟩ := Lent.of_own h
    exact ⟨g, e, h1, Lib.hid h2⟩)
  go_enter Tryd.func7, Tryd.ntmps7
  go_wp2_with (first
    | (at_builtin; go_loud (refine wp_apps 22 5 (.int .u8 0) 1 Tryd.underlying22 info_byte rfl w.heap.size (.slice none 0 0) 0 [] rfl (.tmp 4) (.tmp 5) (by rfl) (by rfl) E0.out (Nat.le_refl _) .u8 _ l (by rfl) (by have := HR.out; rw [← HL.out] at this; rw [← HL.out]; exact this) (by rw [HL.out]; omega) (by decide) ?_); intro v1 w1 hown hg _; rw [Nat.zero_add, List.nil_append, HL.out] at hown; obtain ⟨a1, d1, rfl⟩ := ownsRow_slice hown; have HO1 := Lib.hid hown; have hb1 := grown_below hg E0.out (Nat.le_refl _); clear hown hg)
    | (at_builtin; go_loud (refine wp_app 22 5 (.int .u8 0) 1 Tryd.underlying22 info_byte rfl w.heap.size (.slice a1 L d1) L _ (.int .u8 77) _ _ rfl (by rfl) (.tmp 7) (.tmp 8) (by rfl) (by rfl) (by rfl) HO1.out (by exact hb1.size) rfl (by omega) (by decide) ?_); intro v2 w2 hown2 hb2; obtain ⟨a2, d2, rfl⟩ := ownsRow_slice hown2; obtain ⟨g, rfl, hd, HLT⟩ := FIN.out w2 a2 d2 hown2; have hb3 := hb1.trans hb2; clear hown2 hb2))
  go_ret
  exact ⟨_, rfl, HLT.out, hb3⟩
theorem back_c (u v : Value) (l : List Int) (w : World) (hu : Lent w u l) (hv : Rd w .u8 v l) (hb : Byt l) (hs : l.length ≤ 1000000) : Calls Tryd.prog 11 #[u, v] w fun e w' => e = .returned (.bool true) ∧ Below w.heap.size w w' := by
  have S := Lib.hid (fun w' (h : Below w.heap.size w w') => same_yes u v l w' (hu.rd.below h) (hv.below h) hb)
  obtain ⟨g, c, rfl, h1, h2, h3⟩ := hu
  obtain ⟨va, vc, rfl⟩ := hv.len
  clear hv h2
  obtain ⟨L, hL⟩ : ∃ L, l.length = L := ⟨_, rfl⟩
  rw [hL] at hs S h1 h3 ⊢
  clear hL
  have i1 : (L : Int) + 1 ≤ c := by omega
  have i2 : (L : Int) < L + 1 := by omega
  go_enter Tryd.func11, Tryd.ntmps11
  go_wp2_with (go_at_call 9; (with_reducible refine (S.out _ (Below.refl _ _)).mono ?_); rintro e w' ⟨rfl, rfl⟩)
  go_ret
  exact ⟨rfl, Below.refl _ _⟩
end Go.Proofs.YtocmgdolinajmaaDoor
