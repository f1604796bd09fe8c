/- Pairs in memory; find. -/
import Derived.Test.YtocmgdolinajmaaDoorI
import Derived.Test.YtocmgdolinajmaaDoorL
namespace Go.Proofs.YtocmgdolinajmaaDoor
set_option linter.unusedVariables false
set_option linter.unusedSimpArgs false
open Go.RowKit

/-- A slice of pairs of slices of bytes that is read. -/
def Pm (w : World) (v : Value) (ls : List (List Int × List Int)) : Prop :=
  ∃ a c, v = .slice a ls.length c ∧ ls.length ≤ c ∧ (ls = [] ∨ ∃ g off, a = some ⟨g, off, none⟩ ∧ ∀ i, i < ls.length → ∃ nv tv, w.cell? ⟨g, off + i * 2, none⟩ = some nv ∧ w.cell? ⟨g, off + i * 2 + 1, none⟩ = some tv ∧ Rd w .u8 nv (ls.getD i ([], [])).1 ∧ Rd w .u8 tv (ls.getD i ([], [])).2)
theorem Pm.below {w w1 : World} {v : Value} {ls : List (List Int × List Int)} (h : Pm w v ls) (hb : Below w.heap.size w w1) : Pm w1 v ls := by
  obtain ⟨a, c, e, hc, hr⟩ := h
  refine ⟨a, c, e, hc, ?_⟩
  rcases hr with h | ⟨g, off, ea, hcell⟩
  · exact .inl h
  · refine .inr ⟨g, off, ea, fun i hi => ?_⟩
    obtain ⟨nv, tv, h1, h2, h3, h4⟩ := hcell i hi
    exact ⟨nv, tv, cell_below hb h1, cell_below hb h2, h3.below hb, h4.below hb⟩
theorem Pm.at_ {w : World} {a : Option Addr} {n c : Nat} {ls : List (List Int × List Int)} (h : Pm w (.slice a n c) ls) {i : Nat} (hi : i < ls.length) : ∃ g off, a = some ⟨g, off, none⟩ ∧ ∃ nv tv, w.cell? ⟨g, off + i * 2, none⟩ = some nv ∧ w.cell? ⟨g, off + i * 2 + 1, none⟩ = some tv ∧ Rd w .u8 nv (ls.getD i ([], [])).1 ∧ Rd w .u8 tv (ls.getD i ([], [])).2 := by
  obtain ⟨_, _, e, _, h⟩ := h
  injection e with e1 e2 e3
  rcases h with h | ⟨g, off, ea, hcl⟩
  · rw [h] at hi; simp at hi
  · exact ⟨g, off, e1.trans ea, hcl i hi⟩
/-- Pairs that are looked at. -/
def Good (ls : List (List Int × List Int)) : Prop := ∀ p ∈ ls, Byt p.1 ∧ Byt p.2 ∧ p.1.length ≤ 400 ∧ p.2.length ≤ 400
theorem Good.at_ {ls : List (List Int × List Int)} (h : Good ls) {i : Nat} (hi : i < ls.length) : Byt (ls.getD i ([], [])).1 ∧ Byt (ls.getD i ([], [])).2 ∧ (ls.getD i ([], [])).1.length ≤ 400 ∧ (ls.getD i ([], [])).2.length ≤ 400 := by
  have := h ls[i] (List.getElem_mem hi)
  simpa [List.getD_eq_getElem?_getD, List.getElem?_eq_getElem hi] using this
theorem find_at {nm : List Int} : ∀ {ls : List (List Int × List Int)} {i : Nat}, i < ls.length → (∀ j, j < i → sameV (ls.getD j ([], [])).1 nm = false) → sameV (ls.getD i ([], [])).1 nm = true → findV nm ls = some (ls.getD i ([], [])).2
  | [], i, hi, _, _ => by simp at hi
  | (n, t) :: r, 0, _, _, h => by
    unfold findV
    rw [if_pos (by simpa using h)]
    rfl
  | (n, t) :: r, i + 1, hi, hj, h => by
    unfold findV
    have h0 := hj 0 (by omega)
    rw [List.getD_cons_zero] at h0
    rw [if_neg (by simp only at h0; rw [h0]; decide)]
    rw [List.getD_cons_succ] at h ⊢
    exact find_at (by simpa using hi) (fun j hh => by have := hj (j + 1) (by omega); rwa [List.getD_cons_succ] at this) h
theorem find_none {nm : List Int} : ∀ {ls : List (List Int × List Int)}, (∀ j, j < ls.length → sameV (ls.getD j ([], [])).1 nm = false) → findV nm ls = none
  | [], _ => rfl
  | (n, t) :: r, hj => by
    unfold findV
    have h0 := hj 0 (by simp)
    rw [List.getD_cons_zero] at h0
    rw [if_neg (by simp only at h0; rw [h0]; decide)]
    exact find_none (fun j hh => by have := hj (j + 1) (by simpa using hh); rwa [List.getD_cons_succ] at this)
set_option maxHeartbeats 2000000 in
theorem find_c (u v : Value) (nm : List Int) (ls : List (List Int × List Int)) (w : World) (hn : Rd w .u8 u nm) (hp : Pm w v ls) (bn : Byt nm) (hg : Good ls) (h0 : 0 < nm.length) (h4 : nm.length ≤ 800) (h5 : ls.length ≤ 1000000) :
    Calls Tryd.prog 30 #[u, v] w fun e w' => Below w.heap.size w w' ∧ ((findV nm ls = none ∧ e = .returned (.tuple #[.slice none 0 0, .bool false])) ∨ ∃ tv tx, findV nm ls = some tx ∧ e = .returned (.tuple #[tv, .bool true]) ∧ Rd w' .u8 tv tx) := by
  have HN := Lib.hid hn
  have HP := Lib.hid hp
  obtain ⟨a0, c0, rfl, _⟩ := hn
  obtain ⟨a1, c1, rfl, _⟩ := hp
  obtain ⟨L, hL⟩ : ∃ L, nm.length = L := ⟨_, rfl⟩
  obtain ⟨M, hM⟩ : ∃ M, ls.length = M := ⟨_, rfl⟩
  have HM := Lib.hid hM
  have HL := Lib.hid hL
  have SM : Hid (∀ w' (nv : Value) (i : Nat), i < ls.length → Rd w' .u8 nv (ls.getD i ([], [])).1 → Below w.heap.size w w' → Calls Tryd.prog 16 #[nv, .slice a0 L c0] w' fun e w2 => e = .returned (.bool (sameV (ls.getD i ([], [])).1 nm)) ∧ Below w'.heap.size w' w2) :=
    Lib.hid fun w' nv i hi hr hb => psame_c nv _ _ nm w' hr (by have := HN.out.below hb; rw [hL] at this; exact this) (hg.at_ hi).1 bn (by have := (hg.at_ hi).2.2.1; omega) (by omega)
  rw [hL] at HN h0 ⊢
  rw [hM] at HP h5 ⊢
  have PA := Lib.hid (fun w' (hb : Below w.heap.size w w') (i : Nat) (hi : i < M) => (HP.out.below hb).at_ (i := i) (by have := HM.out; omega))
  have FA := Lib.hid (fun (i : Nat) (hi : i < M) => find_at (nm := nm) (ls := ls) (i := i) (by have := HM.out; omega))
  have FN : Hid ((∀ j, j < M → sameV (ls.getD j ([], [])).1 nm = false) → findV nm ls = none) := Lib.hid (by rw [← hM]; exact find_none)
  clear hL hM HN HP hg bn
  go_enter Tryd.func30, Tryd.ntmps30
  go_wp2
  go_loopw [10] (fun x wr => ∃ i : Nat, i ≤ M ∧ x = .int .i64 i ∧ Below w.heap.size w wr ∧ Hid (∀ j, j < i → sameV (ls.getD j ([], [])).1 nm = false)) (fun x _ => M - (intOf x).toNat)
  case atStart => exact ⟨0, Nat.zero_le _, rfl, Below.refl _ _, Lib.hid fun j hj => by omega⟩
  case round =>
    obtain ⟨i, hi, rfl, hbw, HF⟩ := hrel
    by_cases hlt : i < M
    · obtain ⟨g, off, rfl, nv, tv, q0, q1, r0, r1⟩ := PA.out _ hbw i hlt
      obtain ⟨na, nc, rfl⟩ := r0.len
      obtain ⟨ta, tc, rfl⟩ := r1.len
      have F1 := FA.out i hlt HF.out
      have HQ : Hid (sameV (ls.getD i ([], [])).1 nm = false → ∀ j, j < i + 1 → sameV (ls.getD j ([], [])).1 nm = false) := Lib.hid fun h j hj => by
        by_cases e : j = i
        · rw [e]; exact h
        · exact HF.out j (by omega)
      have SI := fun w' hr hb => SM.out w' (.slice na (ls.getD i ([], [])).1.length nc) i (by have := HM.out; omega) hr hb
      have R1 := Lib.hid r1
      have R0 := Lib.hid r0
      obtain ⟨p, hp⟩ : ∃ p, ls.getD i ([], []) = p := ⟨_, rfl⟩
      rw [hp] at q0 q1 F1 HQ SI R0 R1
      clear hp r0 r1 PA FA SM
      obtain ⟨n1, hn1⟩ : ∃ n1, p.1.length = n1 := ⟨_, rfl⟩
      obtain ⟨t1, ht1⟩ : ∃ t1, p.2.length = t1 := ⟨_, rfl⟩
      rw [hn1] at q0 SI R0
      rw [ht1] at q1 R1
      clear hn1 ht1
      have HSI := Lib.hid SI
      obtain ⟨bv, hbv⟩ : ∃ bv, sameV p.1 nm = bv := ⟨_, rfl⟩
      rw [hbv] at F1 HQ HSI
      clear SI hbv
      have HF1 := Lib.hid F1
      clear F1
      have W2 : Hid (Calls Tryd.prog 16 #[.slice na n1 nc, .slice a0 L c0] (wr.alloc (.cells #[.slice na n1 nc, .slice ta t1 tc] 46)) fun e w2 => e = .returned (.bool bv) ∧ w2.cell? ⟨wr.heap.size, 1, none⟩ = some (.slice ta t1 tc) ∧ Below w.heap.size w w2 ∧ Hid (Rd w2 .u8 (.slice ta t1 tc) p.2)) := by
        have ba : Below wr.heap.size wr (wr.alloc (.cells #[.slice na n1 nc, .slice ta t1 tc] 46)) := (Below.refl _ _).alloc (Nat.le_refl _) _
        have hc : (wr.alloc (.cells #[.slice na n1 nc, .slice ta t1 tc] 46)).cell? ⟨wr.heap.size, 1, none⟩ = some (.slice ta t1 tc) := by
          rw [cell_of_row _ _ _ _ _ (0, 0) (heap_alloc_new wr _)]; rfl
        refine Lib.hid ((HSI.out _ (R0.out.below ba) (hbw.alloc hbw.size _)).mono ?_)
        rintro e w2 ⟨rfl, hb2⟩
        have h3 := below_then hbw hbw.size ba
        exact ⟨rfl, cell_below hb2 hc, below_then h3 h3.size hb2, Lib.hid ((R1.out.below ba).below hb2)⟩
      clear HSI R0 R1
      cases bv with
      | true =>
        go_wp2_with (go_at_call 16; (with_reducible refine (W2.out).mono ?_); rintro e w2 ⟨rfl, k1, hb2, HR2⟩)
        go_ret2
        exact ⟨hb2, .inr ⟨_, _, HF1.out trivial, rfl, HR2.out⟩⟩
      | false =>
        go_wp2_with (go_at_call 16; (with_reducible refine (W2.out).mono ?_); rintro e w2 ⟨rfl, k1, hb2, HR2⟩)
        go_roundw
        case rel => exact ⟨i + 1, by omega, by go_num, hb2, Lib.hid (HQ.out trivial)⟩
        case measure => simp [intOf]; omega
    · have HNO := Lib.hid (FN.out (fun j hj => HF.out j (by omega)))
      go_wp2_with fail
      go_ret2
      exact ⟨hbw, .inl ⟨HNO.out, rfl⟩⟩
end Go.Proofs.YtocmgdolinajmaaDoor
