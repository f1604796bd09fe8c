/- A text with escapes, what it says: as a relation; the reference's Escape. -/
import Derived.Test.YtocmgdolinajmaaR
namespace Go.Proofs.Ytocmgdolinajmaa
set_option linter.unusedVariables false
set_option linter.unusedSimpArgs false
open Go.RowKit

/-- From the i-th byte on, with what was said before: the end. -/
inductive Esc (l : List Int) : Nat → List Int → Option (List Int × Nat) → Prop
  | done {i : Nat} {out : List Int} (h : l.length ≤ i) : Esc l i out (some (out, i))
  | quote {i : Nat} {out : List Int} (h : i < l.length) (hc : l.getD i 0 = 34) : Esc l i out (some (out, i + 1))
  | char {i : Nat} {out : List Int} {R : Option (List Int × Nat)} (h : i < l.length) (h1 : l.getD i 0 ≠ 34) (h2 : l.getD i 0 ≠ 92) (k : Esc l (i + 1) (out ++ [l.getD i 0]) R) : Esc l i out R
  | bad {i : Nat} {out : List Int} (h : i < l.length) (hc : l.getD i 0 = 92) (ho : (oneV (l.drop (i + 1))).2 = 0) : Esc l i out none
  | esc {i : Nat} {out : List Int} {R : Option (List Int × Nat)} (h : i < l.length) (hc : l.getD i 0 = 92) (ho : (oneV (l.drop (i + 1))).2 ≠ 0) (k : Esc l (i + 1 + (oneV (l.drop (i + 1))).2) (out ++ (oneV (l.drop (i + 1))).1) R) : Esc l i out R
section
variable {l : List Int} {i : Nat} {out : List Int} {R : Option (List Int × Nat)}
theorem Esc.at_end (h : Esc l i out R) (hi : l.length ≤ i) : R = some (out, i) := by cases h <;> first | rfl | omega
theorem Esc.at_quote (h : Esc l i out R) (hi : i < l.length) (hc : l.getD i 0 = 34) : R = some (out, i + 1) := by
  cases h <;> first | rfl | omega | (exfalso; simp_all; done)
theorem Esc.at_char (h : Esc l i out R) (hi : i < l.length) (h1 : l.getD i 0 ≠ 34) (h2 : l.getD i 0 ≠ 92) : Esc l (i + 1) (out ++ [l.getD i 0]) R := by
  cases h <;> first | assumption | omega
theorem Esc.at_bad (h : Esc l i out R) (hi : i < l.length) (hc : l.getD i 0 = 92) (ho : (oneV (l.drop (i + 1))).2 = 0) : R = none := by
  cases h <;> first | rfl | omega
theorem Esc.at_esc (h : Esc l i out R) (hi : i < l.length) (hc : l.getD i 0 = 92) (ho : (oneV (l.drop (i + 1))).2 ≠ 0) : Esc l (i + 1 + (oneV (l.drop (i + 1))).2) (out ++ (oneV (l.drop (i + 1))).1) R := by
  cases h <;> first | assumption | omega
end
theorem one_120 (t : List Int) : oneV (120 :: t) = if 3 ≤ (120 :: t).length ∧ 0 ≤ hexV (t.getD 0 0) ∧ 0 ≤ hexV (t.getD 1 0) then ([16 * hexV (t.getD 0 0) + hexV (t.getD 1 0)], 3) else ([], 0) := rfl
def OneIs (s : List Int) (o : List Int × Nat) : Prop := o = ([], 0) ∨ (∃ x, 0 ≤ x ∧ x < 256 ∧ o = ([x], 1) ∧ 1 ≤ s.length) ∨ (o = ([13, 10], 1) ∧ 1 ≤ s.length) ∨ (∃ x, 0 ≤ x ∧ x < 256 ∧ o = ([x], 3) ∧ 3 ≤ s.length)
theorem one_is (s : List Int) : OneIs s (oneV s) := by
  cases s with
  | nil => exact .inl rfl
  | cons c t =>
    have hl : 1 ≤ (c :: t).length := by simp
    rcases one_letter c with rfl | rfl | rfl | rfl | rfl | rfl | rfl | rfl | rfl | rfl | rfl | rfl | rfl | rfl | rfl | h
    all_goals first
      | exact .inr (.inl ⟨_, by decide, by decide, rfl, hl⟩)
      | exact .inr (.inr (.inl ⟨rfl, hl⟩))
      | exact .inl (one_none h)
      | (rw [one_120]
         have r1 := hexV_range (t.getD 0 0)
         have r2 := hexV_range (t.getD 1 0)
         split
         · rename_i g; exact .inr (.inr (.inr ⟨_, by omega, by omega, rfl, g.1⟩))
         · exact .inl rfl)
theorem oneV_len (s : List Int) : (oneV s).2 ≤ s.length ∧ (oneV s).1.length ≤ 1 + (oneV s).2 ∧ (oneV s).2 ≤ 3 := by
  rcases one_is s with h | ⟨x, _, _, h, g⟩ | ⟨h, g⟩ | ⟨x, _, _, h, g⟩ <;> rw [h] <;> simp <;> omega
theorem oneV_byt (s : List Int) : Byt (oneV s).1 := by
  rcases one_is s with h | ⟨x, h1, h2, h, g⟩ | ⟨h, g⟩ | ⟨x, h1, h2, h, g⟩ <;> rw [h] <;> intro y hy <;> simp at hy <;> omega
theorem esc_total (l : List Int) : ∀ (d i : Nat) (out : List Int), l.length - i ≤ d → ∃ R, Esc l i out R := by
  intro d
  induction d with
  | zero => intro i out h; exact ⟨_, .done (by omega)⟩
  | succ d ih =>
    intro i out h
    by_cases hi : i < l.length
    · by_cases h1 : l.getD i 0 = 34
      · exact ⟨_, .quote hi h1⟩
      · by_cases h2 : l.getD i 0 = 92
        · by_cases ho : (oneV (l.drop (i + 1))).2 = 0
          · exact ⟨_, .bad hi h2 ho⟩
          · obtain ⟨R, hR⟩ := ih (i + 1 + (oneV (l.drop (i + 1))).2) (out ++ (oneV (l.drop (i + 1))).1) (by omega)
            exact ⟨R, .esc hi h2 ho hR⟩
        · obtain ⟨R, hR⟩ := ih (i + 1) (out ++ [l.getD i 0]) (by omega)
          exact ⟨R, .char hi h1 h2 hR⟩
    · exact ⟨_, .done (by omega)⟩
theorem byt_getD {l : List Int} (h : Byt l) (i : Nat) : 0 ≤ l.getD i 0 ∧ l.getD i 0 < 256 := by
  by_cases hi : i < l.length
  · rw [List.getD_eq_getElem?_getD, List.getElem?_eq_getElem hi]; exact h _ (List.getElem_mem hi)
  · rw [List.getD_eq_getElem?_getD, List.getElem?_eq_none (by omega)]; decide
theorem byt_snoc {l : List Int} {x : Int} (h : Byt l) (hx : 0 ≤ x ∧ x < 256) : Byt (l ++ [x]) := by
  intro y hy; rw [List.mem_append] at hy
  rcases hy with hy | hy
  · exact h y hy
  · rw [List.mem_singleton] at hy; rw [hy]; exact hx
theorem byt_app {a b : List Int} (ha : Byt a) (hb : Byt b) : Byt (a ++ b) := by
  intro y hy; rw [List.mem_append] at hy
  rcases hy with hy | hy
  · exact ha y hy
  · exact hb y hy
theorem Esc.facts {l : List Int} (hb : Byt l) {i : Nat} {out : List Int} {R : Option (List Int × Nat)} (h : Esc l i out R) (ho : Byt out) (hi : i ≤ l.length) (hl : out.length ≤ i) : ∀ o u, R = some (o, u) → Byt o ∧ u ≤ l.length ∧ o.length ≤ u := by
  induction h with
  | done h => intro o u e; simp at e; rw [← e.1, ← e.2]; exact ⟨ho, hi, hl⟩
  | quote h hc => intro o u e; simp at e; rw [← e.1, ← e.2]; exact ⟨ho, h, by omega⟩
  | char h h1 h2 k ih => exact ih (byt_snoc ho (byt_getD hb _)) h (by simp; exact hl)
  | bad h hc ho => intro o u e; cases e
  | @esc i out R h hc ho' k ih =>
    have a1 := oneV_len (l.drop (i + 1))
    rw [List.length_drop] at a1
    exact ih (byt_app ho (oneV_byt _)) (by omega) (by rw [List.length_append]; omega)
theorem ownsRow_same {w w' : World} {B e : Nat} {v : Value} {n : Nat} {xs : List Value} (h : w.ownsRow B e 1 v n xs) (hk : ∀ g, v.ownBlock = some g → w'.heap[g]? = w.heap[g]?) : w'.ownsRow B e 1 v n xs := by
  obtain ⟨h1, h2⟩ := h
  refine ⟨h1, ?_⟩
  rcases h2 with h2 | ⟨g, cap, cur, rfl, hb, hh, r⟩
  · exact .inl h2
  · exact .inr ⟨g, cap, cur, rfl, hb, (hk g rfl).trans hh, r⟩
theorem info_byte : (Try.prog.info? 5).map (fun i => (i.zero, i.size, i.bytes)) = some (some (.int .u8 0), 1, 1) := by kernel_rfl
/-- What Escape hands back. -/
def EscRes (R : Option (List Int × Nat)) (w : World) (e : Ending) (w' : World) : Prop :=
  Below w.heap.size w w' ∧ match R with
  | none => e = .returned (.tuple #[.slice none 0 0, .int .i64 0, .int .i64 (-24)])
  | some (o, u) => ∃ v, e = .returned (.tuple #[v, .int .i64 (u : Int), .int .i64 0]) ∧ Rd w' .u8 v o
theorem Rd.at8 {w : World} {k : IntKind} {a : Option Addr} {n c : Nat} {l : List Int} (h : Rd w k (.slice a n c) l) {i : Nat} (hi : i < l.length) : ∃ g off, a = some ⟨g, off, none⟩ ∧ w.cell? ⟨g, off + i, none⟩ = some (.int k (l.getD i 0)) := by
  obtain ⟨_, _, e, _, h⟩ := h
  injection e with e1 e2 e3
  rcases h with h | ⟨g, off, ea, hcl⟩
  · rw [h] at hi; simp at hi
  · exact ⟨g, off, e1.trans ea, hcl i hi⟩
/-- s[m:]. -/
theorem Rd.from_ {w : World} {k : IntKind} {a : Option Addr} {n c : Nat} {l : List Int} (h : Rd w k (.slice a n c) l) {m : Nat} (hm : m ≤ n) (g off : Nat) (ha : a = some ⟨g, off, none⟩) (a' : Option Addr) (ha' : m < c → a' = some ⟨g, off + m, none⟩) : Rd w k (.slice a' (n - m) (c - m)) (l.drop m) := by
  obtain ⟨a0, c0, e, hc, hr⟩ := h
  injection e with e1 e2 e3
  subst e1 e2 e3
  refine ⟨_, _, by rw [List.length_drop], by rw [List.length_drop]; omega, ?_⟩
  by_cases h0 : m < l.length
  · right
    rcases hr with h | ⟨g', off', h, hcl⟩
    · rw [h] at h0; cases h0
    · rw [ha] at h; injection h with h; injection h with h1 h2
      subst h1 h2
      refine ⟨g, off + m, ha' (by omega), fun i hi => ?_⟩
      rw [List.length_drop] at hi
      rw [Nat.add_assoc, hcl (m + i) (by omega)]
      simp [List.getD_eq_getElem?_getD]
  · left; exact List.drop_eq_nil_of_le (by omega)
set_option maxRecDepth 100000 in
set_option maxHeartbeats 4000000 in
theorem rescape_c (v : Value) (l : List Int) (w : World) (hr : Rd w .u8 v l) (hb : Byt l) (hs : l.length ≤ 1000000) (R : Option (List Int × Nat)) (hR : Esc l 0 [] R) : Calls Try.prog 11 #[v] w fun e w' => EscRes R w e w' := by
  obtain ⟨a, c, rfl⟩ := hr.len
  have hc : l.length ≤ c := by obtain ⟨_, _, e, h, _⟩ := hr; injection e with e1 e2 e3; omega
  obtain ⟨L, hL⟩ : ∃ L, l.length = L := ⟨_, rfl⟩
  have HL := Lib.hid hL
  have HR := Lib.hid hr
  have HB := Lib.hid hb
  have HE := Lib.hid hR
  have E0 := World.ownsRow_nil w w.heap.size 5 1
  have ONE := Lib.hid (fun (v : Value) (s : List Int) (w : World) hr hb hs => one_any v s w hr hb hs)
  rw [hL] at hs hc ⊢
  clear hL hr hb hR
  go_enter Try.func11, Try.ntmps11
  go_wp2_with fail
  go_loopw [5, 6] (fun v5 v6 wr => ∃ (k : Nat) (out : List Int) (a5 : Option Addr) (c5 : Nat), k ≤ L ∧ v5 = .slice a5 out.length c5 ∧ v6 = .int .i64 k ∧ Below w.heap.size w wr ∧
      Hid (wr.ownsRow w.heap.size 5 1 (.slice a5 out.length c5) out.length (out.map (Value.int .u8)) ∧ Esc l k out R ∧ out.length ≤ k)) (fun _ v6 _ => L - (intOf v6).toNat)
  case atStart => exact ⟨0, [], none, 0, by omega, rfl, rfl, Below.refl _ _, Lib.hid ⟨E0, HE.out, Nat.le_refl _⟩⟩
  case round =>
    obtain ⟨k, out, a5, c5, hk, rfl, rfl, hbw, HI⟩ := hrel
    have HO := Lib.hid (HI.out.1)
    have HS := Lib.hid (HI.out.2.1)
    have ho := HI.out.2.2
    clear HI
    by_cases hlt : k < L
    · have hcell := (HR.out.below hbw).at8 (i := k) (by rw [HL.out]; exact hlt)
      have hcb := byt_getD HB.out k
      have Q1 := Lib.hid (fun h => HS.out.at_quote (by rw [HL.out]; exact hlt) h)
      have Q2 := Lib.hid (fun h1 h2 => HS.out.at_char (by rw [HL.out]; exact hlt) h1 h2)
      have Q3 := Lib.hid (fun h1 h2 => HS.out.at_bad (by rw [HL.out]; exact hlt) h1 h2)
      have Q4 := Lib.hid (fun h1 h2 => HS.out.at_esc (by rw [HL.out]; exact hlt) h1 h2)
      obtain ⟨x, hx⟩ : ∃ x, l.getD k 0 = x := ⟨_, rfl⟩
      rw [hx] at hcell hcb Q1 Q2 Q3 Q4
      clear hx HS
      by_cases h1 : x = 34
      · have G := Lib.hid (Q1.out h1)
        clear Q1 Q2 Q3 Q4
        subst h1
        obtain ⟨g, off, rfl, hc0⟩ := hcell
        have FIN : Hid (EscRes R w (.returned (.tuple #[.slice a5 out.length c5, .int .i64 ((k : Int) + 1), .int .i64 0])) wr) := Lib.hid (by rw [G.out]; exact ⟨hbw, _, rfl, Rd.of_own HO.out⟩)
        clear HO G
        go_wp2_with fail
        go_ret3
        exact FIN.out
      · by_cases h2 : x = 92
        · have BY : Byt (l.drop (k + 1)) := fun y hy => HB.out y (List.mem_of_mem_drop hy)
          have SL : (l.drop (k + 1)).length ≤ 1000000 := by rw [List.length_drop, HL.out]; omega
          have RD : Hid (∀ (g off : Nat) (a' : Option Addr), a = some ⟨g, off, none⟩ → (k + 1 < c → a' = some ⟨g, off + (k + 1), none⟩) → Rd wr .u8 (.slice a' (L - (k + 1)) (c - (k + 1))) (l.drop (k + 1))) := Lib.hid (fun g off a' h1 h2 => by
            have := (HR.out.below hbw).from_ (m := k + 1) (by rw [HL.out]; exact hlt) g off h1 a' h2
            rw [HL.out] at this; exact this)
          have HBY := Lib.hid BY
          have HSL := Lib.hid SL
          clear BY SL
          obtain ⟨s, hs'⟩ : ∃ s, l.drop (k + 1) = s := ⟨_, rfl⟩
          rw [hs'] at HBY HSL RD Q3 Q4
          have HDR := Lib.hid hs'
          clear hs' Q1 Q2
          have z1 : (x == 34) = false := beq_no h1
          subst h2
          obtain ⟨g, off, rfl, hc0⟩ := hcell
          have i1 : (k : Int) + 1 ≤ c := by omega
          obtain ⟨m, hm⟩ : ∃ m, (oneV s).2 = m := ⟨_, rfl⟩
          obtain ⟨b, hbb⟩ : ∃ b, (oneV s).1 = b := ⟨_, rfl⟩
          have HM := Lib.hid hm
          have HBB := Lib.hid hbb
          have HLS : Hid (s.length = L - (k + 1)) := Lib.hid (by rw [← HDR.out, List.length_drop, HL.out])
          rw [hm] at Q3 Q4
          rw [hbb] at Q4
          clear hm hbb
          by_cases hcap : k + 1 = c
          · have n1 : L - (k + 1) = 0 := by omega
            have n2 : c - (k + 1) = 0 := by omega
            rw [n1, n2] at RD
            have z2 : ((k : Int) + 1 == c) = true := by rw [beq_iff_eq]; omega
            clear n1 n2
            have CC : Hid (Calls Try.prog 21 #[.slice (some ⟨g, off, none⟩) 0 0] wr fun e w' => Below wr.heap.size wr w' ∧ ∃ v, e = .returned (.tuple #[v, .int .i64 (m : Int)]) ∧ Rd w' .u8 v b) := Lib.hid (by
              have h := ONE.out _ s wr (RD.out g off (some ⟨g, off, none⟩) rfl (fun h => absurd h (by omega))) HBY.out HSL.out
              unfold REscOk at h
              rw [HM.out, HBB.out] at h
              exact h)
            by_cases hm0 : m = 0
            · have G := Lib.hid (Q3.out rfl hm0)
              have z5 : ((m : Int) == 0) = true := by rw [beq_iff_eq]; omega
              have FIN : Hid (∀ w2, Below wr.heap.size wr w2 → EscRes R w (.returned (.tuple #[.slice none 0 0, .int .i64 0, .int .i64 (-24)])) w2) := Lib.hid (fun w2 h => by rw [G.out]; exact ⟨below_then hbw hbw.size h, rfl⟩)
              clear HO G Q3 Q4 HBY HSL RD
              go_wp2_with (go_at_call 21; (with_reducible refine (CC.out).mono ?_); rintro e w2 ⟨hb2, u, rfl, hr2⟩; have HF := Lib.hid (FIN.out w2 hb2); clear hr2)
              go_ret3
              exact HF.out
            · have G := Lib.hid (Q4.out rfl hm0)
              have z5 : ((m : Int) == 0) = false := by rw [beq_eq_false_iff_ne]; omega
              have z6 : (m : Int) ≤ 3 := by have := (oneV_len s).2.2; rw [HM.out] at this; omega
              have z7 : b.length ≤ 1 + m := by have := (oneV_len s).2.1; rw [HM.out, HBB.out] at this; exact this
              have z8 : k + 1 + m ≤ L := by have := (oneV_len s).1; rw [HM.out, HLS.out] at this; omega
              have i2 : IntKind.i64.wrap ((k : Int) + 1 + m) = (k : Int) + 1 + m := by simp only [IntKind.wrap_i64]; omega
              obtain ⟨nn, hnn⟩ : ∃ nn, out.length = nn := ⟨_, rfl⟩
              have HN := Lib.hid hnn
              rw [hnn] at HO ho ⊢
              clear hnn Q3 Q4 HBY HSL RD
              go_wp2_with (first
                | (go_at_call 21; (with_reducible refine (CC.out).mono ?_); rintro e w2 ⟨hb2, u, rfl, hr2⟩; obtain ⟨ua, uc, rfl⟩ := hr2.len; have HR2 := Lib.hid hr2; have hb3 := below_then hbw hbw.size hb2; have HO2 := Lib.hid (ownsRow_same HO.out (fun gg hg => hb2.block gg (HO.out.lt gg hg).2)); clear hr2)
                | (at_builtin; go_loud (refine wp_apps 22 5 (.int .u8 0) 1 Try.underlying22 info_byte rfl w.heap.size (.slice a5 nn c5) nn _ rfl (.tmp 45) (.tmp 46) (by rfl) (by rfl) HO2.out (by exact hb3.size) .u8 _ b (by rfl) HR2.out (by omega) (by decide) ?_); intro v' w3 hown hg _; obtain ⟨a1, d1, rfl⟩ := ownsRow_slice hown; have HO3 := Lib.hid hown; have hb4 := hb3.trans (grown_below hg HO2.out hb3.size); clear hown hg))
              go_roundw
              case rel => exact ⟨k + 1 + m, out ++ b, a1, d1, z8, by rw [List.length_append, HN.out], by go_num, hb4, Lib.hid ⟨by rw [List.length_append, HN.out, List.map_append]; exact HO3.out, G.out, by rw [List.length_append, HN.out]; omega⟩⟩
              case measure => simp [intOf]; omega
          · have i3 : k + 1 < c := by omega
            have CC : Hid (Calls Try.prog 21 #[.slice (some ⟨g, off + (k + 1), none⟩) (L - (k + 1)) (c - (k + 1))] wr fun e w' => Below wr.heap.size wr w' ∧ ∃ v, e = .returned (.tuple #[v, .int .i64 (m : Int)]) ∧ Rd w' .u8 v b) := Lib.hid (by
              have h := ONE.out _ s wr (RD.out g off (some ⟨g, off + (k + 1), none⟩) rfl (fun h => rfl)) HBY.out HSL.out
              unfold REscOk at h
              rw [HM.out, HBB.out] at h
              exact h)
            by_cases hm0 : m = 0
            · have G := Lib.hid (Q3.out rfl hm0)
              have z5 : ((m : Int) == 0) = true := by rw [beq_iff_eq]; omega
              have FIN : Hid (∀ w2, Below wr.heap.size wr w2 → EscRes R w (.returned (.tuple #[.slice none 0 0, .int .i64 0, .int .i64 (-24)])) w2) := Lib.hid (fun w2 h => by rw [G.out]; exact ⟨below_then hbw hbw.size h, rfl⟩)
              clear HO G Q3 Q4 HBY HSL RD
              go_wp2_with (go_at_call 21; (with_reducible refine (CC.out).mono ?_); rintro e w2 ⟨hb2, u, rfl, hr2⟩; have HF := Lib.hid (FIN.out w2 hb2); clear hr2)
              go_ret3
              exact HF.out
            · have G := Lib.hid (Q4.out rfl hm0)
              have z5 : ((m : Int) == 0) = false := by rw [beq_eq_false_iff_ne]; omega
              have z6 : (m : Int) ≤ 3 := by have := (oneV_len s).2.2; rw [HM.out] at this; omega
              have z7 : b.length ≤ 1 + m := by have := (oneV_len s).2.1; rw [HM.out, HBB.out] at this; exact this
              have z8 : k + 1 + m ≤ L := by have := (oneV_len s).1; rw [HM.out, HLS.out] at this; omega
              have i2 : IntKind.i64.wrap ((k : Int) + 1 + m) = (k : Int) + 1 + m := by simp only [IntKind.wrap_i64]; omega
              obtain ⟨nn, hnn⟩ : ∃ nn, out.length = nn := ⟨_, rfl⟩
              have HN := Lib.hid hnn
              rw [hnn] at HO ho ⊢
              clear hnn Q3 Q4 HBY HSL RD
              go_wp2_with (first
                | (go_at_call 21; (with_reducible refine (CC.out).mono ?_); rintro e w2 ⟨hb2, u, rfl, hr2⟩; obtain ⟨ua, uc, rfl⟩ := hr2.len; have HR2 := Lib.hid hr2; have hb3 := below_then hbw hbw.size hb2; have HO2 := Lib.hid (ownsRow_same HO.out (fun gg hg => hb2.block gg (HO.out.lt gg hg).2)); clear hr2)
                | (at_builtin; go_loud (refine wp_apps 22 5 (.int .u8 0) 1 Try.underlying22 info_byte rfl w.heap.size (.slice a5 nn c5) nn _ rfl (.tmp 45) (.tmp 46) (by rfl) (by rfl) HO2.out (by exact hb3.size) .u8 _ b (by rfl) HR2.out (by omega) (by decide) ?_); intro v' w3 hown hg _; obtain ⟨a1, d1, rfl⟩ := ownsRow_slice hown; have HO3 := Lib.hid hown; have hb4 := hb3.trans (grown_below hg HO2.out hb3.size); clear hown hg))
              go_roundw
              case rel => exact ⟨k + 1 + m, out ++ b, a1, d1, z8, by rw [List.length_append, HN.out], by go_num, hb4, Lib.hid ⟨by rw [List.length_append, HN.out, List.map_append]; exact HO3.out, G.out, by rw [List.length_append, HN.out]; omega⟩⟩
              case measure => simp [intOf]; omega
        · have G := Lib.hid (Q2.out h1 h2)
          clear Q1 Q2 Q3 Q4
          have z1 : (x == 34) = false := beq_no h1
          have z2 : (x != 92) = true := bne_no h2
          obtain ⟨g, off, rfl, hc0⟩ := hcell
          obtain ⟨nn, hnn⟩ : ∃ nn, out.length = nn := ⟨_, rfl⟩
          have HN := Lib.hid hnn
          rw [hnn] at HO ho ⊢
          clear hnn
          go_wp2_with (at_builtin; go_loud (refine wp_app 22 5 (.int .u8 0) 1 Try.underlying22 info_byte rfl w.heap.size (.slice a5 nn c5) nn _ (.int .u8 x) _ _ rfl (by rfl) (.tmp 26) (.tmp 31) (by rfl) (by rfl) (by rfl) HO.out (by exact hbw.size) rfl (by omega) (by decide) ?_); intro v' w1 hown hb1; obtain ⟨a1, d1, rfl⟩ := ownsRow_slice hown; have HO1 := Lib.hid hown; clear hown)
          go_roundw
          case rel => exact ⟨k + 1, out ++ [x], a1, d1, by omega, by rw [List.length_append, HN.out]; rfl, by go_num, hbw.trans hb1, Lib.hid ⟨by rw [List.length_append, HN.out, List.map_append]; exact HO1.out, G.out, by rw [List.length_append, HN.out]; simp; omega⟩⟩
          case measure => simp [intOf]; omega
    · have e : k = L := by omega
      subst e
      have FIN : Hid (EscRes R w (.returned (.tuple #[.slice a5 out.length c5, .int .i64 (k : Int), .int .i64 0])) wr) := Lib.hid (by rw [HS.out.at_end (by rw [HL.out]; exact Nat.le_refl _)]; exact ⟨hbw, _, rfl, Rd.of_own HO.out⟩)
      clear HO HS
      go_wp2_with fail
      go_ret3
      exact FIN.out
end Go.Proofs.Ytocmgdolinajmaa
