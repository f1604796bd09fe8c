/- Compare; awake; the laws' walks: BytesEscape, BytesOrder. -/
import Derived.Test.YtocmgdolinajmaaU
namespace Go.Proofs.Ytocmgdolinajmaa
set_option linter.unusedVariables false
set_option linter.unusedSimpArgs false
open Go.RowKit

/-- Byte by byte. -/
def cmpB : List Int → List Int → Int
  | [], [] => 0
  | [], _ :: _ => -1
  | _ :: _, [] => 1
  | x :: a, y :: b => if x < y then -1 else if y < x then 1 else cmpB a b
theorem cmpB_bytes : ∀ (a b : List Int), Byt a → Byt b → Lib.compareBytes (Lib.bytesOf a) (Lib.bytesOf b) = cmpB a b
  | [], [], _, _ => rfl
  | [], _ :: _, _, _ => rfl
  | _ :: _, [], _, _ => rfl
  | x :: a, y :: b, ha, hb => by
    have ih := cmpB_bytes a b (fun z hz => ha z (by simp [hz])) (fun z hz => hb z (by simp [hz]))
    have hx := ha x (by simp)
    have hy := hb y (by simp)
    have k : ∀ u v : Int, 0 ≤ u ∧ u < 256 → 0 ≤ v ∧ v < 256 → ((UInt8.ofNat u.toNat < UInt8.ofNat v.toNat) ↔ u < v) := by
      intro u v hu hv
      rw [UInt8.lt_iff_toNat_lt]
      simp only [UInt8.toNat_ofNat']
      omega
    show (if UInt8.ofNat x.toNat < UInt8.ofNat y.toNat then -1 else if UInt8.ofNat y.toNat < UInt8.ofNat x.toNat then 1 else Lib.compareBytes (Lib.bytesOf a) (Lib.bytesOf b)) = _
    unfold cmpB
    simp only [k x y hx hy, k y x hy hx, ih]
theorem bytes_run {w : World} {v : Value} {l : List Int} (h : Rd w .u8 v l) : (Extern.Bytes.bytesOf v).run Try.prog w = .ok ⟨(Lib.bytesOf l).toArray⟩ w := by
  obtain ⟨a, c, rfl, hc, hr⟩ := h
  have key : ∀ g off, (∀ i, i < l.length → w.cell? ⟨g, off + i, none⟩ = some (.int .u8 (l.getD i 0))) → (Extern.Bytes.loadBytes ⟨g, off, none⟩ l.length .empty).run Try.prog w = .ok ⟨(Lib.bytesOf l).toArray⟩ w := by
    intro g off hcl
    have hl := Lib.run_loadBytesX (P := Try.prog) w l ⟨g, off, none⟩ .empty (fun j x hj => by
      have hjl : j < l.length := (List.getElem?_eq_some_iff.1 hj).1
      have e : (⟨g, off, none⟩ : Addr).add j = ⟨g, off + j, none⟩ := by unfold Addr.add; split <;> simp_all
      rw [e, hcl j (by omega), List.getD_eq_getElem?_getD, hj]
      rfl)
    rw [hl]
    congr 1
    apply ByteArray.ext
    show (#[] : Array UInt8) ++ (Lib.bytesOf l).toArray = (Lib.bytesOf l).toArray
    simp
  cases a with
  | none =>
    have hl : l = [] := by
      rcases hr with h | ⟨g, off, h, _⟩
      · exact h
      · cases h
    subst hl
    rfl
  | some ad =>
    rcases hr with rfl | ⟨g, off, h, hcl⟩
    · rfl
    · injection h with h
      subst h
      exact key g off hcl
theorem acmp_run {w : World} {u v : Value} {a b : List Int} (ha : Rd w .u8 u a) (hb : Rd w .u8 v b) (ba : Byt a) (bb : Byt b) : (callFunc 30 #[u, v]).run Try.prog w = .ok (.value (.int .i64 (cmpB a b))) w := by
  rw [run_callFunc_extern Try.func30 (by kernel_rfl) (by kernel_rfl) (by kernel_rfl) (e := Extern.BytealgCompare.compare) (by kernel_rfl)]
  have h1 := bytes_run ha
  have h2 := bytes_run hb
  have e : (Extern.BytealgCompare.compare #[u, v]).run Try.prog w = .ok (.int .i64 (cmpB a b)) w := by
    change Sem.run Try.prog (do pure (goInt (Extern.BytealgCompare.cmp (← Extern.Bytes.bytesOf u) (← Extern.Bytes.bytesOf v)))) w = _
    simp only [Sem.run_bind, h1, h2, Sem.run_pure, Result.andThen]
    rw [Lib.cmp_eq, ← cmpB_bytes a b ba bb]
    rfl
  rw [e]
  rfl
theorem bcmp_c (u v : Value) (a b : List Int) (w : World) (ha : Rd w .u8 u a) (hb : Rd w .u8 v b) (ba : Byt a) (bb : Byt b) : Calls Try.prog 22 #[u, v] w fun e w' => e = .returned (.int .i64 (cmpB a b)) ∧ w = w' := by
  have E := acmp_run ha hb ba bb
  obtain ⟨ua, uc, rfl⟩ := ha.len
  obtain ⟨va, vc, rfl⟩ := hb.len
  clear ha hb
  go_enter Try.func22, Try.ntmps22
  go_wp2
  go_ret
  exact ⟨rfl, rfl⟩
theorem cmp_c (u v : Value) (a b : List Int) (w : World) (ha : Rd w .u8 u a) (hb : Rd w .u8 v b) (ba : Byt a) (bb : Byt b) : Calls Try.prog 14 #[u, v] w fun e w' => e = .returned (.int .i64 (cmpB a b)) ∧ w = w' := by
  have E := Lib.hid (bcmp_c u v a b w ha hb ba bb)
  clear ha hb
  go_enter Try.func14, Try.ntmps14
  go_wp2_with (go_at_call 22; (with_reducible refine (E.out).mono ?_); rintro e w' ⟨rfl, rfl⟩)
  go_ret
  exact ⟨rfl, rfl⟩
theorem Rd.of_alloc (w : World) (k : IntKind) (cs : List Int) (T : TypeId) (m : Nat × Nat) : Rd (w.alloc (.cells (cs.map (Value.int k)).toArray T m)) k (.slice (some ⟨w.heap.size, 0, none⟩) cs.length cs.length) cs := by
  refine ⟨_, _, rfl, Nat.le_refl _, .inr ⟨_, _, rfl, fun i hi => ?_⟩⟩
  rw [Nat.zero_add, World.cell?_alloc_mark]
  simp [List.getElem?_eq_getElem hi, List.getD_eq_getElem?_getD, hi]
theorem conv_const (w : World) (C : Array Value) (n c N : Nat) (h : w.heap.size = N) : (convert 22 22 (.slice (some ⟨N, 0, none⟩) n c)).run Try.prog (w.alloc (.cells C 5)) = .ok (.slice (some ⟨N, 0, none⟩) n c) (w.alloc (.cells C 5 (C.size, C.size + 1))) := by
  subst h
  exact Go.Lib.run_convert_bytes_const w 22 5 C n c Try.underlying22 Try.underlying5
theorem esc_awake : Esc [97, 92, 110, 34, 122] 0 [] (some ([97, 10], 4)) :=
  .char (by decide) (by decide) (by decide) (.esc (by decide) (by decide) (show (oneV [110, 34, 122]).2 ≠ 0 from show (1 : Nat) ≠ 0 by decide) (.quote (by show (3 : Nat) < 5; decide) rfl))
theorem byt_lit {l : List Int} (h : (l.all fun x => decide (0 ≤ x ∧ x < 256)) = true) : Byt l := fun x hx => by
  have := List.all_eq_true.1 h x hx
  exact of_decide_eq_true this
set_option maxHeartbeats 1000000 in
theorem awake_c (w : World) : Calls Try.prog 8 #[] w fun e w' => e = .returned (.bool true) ∧ Below w.heap.size w w' := by
  have hcv := conv_const
  have A1 : Hid (∀ w : World, Rd (w.alloc (.cells #[.int .u8 97, .int .u8 92, .int .u8 110, .int .u8 34, .int .u8 122] 5 (5, 6))) .u8 (.slice (some ⟨w.heap.size, 0, none⟩) 5 5) [97, 92, 110, 34, 122]) := Lib.hid (fun w => Rd.of_alloc w .u8 [97, 92, 110, 34, 122] 5 _)
  have E1 : Hid (Calls Try.prog 10 #[.slice (some ⟨w.heap.size, 0, none⟩) 5 5] (w.alloc (.cells #[.int .u8 97, .int .u8 92, .int .u8 110, .int .u8 34, .int .u8 122] 5 (5, 6))) fun e w' => EscRes (some ([97, 10], 4)) (w.alloc (.cells #[.int .u8 97, .int .u8 92, .int .u8 110, .int .u8 34, .int .u8 122] 5 (5, 6))) e w') := Lib.hid (pescape_c _ _ _ (A1.out w) (byt_lit (by decide)) (by decide) _ esc_awake)
  have A2 : Hid (∀ w : World, Rd (w.alloc (.cells #[.int .u8 97, .int .u8 10] 5 (2, 3))) .u8 (.slice (some ⟨w.heap.size, 0, none⟩) 2 2) [97, 10]) := Lib.hid (fun w => Rd.of_alloc w .u8 [97, 10] 5 _)
  have A3 : Hid (∀ w : World, Rd (w.alloc (.cells #[.int .u8 97, .int .u8 98] 5 (2, 3))) .u8 (.slice (some ⟨w.heap.size, 0, none⟩) 2 2) [97, 98]) := Lib.hid (fun w => Rd.of_alloc w .u8 [97, 98] 5 _)
  have A4 : Hid (∀ w : World, Rd (w.alloc (.cells #[.int .u8 97, .int .u8 98, .int .u8 99] 5 (3, 4))) .u8 (.slice (some ⟨w.heap.size, 0, none⟩) 3 3) [97, 98, 99]) := Lib.hid (fun w => Rd.of_alloc w .u8 [97, 98, 99] 5 _)
  have S1 := Lib.hid (fun u v w ha hb => same_yes u v [97, 10] w ha hb (byt_lit (by decide)))
  have C1 := Lib.hid (fun u v w ha hb => cmp_c u v [97, 98] [97, 98, 99] w ha hb (byt_lit (by decide)) (byt_lit (by decide)))
  have b0 : Below w.heap.size w (w.alloc (.cells #[.int .u8 97, .int .u8 92, .int .u8 110, .int .u8 34, .int .u8 122] 5 (5, 6))) := (Below.refl _ _).alloc (Nat.le_refl _) _
  go_enter Try.func8, Try.ntmps8
  go_wp2_with fail
  refine (E1.out).mono ?_
  rintro e w1 ⟨hb1, v1, rfl, hr1⟩
  obtain ⟨a1, d1, rfl⟩ := hr1.len
  have HR1 := Lib.hid hr1
  have hb2 := below_then b0 b0.size hb1
  clear hr1 hb1
  go_wp2_with fail
  refine (S1.out _ _ _ (HR1.out.below ((Below.refl _ w1).alloc (Nat.le_refl _) _)) (A2.out w1)).mono ?_
  rintro e w' ⟨rfl, rfl⟩
  have b3 : Below w1.heap.size w1 (w1.alloc (.cells #[.int .u8 97, .int .u8 10] 5 (2, 3))) := (Below.refl _ _).alloc (Nat.le_refl _) _
  obtain ⟨w2, hw2⟩ : ∃ w2, w1.alloc (.cells #[.int .u8 97, .int .u8 10] 5 (2, 3)) = w2 := ⟨_, rfl⟩
  rw [hw2] at b3 ⊢
  have hb4 := below_then hb2 hb2.size b3
  clear b3 hw2 HR1 E1 S1 A1 A2
  go_wp2_with fail
  have r4 := A4.out (w2.alloc (.cells #[.int .u8 97, .int .u8 98] 5 (2, 3)))
  rw [show (w2.alloc (.cells #[.int .u8 97, .int .u8 98] 5 (2, 3))).heap.size = w2.heap.size + 1 by simp] at r4
  have r3 := (A3.out w2).below ((Below.refl _ _).alloc (Nat.le_refl _) (.cells #[.int .u8 97, .int .u8 98, .int .u8 99] 5 (3, 4)))
  have CC := cmp_c _ _ _ _ _ r3 r4 (byt_lit (by decide)) (byt_lit (by decide))
  rw [show cmpB [97, 98] [97, 98, 99] = -1 from rfl] at CC
  have b4 : Below w2.heap.size w2 ((w2.alloc (.cells #[.int .u8 97, .int .u8 98] 5 (2, 3))).alloc (.cells #[.int .u8 97, .int .u8 98, .int .u8 99] 5 (3, 4))) := ((Below.refl _ _).alloc (Nat.le_refl _) _).alloc (by simp) _
  clear A3 A4 r3 r4
  refine CC.mono ?_
  clear CC
  rintro e w' ⟨rfl, rfl⟩
  go_wp2_with fail
  go_ret
  exact ⟨rfl, below_then hb4 hb4.size b4⟩
set_option maxRecDepth 100000 in
set_option maxHeartbeats 2000000 in
theorem lescape_walk (v : Value) (l : List Int) (w : World) (hr : Rd w .u8 v l) (hb : Byt l) : Calls Try.prog 3 #[v] w fun e w' => e = .returned (.bool true) ∧ Below w.heap.size w w' := by
  obtain ⟨va, vc, rfl⟩ := hr.len
  have AW := Lib.hid awake_c
  by_cases hs : 400 < l.length
  · clear hr hb
    obtain ⟨L, hL⟩ : ∃ L, l.length = L := ⟨_, rfl⟩
    rw [hL] at hs ⊢
    clear hL
    go_enter Try.func3, Try.ntmps3
    go_wp2_with (go_at_call 8; (with_reducible refine (AW.out _).mono ?_); rintro e w1 ⟨rfl, hb1⟩)
    go_ret
    exact ⟨rfl, hb1⟩
  · have h9 : l.length ≤ 1000000 := by omega
    obtain ⟨R, hR⟩ := esc_total l l.length 0 [] (by omega)
    have HF := Lib.hid (hR.facts hb (fun x hx => by cases hx) (Nat.zero_le _) (Nat.le_refl _))
    have HR := Lib.hid hr
    have LE := Lib.hid (lent_c _ l w hr h9)
    have PE := Lib.hid (fun u w1 (h : Lent w1 u l) => pescape_c u l w1 h.rd hb h9 R hR)
    have RE := Lib.hid (fun u w1 (h : Rd w1 .u8 u l) => rescape_c u l w1 h hb h9 R hR)
    have BA := Lib.hid (fun u v w1 (h : Lent w1 u l) (h2 : Rd w1 .u8 v l) => back_c u v l w1 h h2 hb h9)
    obtain ⟨L, hL⟩ : ∃ L, l.length = L := ⟨_, rfl⟩
    rw [hL] at hs LE HR ⊢
    clear hL hr hb hR h9
    cases R with
    | none =>
      clear HF
      have SN := Lib.hid (fun w1 => same_yes (.slice none 0 0) (.slice none 0 0) [] w1 (Rd.nil _ _ _) (Rd.nil _ _ _) (fun x hx => by cases hx))
      go_enter Try.func3, Try.ntmps3
      go_wp2_with (first
        | (go_at_call 9; (with_reducible refine (LE.out).mono ?_); rintro e w1 ⟨u, rfl, hl1, hb1⟩; have HL1 := Lib.hid hl1; clear hl1)
        | (go_at_call 10; (with_reducible refine (PE.out _ _ HL1.out).mono ?_); rintro e w2 ⟨hb2, rfl⟩; have hc2 := below_then hb1 hb1.size hb2; have HL2 := Lib.hid (HL1.out.below hb2); clear hb2)
        | (go_at_call 11; (with_reducible refine (RE.out _ _ (HR.out.below hc2)).mono ?_); rintro e w3 ⟨hb3, rfl⟩; have hc3 := below_then hc2 hc2.size hb3; have HL3 := Lib.hid (HL2.out.below hb3); clear hb3)
        | (go_at_call 12; (with_reducible refine (SN.out _).mono ?_); rintro e w' ⟨rfl, rfl⟩)
        | (go_at_call 13; (with_reducible refine (BA.out _ _ _ HL3.out (HR.out.below hc3)).mono ?_); rintro e w4 ⟨rfl, hb4⟩; have hc4 := below_then hc3 hc3.size hb4; clear hb4)
        | (go_at_call 8; (with_reducible refine (AW.out _).mono ?_); rintro e w5 ⟨rfl, hb5⟩; have hc5 := below_then hc4 hc4.size hb5; clear hb5))
      go_ret
      exact ⟨rfl, hc5⟩
    | some p =>
      obtain ⟨o, n⟩ := p
      have BO := (HF.out o n rfl).1
      have SN := Lib.hid (fun u v w1 h1 h2 => same_yes u v o w1 h1 h2 BO)
      clear HF BO
      go_enter Try.func3, Try.ntmps3
      go_wp2_with (first
        | (go_at_call 9; (with_reducible refine (LE.out).mono ?_); rintro e w1 ⟨u, rfl, hl1, hb1⟩; have HL1 := Lib.hid hl1; clear hl1)
        | (go_at_call 10; (with_reducible refine (PE.out _ _ HL1.out).mono ?_); rintro e w2 ⟨hb2, u2, rfl, hr2⟩; have hc2 := below_then hb1 hb1.size hb2; have HL2 := Lib.hid (HL1.out.below hb2); have HR2 := Lib.hid hr2; clear hb2 hr2)
        | (go_at_call 11; (with_reducible refine (RE.out _ _ (HR.out.below hc2)).mono ?_); rintro e w3 ⟨hb3, u3, rfl, hr3⟩; have hc3 := below_then hc2 hc2.size hb3; have HL3 := Lib.hid (HL2.out.below hb3); have HR3 := Lib.hid hr3; have HR4 := Lib.hid (HR2.out.below hb3); clear hb3 hr3)
        | (go_at_call 12; (with_reducible refine (SN.out _ _ _ HR4.out HR3.out).mono ?_); rintro e w' ⟨rfl, rfl⟩)
        | (go_at_call 13; (with_reducible refine (BA.out _ _ _ HL3.out (HR.out.below hc3)).mono ?_); rintro e w4 ⟨rfl, hb4⟩; have hc4 := below_then hc3 hc3.size hb4; clear hb4)
        | (go_at_call 8; (with_reducible refine (AW.out _).mono ?_); rintro e w5 ⟨rfl, hb5⟩; have hc5 := below_then hc4 hc4.size hb5; clear hb5))
      go_ret
      exact ⟨rfl, hc5⟩
end Go.Proofs.Ytocmgdolinajmaa
