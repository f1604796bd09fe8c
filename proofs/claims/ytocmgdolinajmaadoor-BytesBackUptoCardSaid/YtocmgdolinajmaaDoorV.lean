/- Compare; awake; the laws' walks: BytesEscape, BytesOrder. -/
import Derived.Test.YtocmgdolinajmaaDoorU
namespace Go.Proofs.YtocmgdolinajmaaDoor
set_option linter.unusedVariables false
set_option linter.unusedSimpArgs false
open Go.RowKit

/-- Byte by byte. -/
def cmpB : List Int → List Int → Int
  | [], [] => 0
  | [], _ :: _ => -1
  | _ :: _, [] => 1
  | x :: a, y :: b => if x < y then -1 else if y < x then 1 else cmpB a b
theorem cmpB_bytes : ∀ (a b : List Int), Byt a → Byt b → Lib.compareBytes (Lib.bytesOf a) (Lib.bytesOf b) = cmpB a b
  | [], [], _, _ => rfl
  | [], _ :: _, _, _ => rfl
  | _ :: _, [], _, _ => rfl
  | x :: a, y :: b, ha, hb => by
    have ih := cmpB_bytes a b (fun z hz => ha z (by simp [hz])) (fun z hz => hb z (by simp [hz]))
    have hx := ha x (by simp)
    have hy := hb y (by simp)
    have k : ∀ u v : Int, 0 ≤ u ∧ u < 256 → 0 ≤ v ∧ v < 256 → ((UInt8.ofNat u.toNat < UInt8.ofNat v.toNat) ↔ u < v) := by
      intro u v hu hv
      rw [UInt8.lt_iff_toNat_lt]
      simp only [UInt8.toNat_ofNat']
      omega
    show (if UInt8.ofNat x.toNat < UInt8.ofNat y.toNat then -1 else if UInt8.ofNat y.toNat < UInt8.ofNat x.toNat then 1 else Lib.compareBytes (Lib.bytesOf a) (Lib.bytesOf b)) = _
    unfold cmpB
    simp only [k x y hx hy, k y x hy hx, ih]
theorem bytes_run {w : World} {v : Value} {l : List Int} (h : Rd w .u8 v l) : (Extern.Bytes.bytesOf v).run Tryd.prog w = .ok ⟨(Lib.bytesOf l).toArray⟩ w := by
  obtain ⟨a, c, rfl, hc, hr⟩ := h
  have key : ∀ g off, (∀ i, i < l.length → w.cell? ⟨g, off + i, none⟩ = some (.int .u8 (l.getD i 0))) → (Extern.Bytes.loadBytes ⟨g, off, none⟩ l.length .empty).run Tryd.prog w = .ok ⟨(Lib.bytesOf l).toArray⟩ w := by
    intro g off hcl
    have hl := Lib.run_loadBytesX (P := Tryd.prog) w l ⟨g, off, none⟩ .empty (fun j x hj => by
      have hjl : j < l.length := (List.getElem?_eq_some_iff.1 hj).1
      have e : (⟨g, off, none⟩ : Addr).add j = ⟨g, off + j, none⟩ := by unfold Addr.add; split <;> simp_all
      rw [e, hcl j (by omega), List.getD_eq_getElem?_getD, hj]
      rfl)
    rw [hl]
    congr 1
    apply ByteArray.ext
    show (#[] : Array UInt8) ++ (Lib.bytesOf l).toArray = (Lib.bytesOf l).toArray
    simp
  cases a with
  | none =>
    have hl : l = [] := by
      rcases hr with h | ⟨g, off, h, _⟩
      · exact h
      · cases h
    subst hl
    rfl
  | some ad =>
    rcases hr with rfl | ⟨g, off, h, hcl⟩
    · rfl
    · injection h with h
      subst h
      exact key g off hcl
theorem acmp_run {w : World} {u v : Value} {a b : List Int} (ha : Rd w .u8 u a) (hb : Rd w .u8 v b) (ba : Byt a) (bb : Byt b) : (callFunc 38 #[u, v]).run Tryd.prog w = .ok (.value (.int .i64 (cmpB a b))) w := by
  rw [run_callFunc_extern Tryd.func38 (by kernel_rfl) (by kernel_rfl) (by kernel_rfl) (e := Extern.BytealgCompare.compare) (by kernel_rfl)]
  have h1 := bytes_run ha
  have h2 := bytes_run hb
  have e : (Extern.BytealgCompare.compare #[u, v]).run Tryd.prog w = .ok (.int .i64 (cmpB a b)) w := by
    change Sem.run Tryd.prog (do pure (goInt (Extern.BytealgCompare.cmp (← Extern.Bytes.bytesOf u) (← Extern.Bytes.bytesOf v)))) w = _
    simp only [Sem.run_bind, h1, h2, Sem.run_pure, Result.andThen]
    rw [Lib.cmp_eq, ← cmpB_bytes a b ba bb]
    rfl
  rw [e]
  rfl
theorem bcmp_c (u v : Value) (a b : List Int) (w : World) (ha : Rd w .u8 u a) (hb : Rd w .u8 v b) (ba : Byt a) (bb : Byt b) : Calls Tryd.prog 25 #[u, v] w fun e w' => e = .returned (.int .i64 (cmpB a b)) ∧ w = w' := by
  have E := acmp_run ha hb ba bb
  obtain ⟨ua, uc, rfl⟩ := ha.len
  obtain ⟨va, vc, rfl⟩ := hb.len
  clear ha hb
  go_enter Tryd.func25, Tryd.ntmps25
  go_wp2
  go_ret
  exact ⟨rfl, rfl⟩
theorem cmp_c (u v : Value) (a b : List Int) (w : World) (ha : Rd w .u8 u a) (hb : Rd w .u8 v b) (ba : Byt a) (bb : Byt b) : Calls Tryd.prog 14 #[u, v] w fun e w' => e = .returned (.int .i64 (cmpB a b)) ∧ w = w' := by
  have E := Lib.hid (bcmp_c u v a b w ha hb ba bb)
  clear ha hb
  go_enter Tryd.func14, Tryd.ntmps14
  go_wp2_with (go_at_call 25; (with_reducible refine (E.out).mono ?_); rintro e w' ⟨rfl, rfl⟩)
  go_ret
  exact ⟨rfl, rfl⟩
theorem Rd.of_alloc (w : World) (k : IntKind) (cs : List Int) (T : TypeId) (m : Nat × Nat) : Rd (w.alloc (.cells (cs.map (Value.int k)).toArray T m)) k (.slice (some ⟨w.heap.size, 0, none⟩) cs.length cs.length) cs := by
  refine ⟨_, _, rfl, Nat.le_refl _, .inr ⟨_, _, rfl, fun i hi => ?_⟩⟩
  rw [Nat.zero_add, World.cell?_alloc_mark]
  simp [List.getElem?_eq_getElem hi, List.getD_eq_getElem?_getD, hi]
theorem conv_const (w : World) (C : Array Value) (n c N : Nat) (h : w.heap.size = N) : (convert 22 22 (.slice (some ⟨N, 0, none⟩) n c)).run Tryd.prog (w.alloc (.cells C 5)) = .ok (.slice (some ⟨N, 0, none⟩) n c) (w.alloc (.cells C 5 (C.size, C.size + 1))) := by
  subst h
  exact Go.Lib.run_convert_bytes_const w 22 5 C n c Tryd.underlying22 Tryd.underlying5
theorem esc_awake : Esc [97, 92, 110, 34, 122] 0 [] (some ([97, 10], 4)) :=
  .char (by decide) (by decide) (by decide) (.esc (by decide) (by decide) (show (oneV [110, 34, 122]).2 ≠ 0 from show (1 : Nat) ≠ 0 by decide) (.quote (by show (3 : Nat) < 5; decide) rfl))
theorem byt_lit {l : List Int} (h : (l.all fun x => decide (0 ≤ x ∧ x < 256)) = true) : Byt l := fun x hx => by
  have := List.all_eq_true.1 h x hx
  exact of_decide_eq_true this
set_option maxHeartbeats 1000000 in
theorem awake_c (w : World) : Calls Tryd.prog 6 #[] w fun e w' => e = .returned (.bool true) ∧ Below w.heap.size w w' := by
  have hcv := conv_const
  have A1 : Hid (∀ w : World, Rd (w.alloc (.cells #[.int .u8 97, .int .u8 92, .int .u8 110, .int .u8 34, .int .u8 122] 5 (5, 6))) .u8 (.slice (some ⟨w.heap.size, 0, none⟩) 5 5) [97, 92, 110, 34, 122]) := Lib.hid (fun w => Rd.of_alloc w .u8 [97, 92, 110, 34, 122] 5 _)
  have E1 : Hid (Calls Tryd.prog 22 #[.slice (some ⟨w.heap.size, 0, none⟩) 5 5] (w.alloc (.cells #[.int .u8 97, .int .u8 92, .int .u8 110, .int .u8 34, .int .u8 122] 5 (5, 6))) fun e w' => EscRes (some ([97, 10], 4)) (w.alloc (.cells #[.int .u8 97, .int .u8 92, .int .u8 110, .int .u8 34, .int .u8 122] 5 (5, 6))) e w') := Lib.hid (pescape_c _ _ _ (A1.out w) (byt_lit (by decide)) (by decide) _ esc_awake)
  have A2 : Hid (∀ w : World, Rd (w.alloc (.cells #[.int .u8 97, .int .u8 10] 5 (2, 3))) .u8 (.slice (some ⟨w.heap.size, 0, none⟩) 2 2) [97, 10]) := Lib.hid (fun w => Rd.of_alloc w .u8 [97, 10] 5 _)
  have A3 : Hid (∀ w : World, Rd (w.alloc (.cells #[.int .u8 97, .int .u8 98] 5 (2, 3))) .u8 (.slice (some ⟨w.heap.size, 0, none⟩) 2 2) [97, 98]) := Lib.hid (fun w => Rd.of_alloc w .u8 [97, 98] 5 _)
  have A4 : Hid (∀ w : World, Rd (w.alloc (.cells #[.int .u8 97, .int .u8 98, .int .u8 99] 5 (3, 4))) .u8 (.slice (some ⟨w.heap.size, 0, none⟩) 3 3) [97, 98, 99]) := Lib.hid (fun w => Rd.of_alloc w .u8 [97, 98, 99] 5 _)
  have S1 := Lib.hid (fun u v w ha hb => same_yes u v [97, 10] w ha hb (byt_lit (by decide)))
  have C1 := Lib.hid (fun u v w ha hb => cmp_c u v [97, 98] [97, 98, 99] w ha hb (byt_lit (by decide)) (byt_lit (by decide)))
  have b0 : Below w.heap.size w (w.alloc (.cells #[.int .u8 97, .int .u8 92, .int .u8 110, .int .u8 34, .int .u8 122] 5 (5, 6))) := (Below.refl _ _).alloc (Nat.le_refl _) _
  go_enter Tryd.func6, Tryd.ntmps6
  go_wp2_with fail
  refine (E1.out).mono ?_
  rintro e w1 ⟨hb1, v1, rfl, hr1⟩
  obtain ⟨a1, d1, rfl⟩ := hr1.len
  have HR1 := Lib.hid hr1
  have hb2 := below_then b0 b0.size hb1
  clear hr1 hb1
  go_wp2_with fail
  refine (S1.out _ _ _ (HR1.out.below ((Below.refl _ w1).alloc (Nat.le_refl _) _)) (A2.out w1)).mono ?_
  rintro e w' ⟨rfl, rfl⟩
  have b3 : Below w1.heap.size w1 (w1.alloc (.cells #[.int .u8 97, .int .u8 10] 5 (2, 3))) := (Below.refl _ _).alloc (Nat.le_refl _) _
  obtain ⟨w2, hw2⟩ : ∃ w2, w1.alloc (.cells #[.int .u8 97, .int .u8 10] 5 (2, 3)) = w2 := ⟨_, rfl⟩
  rw [hw2] at b3 ⊢
  have hb4 := below_then hb2 hb2.size b3
  clear b3 hw2 HR1 E1 S1 A1 A2
  go_wp2_with fail
  have r4 := A4.out (w2.alloc (.cells #[.int .u8 97, .int .u8 98] 5 (2, 3)))
  rw [show (w2.alloc (.cells #[.int .u8 97, .int .u8 98] 5 (2, 3))).heap.size = w2.heap.size + 1 by simp] at r4
  have r3 := (A3.out w2).below ((Below.refl _ _).alloc (Nat.le_refl _) (.cells #[.int .u8 97, .int .u8 98, .int .u8 99] 5 (3, 4)))
  have CC := cmp_c _ _ _ _ _ r3 r4 (byt_lit (by decide)) (byt_lit (by decide))
  rw [show cmpB [97, 98] [97, 98, 99] = -1 from rfl] at CC
  have b4 : Below w2.heap.size w2 ((w2.alloc (.cells #[.int .u8 97, .int .u8 98] 5 (2, 3))).alloc (.cells #[.int .u8 97, .int .u8 98, .int .u8 99] 5 (3, 4))) := ((Below.refl _ _).alloc (Nat.le_refl _) _).alloc (by simp) _
  clear A3 A4 r3 r4
  refine CC.mono ?_
  clear CC
  rintro e w' ⟨rfl, rfl⟩
  go_wp2_with fail
  go_ret
  exact ⟨rfl, below_then hb4 hb4.size b4⟩
end Go.Proofs.YtocmgdolinajmaaDoor
