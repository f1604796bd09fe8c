/- IndexByte; what Substitute says. -/
import Derived.Test.YtocmgdolinajmaaDoorV
namespace Go.Proofs.YtocmgdolinajmaaDoor
set_option linter.unusedVariables false
set_option linter.unusedSimpArgs false
open Go.RowKit

def idxB : List Int → Int → Int
  | [], _ => -1
  | x :: l, c => if x = c then 0 else if idxB l c = -1 then -1 else idxB l c + 1
theorem byte_eq {x y : Int} (hx : 0 ≤ x ∧ x < 256) (hy : 0 ≤ y ∧ y < 256) : (UInt8.ofNat x.toNat == UInt8.ofNat y.toNat) = decide (x = y) := by
  by_cases h : x = y
  · subst h; simp
  · rw [decide_eq_false h, beq_eq_false_iff_ne]
    intro e
    apply h
    have e2 : (UInt8.ofNat x.toNat).toNat = (UInt8.ofNat y.toNat).toNat := by rw [e]
    simp only [UInt8.toNat_ofNat'] at e2
    omega
theorem idxB_bytes : ∀ (l : List Int) (c : Int), Byt l → 0 ≤ c ∧ c < 256 → Lib.indexByte (Lib.bytesOf l) c.toNat.toUInt8 = idxB l c
  | [], _, _, _ => rfl
  | x :: l, c, hb, hc => by
    have ih := idxB_bytes l c (fun z hz => hb z (by simp [hz])) hc
    show (if (UInt8.ofNat x.toNat == UInt8.ofNat c.toNat) = true then (0 : Int) else if (Lib.indexByte (Lib.bytesOf l) c.toNat.toUInt8 == -1) = true then -1 else Lib.indexByte (Lib.bytesOf l) c.toNat.toUInt8 + 1) = _
    rw [byte_eq (hb x (by simp)) hc, ih]
    show _ = (if x = c then (0 : Int) else if idxB l c = -1 then -1 else idxB l c + 1)
    simp
theorem idx_cases (c : Int) : ∀ l : List Int, (idxB l c = -1 ∧ ∀ x ∈ l, x ≠ c) ∨ ∃ i : Nat, idxB l c = i ∧ i < l.length ∧ l.drop i = c :: l.drop (i + 1) ∧ ∀ x ∈ l.take i, x ≠ c
  | [] => .inl ⟨rfl, fun x hx => by simp at hx⟩
  | x :: l => by
    by_cases h : x = c
    · subst h
      exact .inr ⟨0, by simp [idxB], by simp, by simp, fun x hx => by simp at hx⟩
    · rcases idx_cases c l with ⟨h1, h2⟩ | ⟨i, h1, h2, h3, h4⟩
      · refine .inl ⟨by simp [idxB, h, h1], fun y hy => ?_⟩
        rcases List.mem_cons.1 hy with rfl | hy
        · exact h
        · exact h2 y hy
      · refine .inr ⟨i + 1, ?_, by simp; omega, by simpa using h3, fun y hy => ?_⟩
        · have : ¬ (i : Int) = -1 := by omega
          simp [idxB, h, h1, this]
        · rw [List.take_succ_cons] at hy
          rcases List.mem_cons.1 hy with rfl | hy
          · exact h
          · exact h4 y hy
theorem aidx_run {w : World} {u : Value} {a : List Int} (ha : Rd w .u8 u a) (ba : Byt a) (c : Int) (hc : 0 ≤ c ∧ c < 256) : (callFunc 43 #[u, .int .u8 c]).run Tryd.prog w = .ok (.value (.int .i64 (idxB a c))) w := by
  rw [run_callFunc_extern Tryd.func43 (by kernel_rfl) (by kernel_rfl) (by kernel_rfl) (e := Extern.BytealgIndexByte.indexByte) (by kernel_rfl)]
  have e : (Extern.BytealgIndexByte.indexByte #[u, .int .u8 c]).run Tryd.prog w = .ok (.int .i64 (idxB a c)) w := by
    rw [← idxB_bytes a c ba hc]
    obtain ⟨ad, cap, rfl, hcap, hr⟩ := ha
    rcases hr with rfl | ⟨g, off, rfl, hcl⟩
    · cases ad with
      | none => exact Lib.run_indexByteNil _ _ _ _
      | some ad =>
        obtain ⟨b, o, sp⟩ := ad
        cases sp with
        | none => exact Lib.run_indexByteSlice w b o 0 cap [] rfl (fun i hi => by omega) c
        | some sp => rfl
    · exact Lib.run_indexByteSlice w g off a.length cap a rfl hcl c
  rw [e]
  rfl
theorem bidx_c (u : Value) (a : List Int) (w : World) (ha : Rd w .u8 u a) (ba : Byt a) (c : Int) (hc : 0 ≤ c ∧ c < 256) : Calls Tryd.prog 29 #[u, .int .u8 c] w fun e w' => e = .returned (.int .i64 (idxB a c)) ∧ w = w' := by
  have E := aidx_run ha ba c hc
  obtain ⟨ua, uc, rfl⟩ := ha.len
  clear ha
  go_enter Tryd.func29, Tryd.ntmps29
  go_wp2
  go_ret
  exact ⟨rfl, rfl⟩
end Go.Proofs.YtocmgdolinajmaaDoor
