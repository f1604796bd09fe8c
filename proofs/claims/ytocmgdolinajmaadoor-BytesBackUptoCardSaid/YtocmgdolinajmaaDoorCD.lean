/- Percent signs doubled: the plain words; how many there are. -/
import Derived.Test.YtocmgdolinajmaaDoorCB
import Derived.Shelf.Bytes.SlCountOne
namespace Go.Proofs.YtocmgdolinajmaaDoor
set_option linter.unusedVariables false
set_option linter.unusedSimpArgs false
open Go.RowKit

/-- How many percent signs. -/
def cnt : List Int → Nat
  | [] => 0
  | x :: l => if x = 37 then cnt l + 1 else cnt l
/-- Each percent sign twice. -/
def dbl : List Int → List Int
  | [] => []
  | x :: l => if x = 37 then 37 :: 37 :: dbl l else x :: dbl l
theorem cnt_cons (x : Int) (l : List Int) : cnt (x :: l) = if x = 37 then cnt l + 1 else cnt l := rfl
theorem dbl_len : ∀ l, (dbl l).length = l.length + cnt l
  | [] => rfl
  | x :: l => by
    have := dbl_len l
    unfold dbl cnt
    split <;> simp only [List.length_cons] <;> omega
theorem cnt_le : ∀ l, cnt l ≤ l.length
  | [] => Nat.le_refl _
  | x :: l => by
    have := cnt_le l
    unfold cnt
    split <;> simp only [List.length_cons] <;> omega
theorem dbl_none : ∀ l, cnt l = 0 → dbl l = l
  | [], _ => rfl
  | x :: l, h => by
    unfold cnt at h
    split at h
    · omega
    · rename_i hx
      unfold dbl
      rw [if_neg hx, dbl_none l h]
theorem byt_dbl {l : List Int} (h : Byt l) : Byt (dbl l) := by
  induction l with
  | nil => intro x hx; cases hx
  | cons y l ih =>
    have ih := ih (fun z hz => h z (by simp [hz]))
    intro x hx
    unfold dbl at hx
    split at hx
    · rcases List.mem_cons.1 hx with rfl | hx
      · omega
      · rcases List.mem_cons.1 hx with rfl | hx
        · omega
        · exact ih x hx
    · rcases List.mem_cons.1 hx with rfl | hx
      · exact h x (by simp)
      · exact ih x hx
/-- Up to the next percent sign. -/
theorem next_pct : ∀ l, 0 < cnt l → ∃ pre rest, l = pre ++ 37 :: rest ∧ idxI l [37] = (pre.length : Int) ∧ cnt rest + 1 = cnt l ∧ dbl l = pre ++ 37 :: 37 :: dbl rest
  | [], h => by cases h
  | x :: l, h => by
    by_cases hx : x = 37
    · subst hx
      refine ⟨[], l, rfl, by simp [idxI], by simp [cnt], by simp [dbl]⟩
    · have hl : 0 < cnt l := by unfold cnt at h; rwa [if_neg hx] at h
      obtain ⟨pre, rest, rfl, h2, h3, h4⟩ := next_pct l hl
      refine ⟨x :: pre, rest, rfl, ?_, by rw [cnt, if_neg hx]; exact h3, by rw [dbl, if_neg hx, h4]; rfl⟩
      have e : ([37] : List Int).isPrefixOf (x :: (pre ++ 37 :: rest)) = false := by
        simp [List.isPrefixOf]
        omega
      rw [idxI, e, h2]
      have : ((pre.length : Int) == -1) = false := by first | (simp; done) | (simp; omega)
      rw [this]
      simp
theorem count_bytes : ∀ l, Byt l → Lib.countByte (Lib.bytesOf l) 37 = cnt l
  | [], _ => rfl
  | x :: l, h => by
    have ih := count_bytes l (fun z hz => h z (by simp [hz]))
    have hx := h x (by simp)
    have e : (UInt8.ofNat x.toNat == 37) = (x == 37) := byte_inj (y := 37) hx (by omega)
    show Lib.countByte (UInt8.ofNat x.toNat :: Lib.bytesOf l) 37 = _
    unfold Lib.countByte at ih ⊢
    rw [List.count_cons, e, ih, cnt_cons]
    by_cases hq : x = 37 <;> simp [hq]
theorem acount_run {w : World} {u : Value} {a : List Int} (ha : Rd w .u8 u a) (ba : Byt a) : (callFunc 52 #[u, .int .u8 37]).run Tryd.prog w = .ok (.value (.int .i64 (cnt a))) w := by
  rw [run_callFunc_extern Tryd.func52 (by kernel_rfl) (by kernel_rfl) (by kernel_rfl) (e := Extern.BytealgCount.count) (by kernel_rfl)]
  have h1 := bytes_run ha
  have hs := Lib.run_countString (P := Tryd.prog) ⟨(Lib.bytesOf a).toArray⟩ 37 w
  have e : (Extern.BytealgCount.count #[u, .int .u8 37]).run Tryd.prog w = .ok (.int .i64 (cnt a)) w := by
    change Sem.run Tryd.prog (do
      let b ← Extern.Bytes.bytesOf u
      let c' ← Extern.Bytes.asByte (.int .u8 37)
      pure (goInt (b.foldl (fun n x => if x == c' then n + 1 else n) (0 : Nat)))) w = _
    change Sem.run Tryd.prog (do
      let b ← Extern.Bytes.bytesOf (.string ⟨(Lib.bytesOf a).toArray⟩)
      let c' ← Extern.Bytes.asByte (.int .u8 37)
      pure (goInt (b.foldl (fun n x => if x == c' then n + 1 else n) (0 : Nat)))) w = _ at hs
    have h2 : (Extern.Bytes.bytesOf (.string ⟨(Lib.bytesOf a).toArray⟩)).run Tryd.prog w = .ok ⟨(Lib.bytesOf a).toArray⟩ w := rfl
    simp only [Sem.run_bind, h1, h2, Sem.run_pure, Result.andThen] at hs ⊢
    rw [hs, ← count_bytes a ba]
    rfl
  rw [e]
  rfl
theorem bcount_c (u : Value) (a : List Int) (o d : Nat) (w : World) (ha : Rd w .u8 u a) (ba : Byt a) (co : w.cell? ⟨o, 0, none⟩ = some (.int .u8 37)) : Calls Tryd.prog 45 #[u, .slice (some ⟨o, 0, none⟩) 1 d] w fun e w' => e = .returned (.int .i64 (cnt a)) ∧ w = w' := by
  have E := acount_run ha ba
  obtain ⟨ua, uc, rfl⟩ := ha.len
  clear ha
  go_enter Tryd.func45, Tryd.ntmps45
  go_wp2
  go_ret
  exact ⟨rfl, rfl⟩
end Go.Proofs.YtocmgdolinajmaaDoor
