/-
  BytesSubstitute: for every input the law returns true and leaves its arguments as they were; no condition beyond the given row's own.
-/
import Derived.Test.YtocmgdolinajmaaND
import Derived.Test.YtocmgdolinajmaaRows
import Derived.WalkKit
import Derived.Below
import Derived.ProofKit
import Derived.OpenShut
import Derived.Carry
import Derived.ChangeMaps5
import Derived.ShutString
import Derived.JoinedCond
namespace Go.Proofs.Ytocmgdolinajmaa.bytesSubstitute
open Go.ChangeShapes Go.WideShapes Go.ChangeAt Go.RowKit
set_option linter.unusedVariables false
theorem own : ownKnob Try.prog.godebug = none := by kernel_rfl
theorem laidOut : laidOutB Try.prog = true := by kernel_rfl
theorem walk (w : World) (v0 : Value) (l0 : List Int) (r0 : Rd w .u8 v0 l0) (w0 : ∀ x ∈ l0, (Lit.int .u8 x).wf = true) (m0 : l0.length ≤ maxLen) (a1 : Int) (w1 : (Lit.int .i64 a1).wf = true) (v2 : Value) (l2 : List (List Int × List Int)) (r2 : Pm w v2 l2) (w2 : ∀ x ∈ l2, Byt x.1 ∧ Byt x.2) (m2 : tot l2 ≤ 1048576) :
    Calls Try.prog 6 #[v0, .int .i64 a1, v2] w fun e w' => e = .returned (.bool true) ∧ Below w.heap.size w w' := by
    exact lsub_walk v0 v2 l0 l2 a1 w r0 r2 (byt_wf w0) w2 m2 (wf_cell w1)
set_option maxRecDepth 100000 in
theorem lifted (os : Os) (started : os.Started) (H : Type) (enc : TypeId × Value → H) (F : Stop.Interp) :
    ReturnsInHanded {} Try.checked os 6 .any ((Rows.OpenSpec.upto Rows.bytesSubstituteSpec).pre6 enc Try.prog Try.f6 Rows.bytesSubstituteUptoRow.domain false) (((Rows.OpenSpec.upto Rows.bytesSubstituteSpec).at F).post enc Try.prog Try.f6 false true false false) := by
  refine returnsInHanded_of_cond (C := Try.checked) (s := Rows.OpenSpec.upto Rows.bytesSubstituteSpec) (k := Rows.uptoSmall) rfl own started (by kernel_rfl) Try.func6
    (OpenSpec.witness (enc := enc) (C := Try.checked) (s := Rows.OpenSpec.upto Rows.bytesSubstituteSpec) (k := Rows.uptoSmall) rfl false ⟨#[], #[.slice none 0 0, .int .i64 0, .slice none 0 0], []⟩ 8 (by kernel_rfl) (by kernel_rfl) (by kernel_rfl)
      (x := ([.nil, .lit (.int .i64 0), .nil], [], [])) (by kernel_rfl) rfl (by kernel_rfl)) ?_
  intro W base args ds gs before hval0 hW hcnd hk _
  have hval : ∀ (j : Nat) t v, Try.f6.params[j]? = some t → args[j]? = some v → Value.okWide Try.prog W .any base t v := hval0
  have hW' := hW
  obtain ⟨p, q, hA0, hV, rfl, hfz, hnd⟩ := hW
  have hA : DataW.TrodAll enc Try.prog W 0 (fun _ => true) true Try.f6.params.toList args.toList ds p := hA0
  rw [Try.params6] at hA hval
  obtain ⟨v0, vs0, d0, ds0, p0, q0, hargs, rfl, rfl, h0, r0'⟩ := trodAll_cons hA
  obtain ⟨v1, vs1, d1, ds1, p1, q1, rfl, rfl, rfl, h1, r1'⟩ := trodAll_cons r0'
  obtain ⟨v2, vs2, d2, ds2, p2, q2, rfl, rfl, rfl, h2, r2'⟩ := trodAll_cons r1'
  obtain ⟨rfl, rfl, rfl⟩ := trodAll_nil r2'
  obtain rfl : args = #[v0, v1, v2] := by cases args; simp_all
  obtain ⟨rfl, rfl⟩ := trodVars_none hV
  have hlt : ∀ x ∈ p0 ++ p1 ++ p2, x.block < W.heap.size := fun x hx => by simpa using hW'.lt x (by simpa using hx)
  obtain ⟨l0, r0, w0, m0⟩ := rd_arg Try.underlying22 Try.underlying5 (by kernel_rfl) (okWide_slice Try.underlying22 (hval 0 22 v0 rfl rfl)) h0
  obtain ⟨a1, rfl, rfl, rfl, w1⟩ := open_int Try.underlying3 (hval 1 3 v1 rfl rfl) h1
  obtain ⟨l2, r2, w2, m2'⟩ := prs_arg Try.underlying31 Try.underlying47 ⟨rfl, rfl⟩ ⟨by kernel_rfl, by kernel_rfl⟩ Try.underlying22 Try.underlying22 Try.underlying5 (by kernel_rfl) (by kernel_rfl) (okWide_slice Try.underlying31 (hval 2 31 v2 rfl rfl)) h2
  have m2 : tot l2 ≤ 1048576 := Nat.le_trans (Nat.le_trans m2' (bulk_mem (by simp))) (of_decide_eq_true hk)
  clear hA0 hval0
  simp only [List.append_nil] at hW'
  refine (walk W _ l0 r0 w0 m0 a1 w1 _ l2 r2 w2 m2).mono fun e W' ⟨he, hg⟩ => ?_
  subst he
  exact ⟨_, rfl, _, _, _, [], _, [], hW', (trodAll_cons_mk (shut_bool Try.underlying4 _) trodAll_mk0), (trodAll_cons_mk (Below.trod laidOut (by kernel_rfl) (of_decide_eq_true (by kernel_rfl)) h0 hg (fun x hx => hlt x (by simp [hx]))) (trodAll_cons_mk (shut_int Try.underlying3 w1) (trodAll_cons_mk (Below.trod laidOut (by kernel_rfl) (of_decide_eq_true (by kernel_rfl)) h2 hg (fun x hx => hlt x (by simp [hx]))) trodAll_mk0))), rfl, hg.frame _, fun h => by cases h⟩
theorem over : Rows.bytesSubstituteUptoRow.holds Try.pinned (Rows.OpenSpec.upto Rows.bytesSubstituteSpec) :=
  OpenClaim.holds_of_cond 6 Try.f6 rfl rfl rfl rfl rfl rfl rfl ⟨rfl, rfl, rfl, rfl, rfl⟩ rfl rfl rfl rfl rfl (by kernel_rfl) Try.func6 (by kernel_rfl)
    (of_decide_eq_true (by kernel_rfl)) (by unfold Func.isWrapper; first | (rw [if_pos (by decide +kernel)]; kernel_rfl) | (rw [if_neg (by decide +kernel)]; exact ⟨rfl, rfl⟩))
    (fun os started H enc _ F => lifted os started H enc F)
end Go.Proofs.Ytocmgdolinajmaa.bytesSubstitute
namespace Go.Proofs.Ytocmgdolinajmaa
theorem bytesSubstitute_holds : Rows.BytesSubstituteUptoSaid := bytesSubstitute.over
#print axioms bytesSubstitute_holds
end Go.Proofs.Ytocmgdolinajmaa
