/- Texts KW, for this seat. -/
import Derived.Test.YtkifdppppihjcaaKA
namespace Go.Proofs.Ytkifdppppihjcaa
set_option linter.unusedVariables false
set_option linter.unusedSimpArgs false
open Go.RowKit Go.Shelf Go.ChangeShapes Go.WideShapes SF

theorem W_divV {a b : Nat} : W (divV a b) := by
  unfold divV divF
  repeat' split
  all_goals first
    | exact W_of (by decide)
    | exact W_sg (by decide)
    | exact W_sg (Nat.lt_of_le_of_lt (pat_le _ _ _) (by decide))
theorem W_subV {a b : Nat} (ha : W a) (hb : W b) : W (subV a b) := W_addV ha (W_negV hb)
theorem W_4609176140021203710 : W 4609176140021203710 := W_of (by decide)
theorem W_4604418534311723008 : W 4604418534311723008 := W_of (by decide)
theorem W_4461442080421002358 : W 4461442080421002358 := W_of (by decide)
theorem W_4603909380684499075 : W 4603909380684499075 := W_of (by decide)
theorem W_4609753056853098496 : W 4609753056853098496 := W_of (by decide)
theorem W_4490388670355865600 : W 4490388670355865600 := W_of (by decide)
theorem W_4364452196894661639 : W 4364452196894661639 := W_of (by decide)
theorem W_4604418534313441775 : W 4604418534313441775 := W_of (by decide)
theorem W_4609047870845172685 : W 4609047870845172685 := W_of (by decide)
theorem W_0 : W 0 := W_of (by decide)
theorem W_4607182418800017408 : W 4607182418800017408 := W_of (by decide)
theorem W_4609753056924675352 : W 4609753056924675352 := W_of (by decide)
theorem W_4614256656552045848 : W 4614256656552045848 := W_of (by decide)
theorem W_4612367379483415830 : W 4612367379483415830 := W_of (by decide)
theorem W_9218868437227405312 : W 9218868437227405312 := W_of (by decide)
theorem W_One : W SF.One := W_of (by decide)
theorem W_HalfPi : W HalfPi := W_of (by decide)
theorem W_upV {f : Int → Nat → Nat} {top : Int} {p : Nat} (hp : W p) (hf : ∀ i q, W q → W (f i q)) : ∀ j, W (upV f top p j)
  | 0 => hp
  | j + 1 => hf _ _ (W_upV hp hf j)
theorem W_expStep {r : Nat} {i : Int} {p : Nat} : W (expStep r i p) := W_addV W_One (W_mulV _ _)
theorem W_expP {r : Nat} : W (expP r) := W_upV W_One (fun _ _ _ => W_expStep) _
theorem W_expK {x : Nat} : W (expK x) := W_wholeV (W_mulV _ _)
theorem W_expR {x : Nat} (hx : W x) : W (expR x) := W_subV (W_subV hx (W_mulV _ _)) (W_mulV _ _)
theorem W_expV {x : Nat} : W (expV x) := by
  unfold expV
  split; exact W_of (by decide)
  split; exact W_of (by decide)
  split; exact W_of (by decide)
  exact W_scale W_expP
theorem W_rowStep {z : Nat} {last i : Int} {p : Nat} : W (rowStep z last i p) := W_subV W_One (W_mulV _ _)
theorem W_rowV {z : Nat} {last : Int} : W (rowV z last) := W_upV W_One (fun _ _ _ => W_rowStep) _
theorem W_qF {x : Nat} : W (qF x) := W_wholeV (W_mulV _ _)
theorem W_qR {x : Nat} (hx : W x) : W (qR x) := W_subV (W_subV (W_subV hx (W_mulV _ _)) (W_mulV _ _)) (W_mulV _ _)
theorem W_turnV {k : Int} {r : Nat} : W (turnV k r) := by
  unfold turnV
  repeat' split
  · exact W_mulV _ _
  · exact W_rowV
  · exact W_negV (W_mulV _ _)
  · exact W_negV W_rowV
theorem W_sinV {x : Nat} (hx : W x) : W (sinV x) := by
  unfold sinV
  repeat' split
  · exact hx
  · exact W_turnV
  · exact W_of (by decide)
theorem W_cosV {x : Nat} : W (cosV x) := by
  unfold cosV
  split
  · exact W_turnV
  · exact W_of (by decide)
theorem W_signedV {t x : Nat} (ht : W t) : W (signedV t x) := by
  unfold signedV
  split
  · exact W_negV ht
  · exact ht
theorem W_invV {v : Int} : W (invV v) := W_divV
theorem W_atStep {z : Nat} {i : Int} {p : Nat} : W (atStep z i p) := W_subV W_invV (W_mulV _ _)
theorem W_atP {z : Nat} : W (atP z) := W_upV W_invV (fun _ _ _ => W_atStep) _
theorem W_lnStep {z : Nat} {i : Int} {p : Nat} : W (lnStep z i p) := W_addV W_invV (W_mulV _ _)
theorem W_lnP {z : Nat} : W (lnP z) := W_upV W_invV (fun _ _ _ => W_lnStep) _
theorem W_atB {b : Nat} : W (atB b) := W_divV
theorem W_atT {b : Nat} : W (atT b) := W_mulV _ _
theorem W_atanV {x : Nat} (hx : W x) : W (atanV x) := by
  unfold atanV atanG atanS
  repeat' split
  · exact W_of (by decide)
  · exact hx
  · exact W_signedV W_HalfPi
  · exact W_signedV (W_subV W_HalfPi W_atT)
  · exact W_signedV W_atT
theorem W_asinV {x : Nat} : W (asinV x) := by
  unfold asinV asinF
  repeat' split
  · exact W_of (by decide)
  · exact W_of (by decide)
  · exact W_signedV W_HalfPi
  · exact W_atanV W_divV
theorem W_lnT {m : Nat} {k : Int} : W (lnT m k) := W_addV (W_mulV _ _) (W_mulV _ _)
theorem W_lnV {x : Nat} (hx : W x) : W (lnV x) := by
  unfold lnV lnF
  repeat' split
  all_goals first
    | exact W_of (by decide)
    | exact hx
    | exact W_lnT
theorem W_lnM {x : Nat} : W (lnM x) := by
  unfold lnM makeV; exact W_sg (Nat.lt_of_le_of_lt (pat_le _ _ _) (by decide))
theorem W_lnS {m : Nat} : W (lnS m) := W_divV
theorem W_Ln10 : W Ln10 := W_of (by decide)
theorem W_powF : ∀ (f : Nat) (n : Int) (r b : Nat), W r → W b → W (powF f n r b)
  | 0, _, _, _, wr, _ => wr
  | f + 1, n, r, b, wr, wb => by
    unfold powF
    split
    · refine W_powF f _ _ _ ?_ ?_
      · split; exact W_mulV _ _; exact wr
      · split; exact W_mulV _ _; exact wb
    · exact wr
theorem W_powN {x : Nat} {n : Int} (hx : W x) : W (powN x n) := W_powF _ _ _ _ W_One hx
/-- All of it in one. -/
theorem WQ : (∀ a b, W a → W b → W (addV a b)) ∧ (∀ a b, W a → W b → W (subV a b)) ∧ (∀ a b, W (mulV a b)) ∧ (∀ a b, W (divV a b)) ∧ (∀ a, W a → W (sqrtV a)) ∧ (∀ a, W a → W (negV a)) ∧ (∀ a, W a → W (absV a)) ∧ (∀ h a, W a → W (wholeV h a)) ∧ (∀ v, W (ofV v)) ∧ (∀ a n, W a → W (scaleV a n)) ∧ (W SF.One) ∧ (W HalfPi) ∧ (W Ln10) ∧ (W 4609176140021203710) ∧ (W 4604418534311723008) ∧ (W 4461442080421002358) ∧ (W 4603909380684499075) ∧ (W 4609753056853098496) ∧ (W 4490388670355865600) ∧ (W 4364452196894661639) ∧ (W 4604418534313441775) ∧ (W 4609047870845172685) ∧ (W 0) ∧ (W 4607182418800017408) ∧ (W 4609753056924675352) ∧ (W 4614256656552045848) ∧ (W 4612367379483415830) ∧ (W 9218868437227405312) ∧ (∀ a, W (expP a)) ∧ (∀ a, W (expK a)) ∧ (∀ a, W a → W (expR a)) ∧ (∀ a, W (expV a)) ∧ (∀ a, W (qF a)) ∧ (∀ a, W a → W (qR a)) ∧ (∀ a, W a → W (sinV a)) ∧ (∀ a, W (cosV a)) ∧ (∀ a, W (atP a)) ∧ (∀ a, W (lnP a)) ∧ (∀ a, W (atB a)) ∧ (∀ a, W (atT a)) ∧ (∀ a, W a → W (atanV a)) ∧ (∀ a, W (asinV a)) ∧ (∀ a, W a → W (lnV a)) ∧ (∀ a, W (lnM a)) ∧ (∀ a, W (lnS a)) ∧ (∀ z l, W (rowV z l)) ∧ (∀ v, W (invV v)) ∧ (∀ t x, W t → W (signedV t x)) ∧ (∀ x n, W x → W (powN x n)) :=
  ⟨fun _ _ => W_addV, fun _ _ => W_subV, W_mulV, fun _ _ => W_divV, fun _ => W_sqrtV, fun _ => W_negV, fun _ => W_absV, fun _ _ => W_wholeV, W_ofV, fun _ _ => W_scale, W_One, W_HalfPi, W_Ln10, W_4609176140021203710, W_4604418534311723008, W_4461442080421002358, W_4603909380684499075, W_4609753056853098496, W_4490388670355865600, W_4364452196894661639, W_4604418534313441775, W_4609047870845172685, W_0, W_4607182418800017408, W_4609753056924675352, W_4614256656552045848, W_4612367379483415830, W_9218868437227405312, fun _ => W_expP, fun _ => W_expK, fun _ => W_expR, fun _ => W_expV, fun _ => W_qF, fun _ => W_qR, fun _ => W_sinV, fun _ => W_cosV, fun _ => W_atP, fun _ => W_lnP, fun _ => W_atB, fun _ => W_atT, fun _ => W_atanV, fun _ => W_asinV, fun _ => W_lnV, fun _ => W_lnM, fun _ => W_lnS, fun _ _ => W_rowV, fun _ => W_invV, fun _ _ => W_signedV, fun _ _ => W_powN⟩
