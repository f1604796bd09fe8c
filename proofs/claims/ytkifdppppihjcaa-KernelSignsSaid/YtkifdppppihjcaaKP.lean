/- Texts KP, for this seat. -/
import Derived.Test.YtkifdppppihjcaaW
namespace Go.Proofs.Ytkifdppppihjcaa.SF
set_option linter.unusedVariables false
set_option linter.unusedSimpArgs false

def ofV (v : Int) : Nat := fromV v (if v < 0 then -1 else 0)
def belowV (a b : Nat) : Bool := okV a b && decide (cmpV a b < 0)
def signedV (a x : Nat) : Nat := if ng x then negV a else a
def invV (v : Int) : Nat := divV One (ofV v)
def HalfPi : Nat := 4609753056924675352
def Ln10 : Nat := 4612367379483415830
def Root2 : Nat := 4609047870845172685
/-- A sum from the top down: after j steps. -/
def upV (f : Int → Nat → Nat) (top : Int) (p : Nat) : Nat → Nat
  | 0 => p
  | j + 1 => f (top - j) (upV f top p j)
theorem upV_next (f : Int → Nat → Nat) (top : Int) (p : Nat) {k : Int} (h : k ≤ top) : upV f top p (top - (k - 1)).toNat = f k (upV f top p (top - k).toNat) := by
  obtain ⟨j, hj⟩ : ∃ j : Nat, top - k = j := ⟨(top - k).toNat, by omega⟩
  rw [show (top - (k - 1)).toNat = j + 1 by omega, show (top - k).toNat = j by omega]
  show f (top - (j : Int)) _ = _
  rw [show top - (j : Int) = k by omega]
-- the exponential
def expK (x : Nat) : Nat := wholeV 2 (mulV x 4609176140021203710)
def expR (x : Nat) : Nat := subV (subV x (mulV (expK x) 4604418534311723008)) (mulV (expK x) 4461442080421002358)
def expStep (r : Nat) (i : Int) (p : Nat) : Nat := addV One (mulV (divV r (ofV i)) p)
def expP (r : Nat) : Nat := upV (expStep r) 13 One 13
def expF (x : Nat) : Nat := scaleV (expP (expR x)) (toLo (expK x))
def expV (x : Nat) : Nat := if nan x then NaN else if belowV (ofV 710) x then Inf else if belowV x (ofV (-746)) then 0 else expF x
-- circles
def qF (x : Nat) : Nat := wholeV 2 (mulV x 4603909380684499075)
def qR (x : Nat) : Nat := subV (subV (subV x (mulV (qF x) 4609753056853098496)) (mulV (qF x) 4490388670355865600)) (mulV (qF x) 4364452196894661639)
def qK (x : Nat) : Int := toLo (qF x) % 4
def qOk (x : Nat) : Bool := !(nan x || inf x || belowV (ofV 1073741824) (absV x))
def rowStep (z : Nat) (last : Int) (i : Int) (p : Nat) : Nat := subV One (mulV (divV z (ofV (2 * i * (2 * i + last)))) p)
def rowV (z : Nat) (last : Int) : Nat := upV (rowStep z last) 8 One 8
def sineV (r : Nat) : Nat := mulV r (rowV (mulV r r) 1)
def cosineV (r : Nat) : Nat := rowV (mulV r r) (-1)
def turnV (k : Int) (r : Nat) : Nat := if k % 4 = 0 then sineV r else if k % 4 = 1 then cosineV r else if k % 4 = 2 then negV (sineV r) else negV (cosineV r)
def sinV (x : Nat) : Nat := if zer x then x else if qOk x then turnV (qK x) (qR x) else NaN
def cosV (x : Nat) : Nat := if qOk x then turnV (qK x + 1) (qR x) else NaN
def atB (b : Nat) : Nat := divV b (addV One (sqrtV (addV One (mulV b b))))
def atStep (z : Nat) (i : Int) (p : Nat) : Nat := subV (invV (2 * i + 1)) (mulV z p)
def atP (z : Nat) : Nat := upV (atStep z) 10 (invV 23) 11
def atT (b : Nat) : Nat := mulV (ofV 4) (mulV b (atP (mulV b b)))
def atanG (x : Nat) : Nat := signedV (subV HalfPi (atT (atB (atB (divV One (absV x)))))) x
def atanS (x : Nat) : Nat := signedV (atT (atB (atB (absV x)))) x
def atanV (x : Nat) : Nat := if nan x then NaN else if zer x then x else if inf x then signedV HalfPi x else if belowV One (absV x) then atanG x else atanS x
def asinF (x : Nat) : Nat := atanV (divV x (sqrtV (mulV (subV One x) (addV One x))))
def asinV (x : Nat) : Nat := if nan x then NaN else if belowV One (absV x) then NaN else if absV x = One then signedV HalfPi x else asinF x
def lnM (x : Nat) : Nat := makeV false (sm x) (1 - (bl (sm x) : Int))
def lnK (x : Nat) : Int := se x + (bl (sm x) : Int) - 1
def lnStep (z : Nat) (i : Int) (p : Nat) : Nat := addV (invV (2 * i + 1)) (mulV z p)
def lnP (z : Nat) : Nat := upV (lnStep z) 9 (invV 21) 10
def lnS (m : Nat) : Nat := divV (subV m One) (addV m One)
def lnT (m : Nat) (k : Int) : Nat := addV (mulV (ofV k) 4604418534313441775) (mulV (mulV (ofV 2) (lnS m)) (lnP (mulV (lnS m) (lnS m))))
def lnF (x : Nat) : Nat := if belowV Root2 (lnM x) then lnT (divV (lnM x) (ofV 2)) (lnK x + 1) else lnT (lnM x) (lnK x)
def lnV (x : Nat) : Nat := if nan x then NaN else if belowV x 0 then NaN else if zer x then negV Inf else if inf x then x else lnF x
-- hyperbolas and the rest
def coshV (x : Nat) : Nat := divV (addV (expV x) (expV (negV x))) (ofV 2)
def asinhF (x : Nat) : Nat := signedV (lnV (addV (absV x) (sqrtV (addV (mulV (absV x) (absV x)) One)))) x
def asinhV (x : Nat) : Nat := if zer x then negV (negV x) else if nan x then negV (negV x) else asinhF x
def powF : Nat → Int → Nat → Nat → Nat
  | 0, _, r, _ => r
  | f + 1, n, r, b => if 0 < n then powF f (n / 2) (if n % 2 = 1 then mulV r b else r) (if 0 < n / 2 then mulV b b else b) else r
def powN (x : Nat) (n : Int) : Nat := powF 20 n One x
def powR (x y : Nat) : Nat := if belowV 0 x then expV (mulV y (lnV x)) else if zer x then (if belowV 0 y then 0 else Inf) else NaN
def powOk (y : Nat) : Bool := okV (wholeV 0 y) y && decide (cmpV (wholeV 0 y) y = 0)
def powV (x y : Nat) : Nat := if zer y then One else if nan x then NaN else if nan y then NaN
  else if powOk y then (if belowV (ofV 1024) (absV y) then powR x y else if belowV y 0 then divV One (powN x (toLo (absV y))) else powN x (toLo (absV y))) else powR x y
