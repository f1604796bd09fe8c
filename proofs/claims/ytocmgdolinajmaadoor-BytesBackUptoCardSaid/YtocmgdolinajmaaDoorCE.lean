/- bytes.Replace of a percent sign by two. -/
import Derived.Test.YtocmgdolinajmaaDoorCD
import Derived.Test.YtocmgdolinajmaaDoorCC
import Derived.Laws.CopyOwn
import Derived.Deep.RegionLaw
import Derived.OwnWalk
namespace Go.Proofs.YtocmgdolinajmaaDoor
set_option linter.unusedVariables false
set_option linter.unusedSimpArgs false
open Go.RowKit

/-- The new row, written so far. -/
def TR (w : World) (g T : Nat) (D : List Int) : Prop := ∃ Z : List Value, w.heap[g]? = some (.cells (D.map (Value.int .u8) ++ Z).toArray 5 (0, 0)) ∧ D.length + Z.length = T
theorem size_byte : (Tryd.prog.info? 5).map (·.size) = some 1 := by kernel_rfl
theorem splice_more (D cs : List Int) (Z : List Value) : splice (D.map (Value.int .u8) ++ Z) D.length (cs.map (Value.int .u8)) = (D ++ cs).map (Value.int .u8) ++ Z.drop cs.length := by
  unfold splice
  have e1 : List.take D.length (D.map (Value.int .u8) ++ Z) = D.map (Value.int .u8) := by
    simp
  have e2 : List.drop (D.length + (cs.map (Value.int .u8)).length) (D.map (Value.int .u8) ++ Z) = Z.drop cs.length := by
    rw [List.drop_append]
    simp
  rw [e1, e2, List.map_append, List.append_assoc]
theorem step_cp {ops : Array Oper} {o : Oper} {a : Act} {w : World} {K : Act → World → Prop} {Q : Exit → Act → World → Prop} {E : Prop} (hgd : o.guard = none) (d s : Operand)
    (ho : o.op = .call { callee := .builtin .copy, args := #[d, s], argTypes := #[22, 22] }) (dp sp : Option Addr) (dLen dCap sLen sCap : Nat) (hd : a.eval d = .slice dp dLen dCap) (hs : a.eval s = .slice sp sLen sCap)
    (g wv T : Nat) (D cs : List Int) (hT : TR w g T D) (hDl : D.length = wv) (hcl : cs.length = sLen) (hle : sLen ≤ dLen) (hfit : wv + sLen ≤ T) (hdp : 0 < sLen → dp = some ⟨g, wv, none⟩) (hsp : 0 < sLen → ∃ ad, sp = some ad ∧ ∀ j v, (cs.map (Value.int .u8))[j]? = some v → w.cell? (ad.add j) = some v)
    (B : Nat) (w0 : World) (hb : Below B w0 w) (hBg : B ≤ g) (h : ∀ w', TR w' g T (D ++ cs) → Below B w0 w' → K (a.put o.dst (goInt sLen)) w') :
    if Region.wanted o (yielded ops a.tmps) = true then Oper.wp Tryd.prog o a w K Q else E := by
  obtain ⟨Z, h1, h2⟩ := hT
  subst hDl hcl
  refine step_copy_splice hgd d s 22 22 ho 5 Tryd.underlying22 size_byte dp sp dLen dCap cs.length sCap hd hs g D.length _ 5 h1 (cs.map (Value.int .u8)) (by rw [List.length_map]; show _ = min _ _; omega) (fun hp => ?_) (by simp; omega) (by intro v hv; simp at hv; obtain ⟨x, _, rfl⟩ := hv; rfl) B w0 hb hBg ?_
  · rw [List.length_map] at hp
    exact ⟨hdp hp, hsp hp⟩
  · intro w' hh hb'
    have := hh.out
    rw [splice_more] at this
    rw [List.length_map]
    exact h w' ⟨_, this, by simp; omega⟩ hb'
theorem wp_cp {ops : Array Oper} {rest : List Oper} {o : Oper} {a : Act} {w : World} {Q : Exit → Act → World → Prop} (hgd : o.guard = none) (d s : Operand)
    (ho : o.op = .call { callee := .builtin .copy, args := #[d, s], argTypes := #[22, 22] }) (dp sp : Option Addr) (dLen dCap sLen sCap : Nat) (hd : a.eval d = .slice dp dLen dCap) (hs : a.eval s = .slice sp sLen sCap)
    (g wv T : Nat) (D cs : List Int) (hT : TR w g T D) (hDl : D.length = wv) (hcl : cs.length = sLen) (hle : sLen ≤ dLen) (hfit : wv + sLen ≤ T) (hdp : 0 < sLen → dp = some ⟨g, wv, none⟩) (hsp : 0 < sLen → ∃ ad, sp = some ad ∧ ∀ j v, (cs.map (Value.int .u8))[j]? = some v → w.cell? (ad.add j) = some v)
    (B : Nat) (w0 : World) (hb : Below B w0 w) (hBg : B ≤ g) (h : ∀ w', TR w' g T (D ++ cs) → Below B w0 w' → wpList Tryd.prog ops Q rest (a.put o.dst (goInt sLen)) w') :
    wpList Tryd.prog ops Q (o :: rest) a w := by
  obtain ⟨Z, h1, h2⟩ := hT
  subst hDl hcl
  refine wpList_copy_splice hgd d s 22 22 ho 5 Tryd.underlying22 size_byte dp sp dLen dCap cs.length sCap hd hs g D.length _ 5 h1 (cs.map (Value.int .u8)) (by rw [List.length_map]; show _ = min _ _; omega) (fun hp => ?_) (by simp; omega) (by intro v hv; simp at hv; obtain ⟨x, _, rfl⟩ := hv; rfl) B w0 hb hBg ?_
  · rw [List.length_map] at hp
    exact ⟨hdp hp, hsp hp⟩
  · intro w' hh hb'
    have := hh.out
    rw [splice_more] at this
    rw [List.length_map]
    exact h w' ⟨_, this, by simp; omega⟩ hb'
/-- Nothing to replace. -/
theorem prepl_0 (u : Value) (l : List Int) (w : World) (hu : Rd w .u8 u l) (bl : Byt l) (hl : l.length ≤ 400) (o q d1 d2 : Nat) (co : w.cell? ⟨o, 0, none⟩ = some (.int .u8 37)) (h0 : cnt l = 0) :
    Calls Tryd.prog 33 #[u, .slice (some ⟨o, 0, none⟩) 1 d1, .slice (some ⟨q, 0, none⟩) 2 d2, .int .i64 (-1)] w fun e w' => ∃ v, e = .returned v ∧ w'.ownsRow w.heap.size 5 1 v (dbl l).length ((dbl l).map (Value.int .u8)) ∧ Below w.heap.size w w' := by
  have C := bcount_c u l o d1 w hu bl co
  rw [h0] at C
  have CO : Hid (Calls Tryd.prog 45 #[u, .slice (some ⟨o, 0, none⟩) 1 d1] w fun e w' => e = .returned (.int .i64 0) ∧ w = w') := Lib.hid C
  have HU := Lib.hid hu
  have HZ : Hid (dbl l = l) := Lib.hid (dbl_none l h0)
  have HLL : Hid (0 + l.length < 1000000000000) := Lib.hid (by omega)
  obtain ⟨a, c, rfl, _⟩ := hu
  obtain ⟨L, hL⟩ : ∃ L, l.length = L := ⟨_, rfl⟩
  have HL := Lib.hid hL
  rw [hL] at HU CO HLL ⊢
  clear hL h0 C
  go_enter Tryd.func33, Tryd.ntmps33
  go_wp2_with (first
    | (go_at_call 45; (with_reducible refine (CO.out).mono ?_); rintro e w' ⟨rfl, rfl⟩)
    | (at_builtin; go_loud (refine wp_apps 22 5 (.int .u8 0) 1 Tryd.underlying22 info_byte rfl w.heap.size (.slice none 0 0) 0 [] rfl (.const (.slice none 0 0)) (.tmp 24) (by rfl) (by rfl) (World.ownsRow_nil _ _ _ _) (Nat.le_refl _) .u8 _ l (by rfl) HU.out (by rw [HL.out]; exact HLL.out) (by decide) ?_); intro v4 w4 hown4 hg4 _; have X4 := Lib.hid (And.intro hown4 ((Below.refl _ w).grown hg4 (Nat.le_refl _) (fun k hk => by cases hk))); clear hown4 hg4; obtain ⟨a4, c4, rfl⟩ := ownsRow_slice X4.out.1))
  go_ret
  refine ⟨_, rfl, ?_, X4.out.2⟩
  have := X4.out.1
  rw [HZ.out]
  simpa using this
end Go.Proofs.YtocmgdolinajmaaDoor
