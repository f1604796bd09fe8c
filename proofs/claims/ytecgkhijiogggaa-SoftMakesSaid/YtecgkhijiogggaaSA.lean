/- Words of a number, sums by cases, making: plainly. -/
import Derived.Test.YtecgkhijiogggaaS9
namespace Go.Proofs.Ytecgkhijiogggaa.SF
set_option linter.unusedVariables false
set_option linter.unusedSimpArgs false
/-- The number that words make, the lowest first. -/
def wv : List Int → Nat
  | [] => 0
  | x :: l => x.toNat + 4294967296 * wv l
/-- A number's words. -/
def ws (n : Nat) : List Int := if h : n = 0 then [] else ((n % 4294967296 : Nat) : Int) :: ws (n / 4294967296)
termination_by n
decreasing_by omega
def Words (l : List Int) : Prop := ∀ x ∈ l, 0 ≤ x ∧ x < 4294967296
theorem ws_zero : ws 0 = [] := by unfold ws; rfl
theorem ws_pos {n : Nat} (h : n ≠ 0) : ws n = ((n % 4294967296 : Nat) : Int) :: ws (n / 4294967296) := by rw [ws, dif_neg h]
theorem words_nil : Words [] := by intro x h; cases h
theorem words_cons {x : Int} {l : List Int} : Words (x :: l) ↔ (0 ≤ x ∧ x < 4294967296) ∧ Words l := by
  unfold Words; simp
theorem words_append {a b : List Int} : Words (a ++ b) ↔ Words a ∧ Words b := by
  unfold Words
  constructor
  · intro h; exact ⟨fun x hx => h x (by simp [hx]), fun x hx => h x (by simp [hx])⟩
  · rintro ⟨h1, h2⟩ x hx
    rcases List.mem_append.1 hx with g | g
    · exact h1 x g
    · exact h2 x g
theorem ws_words : ∀ (k n : Nat), n ≤ k → Words (ws n)
  | 0, n, h => by have : n = 0 := by omega
                  subst this; rw [ws_zero]; exact words_nil
  | k + 1, n, h => by
    by_cases h0 : n = 0
    · subst h0; rw [ws_zero]; exact words_nil
    · rw [ws_pos h0]
      exact words_cons.2 ⟨by omega, ws_words k (n / 4294967296) (by omega)⟩
theorem words_ws (n : Nat) : Words (ws n) := ws_words n n (Nat.le_refl _)
theorem wv_ws_le : ∀ (k n : Nat), n ≤ k → wv (ws n) = n
  | 0, n, h => by have : n = 0 := by omega
                  subst this; rw [ws_zero]; rfl
  | k + 1, n, h => by
    by_cases h0 : n = 0
    · subst h0; rw [ws_zero]; rfl
    · rw [ws_pos h0]
      show (((n % 4294967296 : Nat) : Int)).toNat + 4294967296 * wv (ws (n / 4294967296)) = n
      rw [wv_ws_le k (n / 4294967296) (by omega), Int.toNat_natCast]
      omega
theorem wv_ws (n : Nat) : wv (ws n) = n := wv_ws_le n n (Nat.le_refl _)
theorem wv_append (a b : List Int) : wv (a ++ b) = wv a + 2 ^ (32 * a.length) * wv b := by
  induction a with
  | nil => simp [wv]
  | cons x l ih =>
    rw [List.cons_append, wv, ih, wv, List.length_cons, Nat.mul_add 32, Nat.pow_add, Nat.mul_add 4294967296, show (2 : Nat) ^ (32 * 1) = 4294967296 by decide]
    rw [Nat.mul_comm (2 ^ (32 * l.length)) 4294967296, Nat.mul_assoc, Nat.add_assoc]
theorem wv_lt {l : List Int} (h : Words l) : wv l < 2 ^ (32 * l.length) := by
  induction l with
  | nil => simp [wv]
  | cons x l ih =>
    have hx := (words_cons.1 h).1
    have := ih (words_cons.1 h).2
    rw [wv, List.length_cons, Nat.mul_add 32, Nat.pow_add, show (2 : Nat) ^ (32 * 1) = 4294967296 by decide]
    omega
/-- The last word is not 0. -/
def Tight (l : List Int) : Prop := ∀ x, l.getLast? = some x → x ≠ 0
theorem tight_nil : Tight [] := by intro x h; cases h
theorem tight_tail {x : Int} {l : List Int} (h : Tight (x :: l)) : Tight l := by
  intro y hy
  cases l with
  | nil => cases hy
  | cons z l => exact h y (by rw [List.getLast?_cons_cons]; exact hy)
theorem tight_eq : ∀ {l : List Int}, Words l → Tight l → l = ws (wv l)
  | [], _, _ => by rw [wv, ws_zero]
  | x :: l, hw, ht => by
    have hx := (words_cons.1 hw).1
    have ih := tight_eq (words_cons.1 hw).2 (tight_tail ht)
    obtain ⟨X, rfl⟩ := Int.eq_ofNat_of_zero_le hx.1
    have hX : X < 4294967296 := by omega
    have e : wv ((X : Int) :: l) = X + 4294967296 * wv l := rfl
    by_cases h0 : wv ((X : Int) :: l) = 0
    · exfalso
      rw [e] at h0
      have l0 : wv l = 0 := by omega
      have X0 : X = 0 := by omega
      rw [l0, ws_zero] at ih
      subst ih
      subst X0
      exact ht 0 rfl rfl
    · rw [ws_pos h0, e]
      rw [show (X + 4294967296 * wv l) % 4294967296 = X by omega, show (X + 4294967296 * wv l) / 4294967296 = wv l by omega, ← ih]
theorem ws_tight (n : Nat) : Tight (ws n) := by
  have key : ∀ k n : Nat, n ≤ k → Tight (ws n) := by
    intro k
    induction k with
    | zero => intro n h; have : n = 0 := by omega
              subst this; rw [ws_zero]; exact tight_nil
    | succ k ih =>
      intro n h
      by_cases h0 : n = 0
      · subst h0; rw [ws_zero]; exact tight_nil
      · rw [ws_pos h0]
        intro x hx
        by_cases g : n / 4294967296 = 0
        · rw [g, ws_zero] at hx
          simp at hx
          omega
        · have := ih (n / 4294967296) (by omega)
          rw [ws_pos g, List.getLast?_cons_cons, ← ws_pos g] at hx
          exact this x hx
  exact key n n (Nat.le_refl _)
/-- A word of 0 more at the end changes nothing. -/
theorem wv_snoc (l : List Int) (x : Int) : wv (l ++ [x]) = wv l + 2 ^ (32 * l.length) * x.toNat := by
  rw [wv_append]; simp [wv]
theorem wv_zeros (l : List Int) (k : Nat) : wv (l ++ List.replicate k 0) = wv l := by
  rw [wv_append]
  have : wv (List.replicate k (0 : Int)) = 0 := by
    induction k with
    | zero => rfl
    | succ k ih => rw [List.replicate_succ, wv, ih]; rfl
  rw [this]; omega
/-- What is above its highest word that is not 0 can be cut. -/
theorem take_wv {l : List Int} {n : Nat} (h : ∀ i, n ≤ i → i < l.length → l[i]? = some 0) (hn : n ≤ l.length) : wv (l.take n) = wv l := by
  have e : l = l.take n ++ List.replicate (l.length - n) 0 := by
    apply List.ext_getElem?
    intro i
    by_cases c : i < n
    · rw [List.getElem?_append_left (by rw [List.length_take]; omega), List.getElem?_take_of_lt c]
    · rw [List.getElem?_append_right (by rw [List.length_take]; omega), List.length_take]
      by_cases d : i < l.length
      · rw [h i (by omega) d, List.getElem?_replicate, if_pos (by omega)]
      · rw [List.getElem?_eq_none (by omega), List.getElem?_replicate, if_neg (by omega)]
  have := wv_zeros (l.take n) (l.length - n)
  rw [← e] at this
  exact this.symm
theorem ws_length (n : Nat) : (ws n).length = (bl n + 31) / 32 := by
  have key : ∀ k n : Nat, n ≤ k → (ws n).length = (bl n + 31) / 32 := by
    intro k
    induction k with
    | zero => intro n h; have : n = 0 := by omega
              subst this; rw [ws_zero]; rfl
    | succ k ih =>
      intro n h
      by_cases h0 : n = 0
      · subst h0; rw [ws_zero]; rfl
      · rw [ws_pos h0, List.length_cons, ih (n / 4294967296) (by omega)]
        by_cases g : n / 4294967296 = 0
        · rw [g]
          have b1 := bl_pos h0
          have b2 : bl n ≤ 32 := bl_le_of_lt (k := 32) (by rw [show (2 : Nat) ^ 32 = 4294967296 by decide]; omega)
          have : bl 0 = 0 := rfl
          omega
        · have := bl_add (n := n / 4294967296) (s := 32) (r := n % 4294967296) g (by rw [show (2 : Nat) ^ 32 = 4294967296 by decide]; omega)
          rw [show (2 : Nat) ^ 32 = 4294967296 by decide, show n / 4294967296 * 4294967296 + n % 4294967296 = n by omega] at this
          rw [this]; omega
  exact key n n (Nat.le_refl _)
/-- The weight of a place. -/
def Q (k : Nat) : Int := ((2 ^ (32 * k) : Nat) : Int)
theorem Q_zero : Q 0 = 1 := rfl
theorem Q_succ (k : Nat) : Q (k + 1) = 4294967296 * Q k := by
  unfold Q
  rw [Nat.mul_add 32, Nat.pow_add, show (2 : Nat) ^ (32 * 1) = 4294967296 by decide, Nat.mul_comm, Int.natCast_mul]; rfl
theorem Q_pos (k : Nat) : 0 < Q k := by unfold Q; exact Int.natCast_pos.2 (Nat.two_pow_pos _)
theorem Q_add (i k : Nat) : Q (i + k) = Q i * Q k := by unfold Q; rw [Nat.mul_add, Nat.pow_add, Int.natCast_mul]
theorem Q_two (k : Nat) : Q k = (2 : Int) ^ (32 * k) := by unfold Q; rw [Int.natCast_pow]; rfl
theorem wi_nil : (wv [] : Int) = 0 := rfl
theorem wi_cons {x : Int} (hx : 0 ≤ x) (l : List Int) : (wv (x :: l) : Int) = x + 4294967296 * wv l := by
  rw [wv]; omega
theorem wi_append (a b : List Int) : (wv (a ++ b) : Int) = wv a + Q a.length * wv b := by
  rw [wv_append]; unfold Q; rw [Int.natCast_add, Int.natCast_mul]
theorem wi_snoc {x : Int} (hx : 0 ≤ x) (l : List Int) : (wv (l ++ [x]) : Int) = wv l + Q l.length * x := by
  rw [wi_append, wi_cons hx]; rw [wi_nil]; simp
theorem getD_word {l : List Int} (h : Words l) (i : Nat) : 0 ≤ l.getD i 0 ∧ l.getD i 0 < 4294967296 := by
  rw [List.getD_eq_getElem?_getD]
  by_cases c : i < l.length
  · rw [List.getElem?_eq_getElem c]; exact h _ (List.getElem_mem c)
  · rw [List.getElem?_eq_none (by omega)]; exact ⟨by decide, by decide⟩
theorem words_take {l : List Int} (h : Words l) (i : Nat) : Words (l.take i) := fun x hx => h x (List.mem_of_mem_take hx)
theorem words_drop {l : List Int} (h : Words l) (i : Nat) : Words (l.drop i) := fun x hx => h x (List.mem_of_mem_drop hx)
theorem take_getD {l : List Int} {k : Nat} (h : k < l.length) : l.take (k + 1) = l.take k ++ [l.getD k 0] := by
  rw [List.take_succ_eq_append_getElem h, List.getD_eq_getElem?_getD, List.getElem?_eq_getElem h]; rfl
theorem drop_getD {l : List Int} {k : Nat} (h : k < l.length) : l.drop k = l.getD k 0 :: l.drop (k + 1) := by
  rw [List.getD_eq_getElem?_getD, List.getElem?_eq_getElem h]; exact List.drop_eq_getElem_cons h
theorem wi_take {l : List Int} (hw : Words l) (k : Nat) : (wv (l.take (k + 1)) : Int) = wv (l.take k) + Q k * l.getD k 0 := by
  by_cases h : k < l.length
  · rw [take_getD h, wi_snoc (getD_word hw k).1, List.length_take, Nat.min_eq_left (by omega)]
  · rw [List.take_of_length_le (by omega), List.take_of_length_le (by omega), List.getD_eq_getElem?_getD, List.getElem?_eq_none (by omega)]; simp
theorem wi_drop {l : List Int} (hw : Words l) (k : Nat) : (wv (l.drop k) : Int) = l.getD k 0 + 4294967296 * wv (l.drop (k + 1)) := by
  by_cases h : k < l.length
  · rw [drop_getD h, wi_cons (getD_word hw k).1]
  · rw [List.drop_of_length_le (by omega), List.drop_of_length_le (by omega), List.getD_eq_getElem?_getD, List.getElem?_eq_none (by omega)]; simp [wi_nil]
theorem wi_split (l : List Int) (k : Nat) : (wv l : Int) = wv (l.take k) + Q k * wv (l.drop k) := by
  have := wi_append (l.take k) (l.drop k)
  rw [List.take_append_drop] at this
  by_cases h : k ≤ l.length
  · rw [this, List.length_take, Nat.min_eq_left h]
  · rw [List.take_of_length_le (by omega), List.drop_of_length_le (by omega), wi_nil]; simp
theorem wi_lt {l : List Int} (h : Words l) : (wv l : Int) < Q l.length := by unfold Q; exact Int.ofNat_lt.2 (wv_lt h)
theorem wi_take_lt {l : List Int} (h : Words l) (k : Nat) : (wv (l.take k) : Int) < Q k := by
  have h1 := wi_lt (words_take h k)
  rw [List.length_take] at h1
  have h2 : Q (min k l.length) ≤ Q k := by unfold Q; exact Int.ofNat_le.2 (pow_le (by omega))
  omega
theorem words_snoc {l : List Int} {x : Int} (h : Words l) (h0 : 0 ≤ x) (h1 : x < 4294967296) : Words (l ++ [x]) := words_append.2 ⟨h, words_cons.2 ⟨⟨h0, h1⟩, words_nil⟩⟩
/-- Cut where the words behind are 0. -/
theorem trim_done {l : List Int} {n : Nat} (hw : Words l) (hn : n ≤ l.length) (h0 : ∀ i, n ≤ i → i < l.length → l.getD i 0 = 0) (ht : n = 0 ∨ l.getD (n - 1) 0 ≠ 0) : l.take n = ws (wv l) ∧ n = (ws (wv l)).length := by
  have e1 : wv (l.take n) = wv l := take_wv (fun i h1 h2 => by
    have := h0 i h1 h2
    rw [List.getD_eq_getElem?_getD, List.getElem?_eq_getElem h2] at this
    rw [List.getElem?_eq_getElem h2]; exact congrArg some this) hn
  have t : Tight (l.take n) := by
    intro x hx
    rcases ht with rfl | ht
    · simp at hx
    · by_cases c : n = 0
      · subst c; simp at hx
      · rw [List.getLast?_eq_getElem?, List.length_take, Nat.min_eq_left hn, List.getElem?_take_of_lt (by omega)] at hx
        rw [List.getD_eq_getElem?_getD, hx] at ht
        exact ht
  have e2 := tight_eq (words_take hw n) t
  rw [e1] at e2
  exact ⟨e2, by rw [← e2, List.length_take]; omega⟩
/-- Comparing from the highest word. -/
theorem cmp_lt {a b : List Int} {i : Nat} (ha : Words a) (hb : Words b) (hl : a.length = b.length) (hi : i < a.length) (hd : a.drop (i + 1) = b.drop (i + 1)) (h : a.getD i 0 < b.getD i 0) : wv a < wv b := by
  have e1 := wi_split a i
  have e2 := wi_split b i
  have d1 := wi_drop ha i
  have d2 := wi_drop hb i
  have l1 := wi_take_lt ha i
  have q := Q_pos i
  rw [hd] at d1
  have p2 : (0 : Int) ≤ wv (b.take i) := Int.natCast_nonneg _
  have : Q i * (wv (a.drop i) : Int) + Q i ≤ Q i * wv (b.drop i) := by
    have : (wv (a.drop i) : Int) + 1 ≤ wv (b.drop i) := by omega
    have := Int.mul_le_mul_of_nonneg_left this (Int.le_of_lt q)
    rw [Int.mul_add, Int.mul_one] at this
    exact this
  omega
theorem cmp_step {a b : List Int} {i : Nat} (hi : i < a.length) (hj : i < b.length) (hd : a.drop (i + 1) = b.drop (i + 1)) (h : a.getD i 0 = b.getD i 0) : a.drop i = b.drop i := by
  rw [drop_getD hi, drop_getD hj, hd, h]
theorem ws_len_mono {A B : Nat} (h : A ≤ B) : (ws A).length ≤ (ws B).length := by
  rw [ws_length, ws_length]; have := bl_mono h; omega
theorem len_lt {A B : Nat} (h : (ws A).length < (ws B).length) : A < B := by
  rcases Nat.lt_or_ge A B with h1 | h1
  · exact h1
  · have := ws_len_mono h1; omega
/-- A sum, word by word. -/
theorem add_step {o a b : List Int} {k : Nat} {c t : Int} (ha : Words a) (hb : Words b) (ho : o.length = k) (h : (wv o : Int) + Q k * c = wv (a.take k) + wv (b.take k)) (ht : t = c + a.getD k 0 + b.getD k 0) (h0 : 0 ≤ c) :
    (wv (o ++ [t % 4294967296]) : Int) + Q (k + 1) * (t / 4294967296) = wv (a.take (k + 1)) + wv (b.take (k + 1)) := by
  rw [wi_snoc (by omega), ho, Q_succ, wi_take ha, wi_take hb]
  have : t = 4294967296 * (t / 4294967296) + t % 4294967296 := by omega
  generalize t / 4294967296 = q at *
  generalize t % 4294967296 = r at *
  subst ht
  grind
/-- A difference, word by word. -/
theorem sub_step {o a b : List Int} {k : Nat} {c t : Int} (ha : Words a) (hb : Words b) (ho : o.length = k) (h : (wv o : Int) + wv (b.take k) = wv (a.take k) + Q k * c) (ht : t = a.getD k 0 - c - b.getD k 0) :
    (wv (o ++ [t % 4294967296]) : Int) + wv (b.take (k + 1)) = wv (a.take (k + 1)) + Q (k + 1) * (-(t / 4294967296)) := by
  rw [wi_snoc (by omega), ho, Q_succ, wi_take ha, wi_take hb]
  have : t = 4294967296 * (t / 4294967296) + t % 4294967296 := by omega
  generalize t / 4294967296 = q at *
  generalize t % 4294967296 = r at *
  subst ht
  grind
/-- The words of the end of a sum. -/
theorem ws_of {l : List Int} {N : Nat} (h : (wv l : Int) = N) : wv l = N := by omega
/-- A word is set. -/
theorem wi_set : ∀ (l : List Int) (j : Nat) (x : Int), Words l → 0 ≤ x → j < l.length → (wv (l.set j x) : Int) = wv l + Q j * (x - l.getD j 0)
  | [], j, x, _, _, h => by simp at h
  | y :: l, 0, x, hw, hx, _ => by
    rw [List.set_cons_zero, wi_cons hx, wi_cons (words_cons.1 hw).1.1, Q_zero]
    show _ = _ + 1 * (x - y)
    omega
  | y :: l, j + 1, x, hw, hx, h => by
    rw [List.set_cons_succ, wi_cons (words_cons.1 hw).1.1, wi_cons (words_cons.1 hw).1.1, wi_set l j x (words_cons.1 hw).2 hx (by simpa using h), Q_succ]
    show _ = _ + 4294967296 * Q j * (x - l.getD j 0)
    grind
theorem words_set {l : List Int} {j : Nat} {x : Int} (h : Words l) (h0 : 0 ≤ x) (h1 : x < 4294967296) : Words (l.set j x) := by
  intro y hy
  rcases List.mem_or_eq_of_mem_set hy with g | g
  · exact h y g
  · subst g; exact ⟨h0, h1⟩
theorem getD_set {l : List Int} {j i : Nat} {x : Int} (h : j < l.length) : (l.set j x).getD i 0 = if i = j then x else l.getD i 0 := by
  rw [List.getD_eq_getElem?_getD, List.getD_eq_getElem?_getD, List.getElem?_set]
  by_cases c : j = i
  · subst c; rw [if_pos rfl, if_pos rfl, if_pos h]; rfl
  · rw [if_neg c, if_neg (fun e => c e.symm)]
theorem words_zeros (n : Nat) : Words (List.replicate n 0) := by
  intro x hx; have := List.eq_of_mem_replicate hx; subst this; exact ⟨by decide, by decide⟩
theorem wv_zeros' (n : Nat) : wv (List.replicate n 0) = 0 := by
  have := wv_zeros [] n; rw [List.nil_append] at this; rw [this]; rfl
/-- A row of a product, word by word: 'o' is what was there, 'l' what is there now. -/
theorem mul_step {l b : List Int} {i k : Nat} {x c t S : Int} (hl : Words l) (hb : Words b) (hk : i + k < l.length) (h : (wv l : Int) + Q (i + k) * c = S + Q i * x * wv (b.take k)) (ht : t = c + x * b.getD k 0 + l.getD (i + k) 0) :
    (wv (l.set (i + k) (t % 4294967296)) : Int) + Q (i + (k + 1)) * (t / 4294967296) = S + Q i * x * wv (b.take (k + 1)) := by
  rw [wi_set l _ _ hl (by omega) hk, ← Nat.add_assoc, Q_succ, wi_take hb, Q_add]
  rw [Q_add] at h
  have : t = 4294967296 * (t / 4294967296) + t % 4294967296 := by omega
  generalize t / 4294967296 = q at *
  generalize t % 4294967296 = r at *
  subst ht
  grind
theorem mul_row {l a b : List Int} {i : Nat} {c : Int} (hl : Words l) (ha : Words a) (hk : i + b.length < l.length) (h0 : l.getD (i + b.length) 0 = 0) (hc : 0 ≤ c) (h : (wv l : Int) + Q (i + b.length) * c = wv (a.take i) * wv b + Q i * a.getD i 0 * wv (b.take b.length)) :
    (wv (l.set (i + b.length) c) : Int) = wv (a.take (i + 1)) * wv b := by
  rw [wi_set l _ _ hl hc hk, h0, wi_take ha]
  rw [List.take_of_length_le (Nat.le_refl _)] at h
  grind
/-- The carry of a product stays a word. -/
theorem mul_fits {x y z c : Int} (hx : 0 ≤ x ∧ x < 4294967296) (hy : 0 ≤ y ∧ y < 4294967296) (hz : 0 ≤ z ∧ z < 4294967296) (hc : 0 ≤ c ∧ c < 4294967296) : 0 ≤ c + x * y + z ∧ c + x * y + z < 18446744073709551616 ∧ (c + x * y + z) / 4294967296 < 4294967296 ∧ 0 ≤ (c + x * y + z) / 4294967296 := by
  have h1 : 0 ≤ x * y := Int.mul_nonneg hx.1 hy.1
  have h2 : x * y ≤ 4294967295 * 4294967295 := Int.mul_le_mul (by omega) (by omega) hy.1 (by decide)
  omega
/-- Dividing by one word, from the highest. -/
theorem small_step {q a : List Int} {i : Nat} {d r t : Int} (hq : Words q) (ha : Words a) (hi : i < q.length) (h0 : q.getD i 0 = 0) (hd : 0 < d) (ht : t = r * 4294967296 + a.getD i 0) (h0t : 0 ≤ t / d) (h : (wv (a.drop (i + 1)) : Int) = wv (q.drop (i + 1)) * d + r) :
    (wv (a.drop i) : Int) = wv ((q.set i (t / d)).drop i) * d + t % d := by
  have hw : (wv ((q.set i (t / d)).drop i) : Int) = t / d + 4294967296 * wv (q.drop (i + 1)) := by
    rw [drop_getD (by simpa using hi), wi_cons (by rw [getD_set hi, if_pos rfl]; exact h0t), getD_set hi, if_pos rfl]
    have : (q.set i (t / d)).drop (i + 1) = q.drop (i + 1) := by rw [List.drop_set]; simp
    rw [this]
  rw [hw, wi_drop ha, h]
  have : t = d * (t / d) + t % d := (Int.mul_ediv_add_emod t d).symm
  generalize t / d = u at *
  generalize t % d = v at *
  subst ht
  grind
/-- Left, word by word. -/
theorem shl_step {o a : List Int} {i s : Nat} {D x : Int} (ho : Words o) (ha : Words a) (hk : i + s + 1 < o.length) (hD : 0 < D) (hx : x = a.getD i 0 * D) (h : (wv o : Int) = Q s * D * wv (a.take i)) (h1 : o.getD (i + s + 1) 0 = 0) (hw : o.getD (i + s) 0 + x % 4294967296 < 4294967296) :
    (wv ((o.set (i + s) (o.getD (i + s) 0 + x % 4294967296)).set (i + s + 1) (x / 4294967296)) : Int) = Q s * D * wv (a.take (i + 1)) := by
  have g := getD_word ho (i + s)
  have gx : 0 ≤ x := by rw [hx]; exact Int.mul_nonneg (getD_word ha i).1 (Int.le_of_lt hD)
  have w1 : Words (o.set (i + s) (o.getD (i + s) 0 + x % 4294967296)) := words_set ho (by omega) hw
  rw [wi_set _ _ _ w1 (by omega) (by simpa using hk), wi_set _ _ _ ho (by omega) (by omega), getD_set (by omega), if_neg (by omega), h1, wi_take ha, h, Q_succ, Q_add]
  have : x = 4294967296 * (x / 4294967296) + x % 4294967296 := by omega
  generalize x / 4294967296 = q at *
  generalize x % 4294967296 = r at *
  generalize o.getD (i + s) 0 = z at *
  subst hx
  grind
theorem pow_split32 {r : Nat} (h : r ≤ 32) : (4294967296 : Nat) = 2 ^ r * 2 ^ (32 - r) := by
  rw [← Nat.pow_add, show r + (32 - r) = 32 by omega]
/-- What a word moved left gives: a multiple in the lower, little in the upper. -/
theorem shl_parts {a r : Nat} (ha : a < 4294967296) (hr : r < 32) : a * 2 ^ r % 4294967296 = (a % 2 ^ (32 - r)) * 2 ^ r ∧ a * 2 ^ r / 4294967296 < 2 ^ r ∧ a * 2 ^ r < 18446744073709551616 := by
  have e := pow_split32 (r := r) (by omega)
  have p : 2 ^ r ≤ 2 ^ 31 := pow_le (by omega)
  have p2 : 0 < 2 ^ r := Nat.two_pow_pos _
  refine ⟨?_, ?_, ?_⟩
  · rw [e, Nat.mul_comm (2 ^ r), Nat.mul_mod_mul_right]
  · rw [Nat.div_lt_iff_lt_mul (by decide)]
    calc a * 2 ^ r < 4294967296 * 2 ^ r := Nat.mul_lt_mul_of_pos_right ha p2
      _ = 2 ^ r * 4294967296 := Nat.mul_comm _ _
  · calc a * 2 ^ r < 4294967296 * 2 ^ r := Nat.mul_lt_mul_of_pos_right ha p2
      _ ≤ 4294967296 * 2 ^ 31 := Nat.mul_le_mul_left _ p
      _ < _ := by decide
theorem div_pow_mod {X b0 b1 Y r : Nat} (hr : r ≤ 32) (h : X = b0 + 4294967296 * b1 + 18446744073709551616 * Y) : X / 2 ^ r % 4294967296 = (b0 + 4294967296 * b1) / 2 ^ r % 4294967296 := by
  have e := pow_split32 (r := r) hr
  have p2 : 0 < 2 ^ r := Nat.two_pow_pos _
  have : X = (b0 + 4294967296 * b1) + 2 ^ r * (4294967296 * (2 ^ (32 - r) * Y)) := by
    rw [h]
    have : 2 ^ r * (4294967296 * (2 ^ (32 - r) * Y)) = 4294967296 * ((2 ^ r * 2 ^ (32 - r)) * Y) := by
      rw [← Nat.mul_assoc, Nat.mul_comm (2 ^ r) 4294967296, Nat.mul_assoc, ← Nat.mul_assoc (2 ^ r)]
    rw [this, ← e]; omega
  rw [this, Nat.add_mul_div_left _ _ p2]
  omega
/-- Right, word by word. -/
theorem shr_step {o b : List Int} {k r : Nat} (hb : Words b) (ho : o.length = k) (hr : r < 32) (h : wv o = wv b / 2 ^ r % 2 ^ (32 * k)) :
    wv (o ++ [((((b.getD k 0).toNat + 4294967296 * (b.getD (k + 1) 0).toNat) / 2 ^ r % 4294967296 : Nat) : Int)]) = wv b / 2 ^ r % 2 ^ (32 * (k + 1)) := by
  have g0 := getD_word hb k
  have g1 := getD_word hb (k + 1)
  have d0 := wi_drop hb k
  have d1 := wi_drop hb (k + 1)
  have key := div_pow_mod (X := wv (b.drop k)) (b0 := (b.getD k 0).toNat) (b1 := (b.getD (k + 1) 0).toNat) (Y := wv (b.drop (k + 1 + 1))) (r := r) (by omega) (by omega)
  rw [← key, wv_snoc, ho, h, Int.toNat_natCast]
  have sp : wv b / 2 ^ (32 * k) = wv (b.drop k) := by
    have e := wi_split b k
    have l := wi_take_lt hb k
    unfold Q at e l
    have l' : wv (b.take k) < 2 ^ (32 * k) := Int.ofNat_lt.1 l
    have e' : wv b = wv (b.take k) + 2 ^ (32 * k) * wv (b.drop k) := by
      have : ((wv b : Nat) : Int) = ((wv (b.take k) + 2 ^ (32 * k) * wv (b.drop k) : Nat) : Int) := by rw [Int.natCast_add, Int.natCast_mul]; exact e
      exact Int.ofNat_inj.1 this
    rw [e', Nat.add_mul_div_left _ _ (Nat.two_pow_pos _), Nat.div_eq_of_lt l', Nat.zero_add]
  have sw : wv b / 2 ^ (32 * k) / 2 ^ r = wv b / 2 ^ r / 2 ^ (32 * k) := by rw [Nat.div_div_eq_div_mul, Nat.div_div_eq_div_mul, Nat.mul_comm]
  rw [← sp, sw, Nat.mul_add 32, Nat.pow_add, show (2 : Nat) ^ (32 * 1) = 4294967296 by decide, Nat.mod_mul]
theorem shr_end {b : List Int} {k r : Nat} (hb : Words b) (hk : b.length = k) : wv b / 2 ^ r % 2 ^ (32 * k) = wv b / 2 ^ r := by
  subst hk
  exact Nat.mod_eq_of_lt (Nat.lt_of_le_of_lt (Nat.div_le_self _ _) (wv_lt hb))
theorem wv_dropQ {b : List Int} (hb : Words b) (k : Nat) : wv (b.drop k) = wv b / 2 ^ (32 * k) := by
  have e := wi_split b k
  have l := wi_take_lt hb k
  unfold Q at e l
  have l' : wv (b.take k) < 2 ^ (32 * k) := Int.ofNat_lt.1 l
  have e' : wv b = wv (b.take k) + 2 ^ (32 * k) * wv (b.drop k) := by
    have : ((wv b : Nat) : Int) = ((wv (b.take k) + 2 ^ (32 * k) * wv (b.drop k) : Nat) : Int) := by rw [Int.natCast_add, Int.natCast_mul]; exact e
    exact Int.ofNat_inj.1 this
  rw [e', Nat.add_mul_div_left _ _ (Nat.two_pow_pos _), Nat.div_eq_of_lt l', Nat.zero_add]
theorem shr_all {b : List Int} (hb : Words b) (n : Nat) : wv (b.drop (n / 32)) / 2 ^ (n % 32) = wv b / 2 ^ n := by
  rw [wv_dropQ hb, Nat.div_div_eq_div_mul, ← Nat.pow_add, show 32 * (n / 32) + n % 32 = n by omega]
theorem shl_all (n : Nat) : Q (n / 32) * ((2 ^ (n % 32) : Nat) : Int) = ((2 ^ n : Nat) : Int) := by
  unfold Q
  rw [← Int.natCast_mul, ← Nat.pow_add, show 32 * (n / 32) + n % 32 = n by omega]
/-- The length in digits, by the highest word. -/
theorem bl_words {A : Nat} (h : A ≠ 0) : bl A = 32 * ((ws A).length - 1) + bl ((ws A).getD ((ws A).length - 1) 0).toNat ∧ (ws A).getD ((ws A).length - 1) 0 ≠ 0 ∧ 1 ≤ (ws A).length := by
  have hl : 1 ≤ (ws A).length := by rw [ws_pos h]; simp
  have hw := words_ws A
  have t := ws_tight A ((ws A).getD ((ws A).length - 1) 0) (by
    rw [List.getLast?_eq_getElem?, List.getD_eq_getElem?_getD, List.getElem?_eq_getElem (by omega)]; rfl)
  have g := getD_word hw ((ws A).length - 1)
  have e := wi_split (ws A) ((ws A).length - 1)
  have d := wi_drop hw ((ws A).length - 1)
  rw [List.drop_of_length_le (show (ws A).length ≤ (ws A).length - 1 + 1 by omega), wi_nil, Int.mul_zero, Int.add_zero] at d
  rw [d, wv_ws] at e
  have l := wi_take_lt hw ((ws A).length - 1)
  unfold Q at e l
  generalize (ws A).getD ((ws A).length - 1) 0 = y at *
  generalize (ws A).length - 1 = n at *
  obtain ⟨Y, rfl⟩ := Int.eq_ofNat_of_zero_le g.1
  have l' : wv ((ws A).take n) < 2 ^ (32 * n) := Int.ofNat_lt.1 l
  have e' : A = Y * 2 ^ (32 * n) + wv ((ws A).take n) := by
    rw [← Int.natCast_mul, ← Int.natCast_add] at e
    have := Int.ofNat_inj.1 e
    rw [Nat.mul_comm, Nat.add_comm]; exact this
  have Y0 : Y ≠ 0 := fun c => t (by rw [c]; rfl)
  refine ⟨?_, t, hl⟩
  have := bl_add Y0 l'
  rw [← e'] at this
  rw [this, Int.toNat_natCast]; omega
/-- Halving until nothing is left. -/
theorem halve_zero {X j : Nat} : X / 2 ^ j = 0 ↔ bl X ≤ j := by
  rw [Nat.div_eq_zero_iff_lt (Nat.two_pow_pos _)]
  exact ⟨bl_le_of_lt, fun h => Nat.lt_of_lt_of_le (bl_lt X) (pow_le h)⟩
theorem halve_next (X j : Nat) : X / 2 ^ j / 2 = X / 2 ^ (j + 1) := by rw [Nat.div_div_eq_div_mul, Nat.pow_succ]
/-- The greatest factor, by halves. -/
theorem half_up {t B lo hi : Nat} (h0 : lo < hi) (h1 : lo * B ≤ t) (h2 : t < (hi + 1) * B) : ((lo + hi + 1) / 2) * B ≤ t → ((lo + hi + 1) / 2) * B ≤ t ∧ lo < (lo + hi + 1) / 2 ∧ (lo + hi + 1) / 2 ≤ hi := fun h => ⟨h, by omega, by omega⟩
theorem half_end {t B lo : Nat} (h1 : lo * B ≤ t) (h2 : t < (lo + 1) * B) : t / B = lo ∧ t - lo * B = t % B := by
  have hB : 0 < B := by rcases Nat.eq_zero_or_pos B with h | h; · subst h; simp at h2
                        · exact h
  have e : t / B = lo := by
    apply Nat.le_antisymm
    · have := Nat.div_lt_iff_lt_mul hB |>.2 h2; omega
    · exact (Nat.le_div_iff_mul_le hB).2 h1
  have := Nat.div_add_mod t B
  rw [e] at this
  refine ⟨e, ?_⟩
  rw [Nat.mul_comm] at this; omega
theorem ws_small {x : Nat} (h : x < 4294967296) (h0 : x ≠ 0) : ws x = [(x : Int)] := by
  rw [ws_pos h0, Nat.mod_eq_of_lt h, Nat.div_eq_of_lt h, ws_zero]
theorem wv_one (x : Nat) : wv [(x : Int)] = x := by simp [wv]
theorem wv_two (x y : Nat) : wv [(x : Int), (y : Int)] = x + 4294967296 * y := by simp [wv]
theorem wv_four (x y z u : Nat) : wv [(x : Int), (y : Int), (z : Int), (u : Int)] = x + 4294967296 * (y + 4294967296 * (z + 4294967296 * u)) := by simp [wv]
theorem len_bound {l : List Int} (h : Words l) : bl (wv l) ≤ 32 * l.length := bl_le_of_lt (wv_lt h)
theorem ws_len_le {A n : Nat} (h : bl A ≤ 32 * n) : (ws A).length ≤ n := by rw [ws_length]; omega
theorem getD0 {l : List Int} {i : Nat} (h : l.length ≤ i) : l.getD i 0 = 0 := by rw [List.getD_eq_getElem?_getD, List.getElem?_eq_none h]; rfl
/-- The lowest 64 digits. -/
theorem low_words {l : List Int} (h : Words l) : wv l % 18446744073709551616 = (l.getD 0 0).toNat + 4294967296 * (l.getD 1 0).toNat := by
  have d0 := wi_drop h 0
  have d1 := wi_drop h 1
  have g0 := getD_word h 0
  have g1 := getD_word h 1
  rw [List.drop_zero, Nat.zero_add] at d0
  rw [show 1 + 1 = 2 from rfl] at d1
  omega
/-- The digits of the two, at the lesser exponent. -/
def ax (a b : Nat) : Nat := sm a * 2 ^ (se a - min (se a) (se b)).toNat
theorem addS_ax (a b : Nat) : addS a b = (if ng a then -(ax a b : Int) else (ax a b : Int)) + (if ng b then -(ax b a : Int) else (ax b a : Int)) := by
  unfold addS sv ax
  rw [Int.min_comm (se b), Int.natCast_mul, Int.natCast_mul, Int.natCast_pow, Int.natCast_pow]
  cases ng a <;> cases ng b <;> simp [Int.neg_mul]
theorem ax_zero {a b : Nat} : ax a b = 0 ↔ zer a = true := by
  rw [← sm_zero]; unfold ax
  constructor
  · intro h
    rcases Nat.mul_eq_zero.1 h with g | g
    · exact g
    · have := Nat.two_pow_pos (se a - min (se a) (se b)).toNat; omega
  · intro h; rw [h, Nat.zero_mul]
theorem addF_same {a b : Nat} (h : ¬ (zer a = true ∧ zer b = true)) (hs : ng a = ng b) : addF a b = sg (ng a) (pat (ax a b + ax b a) (min (se a) (se b)) false) := by
  unfold addF
  rw [if_neg (by simpa using h), addS_ax, ← hs]
  have h0 : ax a b + ax b a ≠ 0 := by
    intro c
    exact h ⟨ax_zero.1 (show ax a b = 0 by omega), ax_zero.1 (show ax b a = 0 by omega)⟩
  cases ng a
  · have := packI_pos (n := ax a b + ax b a) (min (se a) (se b)) h0
    rw [← this]; rw [Int.natCast_add]; rfl
  · have := packI_neg (n := ax a b + ax b a) (min (se a) (se b)) h0
    rw [← this]; rw [Int.natCast_add, Int.neg_add]; rfl
theorem addF_eq {a b : Nat} (h : ¬ (zer a = true ∧ zer b = true)) (hs : ng a ≠ ng b) (he : ax a b = ax b a) : addF a b = 0 := by
  unfold addF
  rw [if_neg (by simpa using h), addS_ax, he]
  have : (if ng a = true then -(ax b a : Int) else (ax b a : Int)) + (if ng b = true then -(ax b a : Int) else (ax b a : Int)) = 0 := by
    cases ha : ng a <;> cases hb : ng b
    · rw [ha, hb] at hs; exact absurd rfl hs
    · rw [if_neg Bool.false_ne_true, if_pos rfl]; omega
    · rw [if_neg Bool.false_ne_true, if_pos rfl]; omega
    · rw [ha, hb] at hs; exact absurd rfl hs
  rw [this]; rfl
theorem addF_gt {a b : Nat} (hs : ng a ≠ ng b) (he : ax b a < ax a b) : addF a b = sg (ng a) (pat (ax a b - ax b a) (min (se a) (se b)) false) := by
  have za : ¬ zer a = true := fun c => by have := ax_zero (b := b).2 c; omega
  unfold addF
  rw [if_neg (by simp [za]), addS_ax]
  have h0 : ax a b - ax b a ≠ 0 := by omega
  cases ha : ng a <;> cases hb : ng b
  · rw [ha, hb] at hs; exact absurd rfl hs
  · have := packI_pos (n := ax a b - ax b a) (min (se a) (se b)) h0
    rw [← this, if_neg Bool.false_ne_true, if_pos rfl]; congr 1; omega
  · have := packI_neg (n := ax a b - ax b a) (min (se a) (se b)) h0
    rw [← this, if_neg Bool.false_ne_true, if_pos rfl]; congr 1; omega
  · rw [ha, hb] at hs; exact absurd rfl hs
theorem addF_lt {a b : Nat} (hs : ng a ≠ ng b) (he : ax a b < ax b a) : addF a b = sg (ng b) (pat (ax b a - ax a b) (min (se a) (se b)) false) := by
  rw [addF_comm, addF_gt (fun h => hs h.symm) he, Int.min_comm]
theorem bl_sm (a : Nat) : bl (sm a) ≤ 53 := bl_le_of_lt (Nat.lt_of_lt_of_le (sm_lt a) (by decide))
theorem bl_shl (n s : Nat) : bl (n * 2 ^ s) ≤ bl n + s := bl_le_of_lt (by
  rw [Nat.pow_add]; exact Nat.mul_lt_mul_of_pos_right (bl_lt n) (Nat.two_pow_pos _))
theorem ax_bl (a b : Nat) (ha : se a ≤ 971) (hb : se b ≤ 971) : bl (ax a b) ≤ 2098 := by
  have h2 : (se a - min (se a) (se b)).toNat ≤ 2045 := by have := se_ge a; have := se_ge b; omega
  have h1 := bl_shl (sm a) (se a - min (se a) (se b)).toNat
  have h3 := bl_sm a
  unfold ax; omega
theorem bl_mulb {a b m n : Nat} (ha : bl a ≤ m) (hb : bl b ≤ n) : bl (a * b) ≤ m + n := by
  apply bl_le_of_lt
  have h1 := Nat.lt_of_lt_of_le (bl_lt a) (pow_le ha)
  have h2 := Nat.lt_of_lt_of_le (bl_lt b) (pow_le hb)
  rw [Nat.pow_add]
  rcases Nat.eq_zero_or_pos b with c | c
  · subst c; rw [Nat.mul_zero]; exact Nat.mul_pos (Nat.two_pow_pos _) (Nat.two_pow_pos _)
  · exact Nat.mul_lt_mul_of_lt_of_le h1 (Nat.le_of_lt h2) (Nat.two_pow_pos _)
theorem bl_addb {a b m : Nat} (ha : bl a ≤ m) (hb : bl b ≤ m) : bl (a + b) ≤ m + 1 := by
  apply bl_le_of_lt
  have h1 := Nat.lt_of_lt_of_le (bl_lt a) (pow_le ha)
  have h2 := Nat.lt_of_lt_of_le (bl_lt b) (pow_le hb)
  rw [Nat.pow_succ]; omega
theorem bl_mono' {a b m : Nat} (h : a ≤ b) (hb : bl b ≤ m) : bl a ≤ m := Nat.le_trans (bl_mono h) hb
/-- Rounding as the reference does: by the half. -/
theorem rne_cmp (m c : Nat) (hc : 1 ≤ c) : rne m c false = if 2 ^ (c - 1) < m - m / 2 ^ c * 2 ^ c ∨ (m - m / 2 ^ c * 2 ^ c = 2 ^ (c - 1) ∧ m / 2 ^ c % 2 = 1) then m / 2 ^ c + 1 else m / 2 ^ c := by
  obtain ⟨d, rfl⟩ : ∃ d, c = d + 1 := ⟨c - 1, by omega⟩
  rw [rne_half, Nat.add_sub_cancel]
  have e : m - m / 2 ^ (d + 1) * 2 ^ (d + 1) = m % 2 ^ (d + 1) := by
    have := Nat.div_add_mod m (2 ^ (d + 1)); rw [Nat.mul_comm] at this; omega
  have t := mod_top m d
  have p : 0 < 2 ^ d := Nat.two_pow_pos _
  have l : m % 2 ^ d < 2 ^ d := Nat.mod_lt _ p
  rw [e, t.1]
  by_cases h1 : m / 2 ^ d % 2 = 1
  · rw [h1, Nat.one_mul]
    by_cases h2 : m % 2 ^ d = 0
    · rw [h2]; simp
    · have : 2 ^ d < 2 ^ d + m % 2 ^ d := by omega
      simp [h2, this]
  · have h0 : m / 2 ^ d % 2 = 0 := by omega
    rw [h0, Nat.zero_mul, Nat.zero_add]
    rw [if_neg (fun c => by have := c.1; omega), if_neg (by rintro (c | ⟨c, _⟩) <;> omega)]
theorem quoV_eq (x y : Nat) (e : Int) (k : Nat) (hk : k = 70 + bl y - bl x) : quoV x y e = pat (2 * (x * 2 ^ k / y) + (if x * 2 ^ k % y ≠ 0 then 1 else 0)) (e - (k : Int) - 1) false := by subst hk; rfl
theorem wv_takeQ {b : List Int} (hb : Words b) (k : Nat) : wv (b.take k) = wv b % 2 ^ (32 * k) := by
  have e := wi_split b k
  have l := wi_take_lt hb k
  unfold Q at e l
  have l' : wv (b.take k) < 2 ^ (32 * k) := Int.ofNat_lt.1 l
  have e' : wv b = wv (b.take k) + 2 ^ (32 * k) * wv (b.drop k) := by
    have : ((wv b : Nat) : Int) = ((wv (b.take k) + 2 ^ (32 * k) * wv (b.drop k) : Nat) : Int) := by rw [Int.natCast_add, Int.natCast_mul]; exact e
    exact Int.ofNat_inj.1 this
  rw [e', Nat.add_mul_mod_self_left, Nat.mod_eq_of_lt l']
/-- Is a word not 0 among the first ones? -/
def some0 (l : List Int) (k : Nat) : Bool := decide (wv (l.take k) ≠ 0)
theorem some0_zero (l : List Int) : some0 l 0 = false := by unfold some0; rw [List.take_zero]; rfl
theorem some0_succ {l : List Int} (hw : Words l) (k : Nat) : some0 l (k + 1) = (some0 l k || (l.getD k 0 != 0)) := by
  unfold some0
  have e := wi_take hw k
  have g := getD_word hw k
  have q := Q_pos k
  have p : 0 ≤ Q k * l.getD k 0 := Int.mul_nonneg (Int.le_of_lt q) g.1
  rw [Bool.eq_iff_iff]
  simp only [decide_eq_true_eq, Bool.or_eq_true, bne_iff_ne, ne_eq]
  constructor
  · intro h
    by_cases c : l.getD k 0 = 0
    · left; intro d; apply h; rw [c] at e; rw [d] at e; simp at e; exact e
    · exact .inr c
  · rintro (h | h) d
    · omega
    · have : 0 < Q k * l.getD k 0 := Int.mul_pos q (by omega)
      omega
theorem low_bits {l : List Int} (hw : Words l) (s r : Nat) (hr : r ≤ 32) : wv l / 2 ^ (32 * s) % 2 ^ r = (l.getD s 0).toNat % 2 ^ r := by
  rw [← wv_dropQ hw]
  have d := wi_drop hw s
  have g := getD_word hw s
  have e : wv (l.drop s) = (l.getD s 0).toNat + 4294967296 * wv (l.drop (s + 1)) := by omega
  rw [e, pow_split32 hr, Nat.mul_assoc, Nat.add_mul_mod_self_left]
/-- What a shift to the right loses. -/
theorem rest_words {l : List Int} (hw : Words l) (n : Nat) : decide (wv l % 2 ^ n ≠ 0) = (some0 l (n / 32) || decide ((l.getD (n / 32) 0).toNat % 2 ^ (n % 32) ≠ 0)) := by
  have e : 2 ^ n = 2 ^ (32 * (n / 32)) * 2 ^ (n % 32) := by rw [← Nat.pow_add]; congr 1; omega
  unfold some0
  rw [e, Nat.mod_mul, wv_takeQ hw, low_bits hw _ _ (by omega)]
  have p : 0 < 2 ^ (32 * (n / 32)) := Nat.two_pow_pos _
  rw [Bool.eq_iff_iff]
  simp only [decide_eq_true_eq, Bool.or_eq_true, ne_eq]
  generalize wv l % 2 ^ (32 * (n / 32)) = A
  generalize (l.getD (n / 32) 0).toNat % 2 ^ (n % 32) = B
  generalize 2 ^ (32 * (n / 32)) = D at *
  by_cases hA : A = 0
  · subst hA
    rw [Nat.zero_add, Nat.mul_eq_zero]
    constructor
    · intro h; right; intro c; exact h (.inr c)
    · rintro (h | h) c
      · exact h rfl
      · rcases c with c | c
        · omega
        · exact h c
  · constructor
    · intro _; exact .inl hA
    · intro _ c; omega
/-- Making, by the reference: too great, too small. -/
theorem make_great (n : Bool) {M : Nat} {e : Int} (h0 : M ≠ 0) (h : 2000 < e) : makeV n M e = sg n Inf := by
  unfold makeV; rw [pat_huge false h0 (by omega)]; rfl
theorem make_tiny (n : Bool) {M : Nat} {e : Int} (h : e < -1200 - (bl M : Int)) : makeV n M e = sg n 0 := by
  unfold makeV; rw [pat_tiny false (by omega)]
theorem make_zero (n : Bool) (e : Int) : makeV n 0 e = sg n 0 := by unfold makeV; rw [pat_zero]
theorem make_over (n : Bool) {M : Nat} {e : Int} (h0 : M ≠ 0) (h : 971 < rx 53 (-1074) M e false) : makeV n M e = sg n Inf := by
  unfold makeV pat; rw [patG_over (by decide) h0 (by decide) h]; rfl
theorem rv_lt {p : Nat} (hp : 1 ≤ p) (low : Int) (m : Nat) (e : Int) (rest : Bool) : rv p low m e rest < 2 ^ p := by
  have := vz_le p low m e rest
  have e1 : 2 ^ p = 2 * 2 ^ (p - 1) := by rw [Nat.mul_comm, ← Nat.pow_succ]; congr 1; omega
  have := Nat.two_pow_pos (p - 1)
  unfold rv; split <;> omega
theorem rx_ge (p : Nat) (low : Int) (m : Nat) (e : Int) (rest : Bool) : low ≤ rx p low m e rest := by
  have := qz_ge p low (bl m) e
  unfold rx; split <;> omega
theorem make_under (n : Bool) {M : Nat} {e : Int} (h0 : M ≠ 0) (h : rx 53 (-1074) M e false ≤ 971) :
    makeV n M e = sg n (if rv 53 (-1074) M e false < 4503599627370496 then rv 53 (-1074) M e false else (rx 53 (-1074) M e false + 1075).toNat * 4503599627370496 + (rv 53 (-1074) M e false - 4503599627370496)) := by
  unfold makeV pat; rw [patG_under (by decide) h0 (by decide) h]
  rw [show (2 : Nat) ^ (53 - 1) = 4503599627370496 by decide, show rx 53 (-1074) M e false - (-1074) + 1 = rx 53 (-1074) M e false + 1075 by omega]
/-- The clamp of the program's Make. -/
theorem make_clamp (n : Bool) (M : Nat) (e c : Int) (hc : 1024 ≤ c) (hb : (bl M : Int) + 1076 ≤ c) : makeV n M (min (max e (-c)) c) = makeV n M e := by
  unfold makeV; rw [pat_clamp M e false c hc hb]
/-- The reference's rounding: as it stands, or by the half. -/
theorem vz_left' {p : Nat} {low : Int} {M : Nat} {e : Int} (h : qz p low (bl M) e - e ≤ 0) : vz p low M e false = M * 2 ^ (-(qz p low (bl M) e - e)).toNat := by
  rw [vz_pos (by omega)]; congr 2; omega
theorem vz_half {p : Nat} {low : Int} {M : Nat} {e : Int} {c : Nat} (h : qz p low (bl M) e - e = (c : Int)) (hc : 1 ≤ c) :
    vz p low M e false = if 2 ^ (c - 1) < M - M / 2 ^ c * 2 ^ c ∨ (M - M / 2 ^ c * 2 ^ c = 2 ^ (c - 1) ∧ M / 2 ^ c % 2 = 1) then M / 2 ^ c + 1 else M / 2 ^ c := by
  rw [vz_neg (by omega), h, Int.toNat_natCast, rne_cmp M c hc]
theorem wq_trunc (n : Bool) (m c : Nat) : wq 0 n m c = m / 2 ^ c := by unfold wq; rw [if_neg (by decide), if_neg (fun h => absurd h.1 (by decide))]
end Go.Proofs.Ytecgkhijiogggaa.SF
