/- Cutting a text into tokens. No program in sight. -/
import Derived.Test.YthfkfdfcgldbeaaConv
namespace Go.Proofs.Ythfkfdfcgldbeaa
open Go.RowKit
set_option linter.unusedVariables false
set_option maxRecDepth 100000
def letB (c : UInt8) : Bool := decide (97 ≤ c.toNat) && decide (c.toNat ≤ 122)
def digB (c : UInt8) : Bool := decide (48 ≤ c.toNat) && decide (c.toNat ≤ 57)
def sgnB (c : UInt8) : Bool := c.toNat == 40 || c.toNat == 41 || c.toNat == 43 || c.toNat == 45 || c.toNat == 42 || c.toNat == 47 || c.toNat == 61 || c.toNat == 60 || c.toNat == 44
/-- how many bytes at the front are of a kind -/
def spanL (p : UInt8 → Bool) : List UInt8 → Nat
  | [] => 0
  | c :: r => if p c then spanL p r + 1 else 0
/-- how long the token at the front is, 0 for none -/
def tokL : List UInt8 → Nat
  | [] => 0
  | c :: r => if letB c then spanL (fun c => letB c || digB c) r + 1
    else if digB c then spanL digB r + 1
    else if c.toNat = 39 then (if (r[spanL letB r]?).map UInt8.toNat = some 39 then spanL letB r + 2 else 0)
    else if sgnB c then 1 else 0
/-- the tokens and the code -/
def lexL (l : List UInt8) (o : List ByteArray) : List ByteArray × Int :=
  match l with
  | [] => (o, 0)
  | c :: r => if c.toNat = 32 then lexL r o
    else if h : tokL (c :: r) = 0 then ([], 3)
    else if o.length = 500 then ([], 6)
    else lexL ((c :: r).drop (tokL (c :: r))) (o ++ [⟨((c :: r).take (tokL (c :: r))).toArray⟩])
termination_by l.length
decreasing_by
  · simp
  · simp only [List.length_drop, List.length_cons]; omega
theorem ba_ext {a b : ByteArray} (h : a.data.toList = b.data.toList) : a = b := by
  obtain ⟨a⟩ := a; obtain ⟨b⟩ := b
  simp at h; rw [h]
theorem cut_list (s : ByteArray) (a b : Nat) : (s.extract a b).data.toList = (s.data.toList.drop a).take (b - a) := by
  rw [ByteArray.data_extract]; simp [List.take_drop]
theorem front_at (s : ByteArray) (k : Nat) (h : k < s.size) : s.data.toList.drop k = s[k] :: s.data.toList.drop (k + 1) := by
  have hk : k < s.data.toList.length := by simpa using h
  rw [List.drop_eq_getElem_cons hk]
  simp only [Array.getElem_toList]; rfl
theorem front_end (s : ByteArray) (k : Nat) (h : s.size ≤ k) : s.data.toList.drop k = [] := List.drop_eq_nil_of_le (by simpa using h)
def spanA (p : UInt8 → Bool) (s : ByteArray) (i : Nat) : Nat := spanL p (s.data.toList.drop i)
def tokA (s : ByteArray) (i : Nat) : Nat := tokL (s.data.toList.drop i)
def lexA (s : ByteArray) (i : Nat) (o : List ByteArray) : List ByteArray × Int := lexL (s.data.toList.drop i) o
theorem spanA_end {p : UInt8 → Bool} {s : ByteArray} {i : Nat} (h : s.size ≤ i) : spanA p s i = 0 := by
  unfold spanA; rw [front_end s i h]; rfl
theorem spanA_step {p : UInt8 → Bool} {s : ByteArray} {i : Nat} (h : i < s.size) (hp : p s[i] = true) : spanA p s i = spanA p s (i + 1) + 1 := by
  unfold spanA; rw [front_at s i h, spanL, if_pos hp]
theorem spanA_stop {p : UInt8 → Bool} {s : ByteArray} {i : Nat} (h : i < s.size) (hp : p s[i] = false) : spanA p s i = 0 := by
  unfold spanA; rw [front_at s i h, spanL, if_neg (by rw [hp]; simp)]
theorem spanL_le (p : UInt8 → Bool) : ∀ l : List UInt8, spanL p l ≤ l.length
  | [] => Nat.le_refl _
  | c :: r => by
    rw [spanL]; have := spanL_le p r
    split <;> simp <;> omega
theorem spanA_le (p : UInt8 → Bool) (s : ByteArray) (i : Nat) : spanA p s i ≤ s.size - i := by
  have := spanL_le p (s.data.toList.drop i)
  rw [List.length_drop] at this
  simpa [spanA] using this
theorem tokA_let {s : ByteArray} {i : Nat} (h : i < s.size) (hp : letB s[i] = true) : tokA s i = spanA (fun c => letB c || digB c) s (i + 1) + 1 := by
  unfold tokA spanA; rw [front_at s i h, tokL, if_pos hp]
theorem tokA_dig {s : ByteArray} {i : Nat} (h : i < s.size) (h1 : letB s[i] = false) (hp : digB s[i] = true) : tokA s i = spanA digB s (i + 1) + 1 := by
  unfold tokA spanA; rw [front_at s i h, tokL, if_neg (by rw [h1]; simp), if_pos hp]
theorem tokA_sgn {s : ByteArray} {i : Nat} (h : i < s.size) (h1 : letB s[i] = false) (h2 : digB s[i] = false) (h3 : ¬ s[i].toNat = 39) : tokA s i = if sgnB s[i] then 1 else 0 := by
  unfold tokA; rw [front_at s i h, tokL, if_neg (by rw [h1]; simp), if_neg (by rw [h2]; simp), if_neg h3]
theorem drop_get {s : ByteArray} {i k : Nat} : ((s.data.toList.drop i)[k]?).map UInt8.toNat = if h : i + k < s.size then some s[i + k].toNat else none := by
  rw [List.getElem?_drop]
  by_cases h : i + k < s.size
  · rw [dif_pos h]
    have : s.data.toList[i + k]? = some s[i + k] := by
      rw [List.getElem?_eq_getElem (by simpa using h)]; simp only [Array.getElem_toList]; rfl
    rw [this]; rfl
  · rw [dif_neg h, List.getElem?_eq_none (by simpa using h)]; rfl
theorem tokA_quote {s : ByteArray} {i q : Nat} (h : i < s.size) (h1 : letB s[i] = false) (h2 : digB s[i] = false) (h3 : s[i].toNat = 39) (hq : q = i + 1 + spanA letB s (i + 1)) :
    tokA s i = if h : q < s.size then (if s[q].toNat = 39 then q + 1 - i else 0) else 0 := by
  subst hq
  unfold tokA; rw [front_at s i h, tokL, if_neg (by rw [h1]; simp), if_neg (by rw [h2]; simp), if_pos h3, drop_get]
  show (if (if h : i + 1 + spanA letB s (i + 1) < s.size then some s[i + 1 + spanA letB s (i + 1)].toNat else none) = some 39 then spanA letB s (i + 1) + 2 else 0) = _
  by_cases hb : i + 1 + spanA letB s (i + 1) < s.size
  · rw [dif_pos hb, dif_pos hb]
    by_cases hc : s[i + 1 + spanA letB s (i + 1)].toNat = 39
    · rw [if_pos (by rw [hc]), if_pos hc]; omega
    · rw [if_neg (by intro e; injection e with e; exact hc e), if_neg hc]
  · rw [dif_neg hb, dif_neg hb, if_neg (by intro e; cases e)]
theorem tokA_quote_yes {s : ByteArray} {i q : Nat} (h : i < s.size) (h1 : letB s[i] = false) (h2 : digB s[i] = false) (h3 : s[i].toNat = 39) (hq : q = i + 1 + spanA letB s (i + 1)) (hb : q < s.size) (hc : s[q].toNat = 39) : tokA s i = q + 1 - i := by
  rw [tokA_quote h h1 h2 h3 hq, dif_pos hb, if_pos hc]
theorem tokA_quote_no {s : ByteArray} {i q : Nat} (h : i < s.size) (h1 : letB s[i] = false) (h2 : digB s[i] = false) (h3 : s[i].toNat = 39) (hq : q = i + 1 + spanA letB s (i + 1)) (hb : ∀ hb : q < s.size, s[q].toNat ≠ 39) : tokA s i = 0 := by
  rw [tokA_quote h h1 h2 h3 hq]
  split
  · rw [if_neg (hb _)]
  · rfl
theorem tokL_le : ∀ l : List UInt8, tokL l ≤ l.length
  | [] => Nat.le_refl _
  | c :: r => by
    rw [tokL, List.length_cons]
    have a1 := spanL_le (fun c => letB c || digB c) r
    have a2 := spanL_le digB r
    split
    · omega
    split
    · omega
    split
    · split
      · rename_i hh
        have : spanL letB r < r.length := by
          cases hx : r[spanL letB r]? with
          | none => rw [hx] at hh; cases hh
          | some y => exact (List.getElem?_eq_some_iff.1 hx).1
        omega
      · omega
    split <;> omega
theorem tokA_le (s : ByteArray) (i : Nat) : tokA s i ≤ s.size - i := by
  have := tokL_le (s.data.toList.drop i)
  rw [List.length_drop] at this
  simpa [tokA] using this
theorem lexA_end {s : ByteArray} {i : Nat} {o : List ByteArray} (h : s.size ≤ i) : lexA s i o = (o, 0) := by
  unfold lexA; rw [front_end s i h]; unfold lexL; rfl
theorem lexA_blank {s : ByteArray} {i : Nat} {o : List ByteArray} (h : i < s.size) (hb : s[i].toNat = 32) : lexA s i o = lexA s (i + 1) o := by
  unfold lexA; rw [front_at s i h, lexL, if_pos hb]
theorem lexA_form {s : ByteArray} {i : Nat} {o : List ByteArray} (h : i < s.size) (hb : ¬ s[i].toNat = 32) (ht : tokA s i = 0) : lexA s i o = ([], 3) := by
  unfold tokA at ht; unfold lexA; rw [front_at s i h] at ht ⊢; rw [lexL, if_neg hb, dif_pos ht]
theorem lexA_many {s : ByteArray} {i : Nat} {o : List ByteArray} (h : i < s.size) (hb : ¬ s[i].toNat = 32) (ht : ¬ tokA s i = 0) (ho : o.length = 500) : lexA s i o = ([], 6) := by
  unfold tokA at ht; unfold lexA; rw [front_at s i h] at ht ⊢; rw [lexL, if_neg hb, dif_neg ht, if_pos ho]
theorem lexA_tok {s : ByteArray} {i : Nat} {o : List ByteArray} (h : i < s.size) (hb : ¬ s[i].toNat = 32) (ht : ¬ tokA s i = 0) (ho : ¬ o.length = 500) : lexA s i o = lexA s (i + tokA s i) (o ++ [s.extract i (i + tokA s i)]) := by
  have hx : (⟨((s.data.toList.drop i).take (tokA s i)).toArray⟩ : ByteArray) = s.extract i (i + tokA s i) := by
    apply ba_ext; rw [cut_list, Nat.add_sub_cancel_left]
  rw [← hx]
  unfold tokA at ht ⊢; unfold lexA; rw [front_at s i h] at ht ⊢
  rw [lexL, if_neg hb, dif_neg ht, if_neg ho, ← front_at s i h, List.drop_drop]
/-- a text behind its first bytes -/
theorem lexA_cut {s : ByteArray} {i : Nat} {o : List ByteArray} : lexA (s.extract i s.size) 0 o = lexA s i o := by
  unfold lexA; rw [cut_list, List.drop_zero, List.take_of_length_le]
  simp
theorem lexA_nil {s : ByteArray} {o : List ByteArray} (h : s.size = 0) : lexA s 0 o = (o, 0) := lexA_end (by omega)
/-- what LexSql answers -/
def lexV (s : ByteArray) : List ByteArray × Int := if 65536 < s.size then ([], 2) else lexA s 0 []
theorem lexV_long {s : ByteArray} (h : 65536 < s.size) : lexV s = ([], 2) := by unfold lexV; rw [if_pos h]
theorem lexV_short {s : ByteArray} (h : ¬ 65536 < s.size) : lexV s = lexA s 0 [] := by unfold lexV; rw [if_neg h]
theorem lexL_len (n : Nat) : ∀ (l : List UInt8) (o : List ByteArray), l.length ≤ n → o.length ≤ 500 → (lexL l o).1.length ≤ 500 := by
  induction n with
  | zero =>
    intro l o hl ho
    have : l = [] := List.eq_nil_of_length_eq_zero (by omega)
    subst this; unfold lexL; exact ho
  | succ n ih =>
    intro l o hl ho
    cases l with
    | nil => unfold lexL; exact ho
    | cons c r =>
      rw [List.length_cons] at hl
      rw [lexL]
      split
      · exact ih r o (by omega) ho
      split
      · simp
      split
      · simp
      · rename_i h1 h2 h3
        exact ih _ _ (by simp only [List.length_drop, List.length_cons]; omega) (by simp; omega)
theorem lexV_len (s : ByteArray) : (lexV s).1.length ≤ 500 := by
  unfold lexV
  split
  · simp
  · exact lexL_len _ _ _ (Nat.le_refl _) (by simp)
end Go.Proofs.Ythfkfdfcgldbeaa
