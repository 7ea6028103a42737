/- Opening an argument that is a slice of structs of one-cell fields. No program in sight. -/
import Derived.Test.YthfkfdfcgldbeaaOpen
import Derived.Test.YthfkfdfcgldbeaaFlat
import Derived.Deep.Slices
import Derived.Deep.Fields
import Derived.ChangeSame
namespace Go.Proofs.Ythfkfdfcgldbeaa
open Go.ChangeShapes Go.WideShapes Go.ChangeAt Go.RowKit Go.Deep
set_option linter.unusedVariables false
set_option maxRecDepth 100000
theorem list_of {α : Type} {P : Nat → α → Prop} (n : Nat) (h : ∀ i, i < n → ∃ x, P i x) : ∃ l : List α, l.length = n ∧ ∀ i (hi : i < l.length), P i (l[i]'hi) := by
  induction n with
  | zero => exact ⟨[], rfl, fun i hi => absurd hi (Nat.not_lt_zero _)⟩
  | succ n ih =>
    obtain ⟨l, hl, hp⟩ := ih fun i hi => h i (by omega)
    obtain ⟨x, hx⟩ := h n (by omega)
    refine ⟨l ++ [x], by simp [hl], fun i hi => ?_⟩
    rcases Nat.lt_or_ge i l.length with h1 | h1
    · rw [List.getElem_append_left h1]; exact hp i h1
    · have : i = n := by simp at hi; omega
      subst this
      rw [List.getElem_append_right h1]
      simp [hl]; exact hx
section
variable {H : Type} {enc : TypeId × Value → H} {P : Program} {w : World} {base : Nat} {held : Bool}
theorem open_flat {α : Type} {f : α → List Value} {m : Nat} (hf : ∀ x, (f x).length = m) (hm : 0 < m) {t e : TypeId} {fs : Array Field} {fuel : Nat} {A : Option Addr} {n cp : Nat} {x : DataW H × List MemPlace}
    (ht : P.underlying t = some (.slice e)) (he : P.underlying e = some (.struct fs)) (hone : oneCellFields P fs = true) (hC : P.cellsOf e = fs.size) (hfs : fs.size = m) (good : α → Prop)
    (hx : ∀ c : Nat → Value, (∀ (j : Nat) (fd : Field), fs[j]? = some fd → ∃ (k : Nat) (y : DataW H × List MemPlace), DataW.trod enc P w base (fun _ => true) held k fd.type [c j] = some y) → ∃ x : α, good x ∧ ∀ j, j < m → (f x)[j]? = some (c j))
    (h : DataW.trod enc P w base (fun _ => true) held fuel t [.slice A n cp] = some x) :
    ∃ l : List α, l.length = n ∧ n ≤ cp ∧ cp ≤ maxLen ∧ (∀ x ∈ l, good x) ∧ Rd w A (l.flatMap f) := by
  rcases DataW.trod_slice ht h with ⟨h0, _⟩ | ⟨a, len, cap, elems, rest, q, _, h0, _⟩
  · simp at h0
    obtain ⟨rfl, rfl, rfl⟩ := h0
    exact ⟨[], rfl, Nat.le_refl _, Nat.zero_le _, by simp, Rd.nil _ _⟩
  · rcases open_slice ht h with ⟨h1, _⟩ | ⟨a', len', cap', m', n', D, Pl, hcs, hb, hl, hmx, hmm, _, hi⟩
    · rw [h1] at h0; simp at h0
    · simp at hcs
      obtain ⟨rfl, rfl, rfl⟩ := hcs
      simp only [if_true] at hmm
      subst hmm
      have hel : ∀ i, i < n → ∃ x : α, good x ∧ ∀ j u, (f x)[j]? = some u → w.cell? (a'.add (i * m + j)) = some u := by
        intro i hin
        obtain ⟨cs', hc, ht'⟩ := hi i (by omega)
        obtain ⟨ys, k, hk, hy, hlen, hyl, hfd⟩ := DataW.trod_struct he ht'
        rw [hC] at hc
        obtain ⟨_, hcl, hat⟩ := World.cells?_some hc
        obtain ⟨x, hgx, hx⟩ := hx (fun j => cs'.getD j undef) (fun j fd hj => by
          obtain ⟨ho, hk1⟩ := hone_of hone j fd hj
          have hjl : j < fs.size := (Array.getElem?_eq_some_iff.1 hj).1
          have h1 := hfd j fd hj
          rw [ho, hk1] at h1
          have hone' : (cs'.drop j).take 1 = [cs'.getD j undef] := by
            rw [List.drop_eq_getElem_cons (by omega), List.getD_eq_getElem?_getD, List.getElem?_eq_getElem (by omega)]
            rfl
          rw [hone'] at h1
          have hys : ys[j]? = some (ys[j]'(by omega)) := List.getElem?_eq_getElem (by omega)
          exact ⟨_, _, h1.trans hys⟩)
        refine ⟨x, hgx, fun j u hu => ?_⟩
        have hj : j < m := by rw [← hf x]; exact (List.getElem?_eq_some_iff.1 hu).1
        have h2 := hx j hj
        rw [hu] at h2
        injection h2 with h2
        have hcell := hat j (by omega)
        rw [← hfs, ← Go.Deep.add_add, hcell, h2, List.getD_eq_getElem?_getD, List.getElem?_eq_getElem (by omega)]
        rfl
      obtain ⟨l, hl2, hp⟩ := list_of n hel
      refine ⟨l, hl2, hl, hmx, fun x hx => ?_, ?_⟩
      · obtain ⟨i, hi, rfl⟩ := List.getElem_of_mem hx
        exact (hp i hi).1
      · intro hne
        have h0l : 0 < l.length := by
          cases l with
          | nil => simp at hne
          | cons _ _ => simp
        have hx0 : 0 < (f l[0]).length := by rw [hf]; exact hm
        have hs := plain_of_cell (a := a') (by simpa using (hp 0 h0l).2 0 _ (List.getElem?_eq_getElem hx0))
        refine ⟨a'.block, a'.off, by obtain ⟨b, o, s⟩ := a'; simp at hs; subst hs; rfl, fun j u hu => ?_⟩
        have hjl : j < l.length * m := by rw [← flat_len hf]; exact (List.getElem?_eq_some_iff.1 hu).1
        have hdi : j / m < l.length := (Nat.div_lt_iff_lt_mul hm).2 hjl
        have hdm : j / m * m + j % m = j := by rw [Nat.mul_comm]; exact Nat.div_add_mod j m
        have h3 := flat_at hf l (j / m) (j % m) hdi (Nat.mod_lt _ hm)
        rw [hdm, hu] at h3
        have h4 := (hp (j / m) hdi).2 (j % m) u h3.symm
        rw [hdm, add_plain' hs] at h4
        exact h4
end
end Go.Proofs.Ythfkfdfcgldbeaa
