/- Opening an argument that is an expression. -/
import Derived.Test.YthfkfdfcgldbeaaStructs
import Derived.Test.YthfkfdfcgldbeaaOpenFlat
import Derived.Test.YthfkfdfcgldbeaaOpenRow
import Derived.Test.YthfkfdfcgldbeaaFlatExprNode
import Derived.Lib.SmallJoins
namespace Go.Proofs.Ythfkfdfcgldbeaa
open Go.ChangeShapes Go.WideShapes Go.ChangeAt Go.RowKit Go.Joins Go.Deep
set_option linter.unusedVariables false
set_option maxRecDepth 100000
section
variable {H : Type} {enc : TypeId × Value → H} {P : Program} {w : World} {base : Nat} {held : Bool} {r : Reach} {b0 : Nat}
theorem open_flatG {α : Type} {f : α → List Value} {m : Nat} (hf : ∀ x, (f x).length = m) (hm : 0 < m) {t e : TypeId} {fuel : Nat} {A : Option Addr} {n cp : Nat} {x : DataW H × List MemPlace}
    (ht : P.underlying t = some (.slice e)) (hC : P.cellsOf e = m) (good : α → Prop)
    (hx : ∀ (cs : List Value), cs.length = m → ∀ (k : Nat) (y : DataW H × List MemPlace), DataW.trod enc P w base (fun _ => true) held k e cs = some y → ∃ x : α, good x ∧ f x = cs)
    (h : DataW.trod enc P w base (fun _ => true) held fuel t [.slice A n cp] = some x) :
    ∃ l : List α, l.length = n ∧ n ≤ cp ∧ cp ≤ maxLen ∧ (∀ x ∈ l, good x) ∧ Rd w A (l.flatMap f) := by
  rcases DataW.trod_slice ht h with ⟨h0, _⟩ | ⟨a, len, cap, elems, rest, q, _, h0, _⟩
  · simp at h0
    obtain ⟨rfl, rfl, rfl⟩ := h0
    exact ⟨[], rfl, Nat.le_refl _, Nat.zero_le _, by simp, Rd.nil _ _⟩
  · rcases open_slice ht h with ⟨h1, _⟩ | ⟨a', len', cap', m', n', D, Pl, hcs, hb, hl, hmx, hmm, _, hi⟩
    · rw [h1] at h0; simp at h0
    · simp at hcs
      obtain ⟨rfl, rfl, rfl⟩ := hcs
      simp only [if_true] at hmm
      subst hmm
      have hel : ∀ i, i < n → ∃ x : α, good x ∧ ∀ j u, (f x)[j]? = some u → w.cell? (a'.add (i * m + j)) = some u := by
        intro i hin
        obtain ⟨cs', hc, ht'⟩ := hi i (by omega)
        rw [hC] at hc
        obtain ⟨_, hcl, hat⟩ := World.cells?_some hc
        obtain ⟨x, hgx, hx⟩ := hx cs' hcl _ _ ht'
        refine ⟨x, hgx, fun j u hu => ?_⟩
        have hj : j < m := by rw [← hf x]; exact (List.getElem?_eq_some_iff.1 hu).1
        rw [hx] at hu
        have hcell := hat j (by omega)
        rw [← Go.Deep.add_add, hcell]
        exact hu
      obtain ⟨l, hl2, hp⟩ := list_of n hel
      refine ⟨l, hl2, hl, hmx, fun x hx => ?_, ?_⟩
      · obtain ⟨i, hi, rfl⟩ := List.getElem_of_mem hx
        exact (hp i hi).1
      · intro hne
        have h0l : 0 < l.length := by
          cases l with
          | nil => simp at hne
          | cons _ _ => simp
        have hx0 : 0 < (f l[0]).length := by rw [hf]; exact hm
        have hs := plain_of_cell (a := a') (by simpa using (hp 0 h0l).2 0 _ (List.getElem?_eq_getElem hx0))
        refine ⟨a'.block, a'.off, by obtain ⟨b, o, s⟩ := a'; simp at hs; subst hs; rfl, fun j u hu => ?_⟩
        have hjl : j < l.length * m := by rw [← flat_len hf]; exact (List.getElem?_eq_some_iff.1 hu).1
        have hdi : j / m < l.length := (Nat.div_lt_iff_lt_mul hm).2 hjl
        have hdm : j / m * m + j % m = j := by rw [Nat.mul_comm]; exact Nat.div_add_mod j m
        have h3 := flat_at hf l (j / m) (j % m) hdi (Nat.mod_lt _ hm)
        rw [hdm, hu] at h3
        have h4 := (hp (j / m) hdi).2 (j % m) u h3.symm
        rw [hdm, add_plain' hs] at h4
        exact h4
set_option maxRecDepth 100000 in
theorem open_ExprNodeS_f {fuel : Nat} {A : Option Addr} {n cp : Nat} {x : DataW H × List MemPlace} (h : DataW.trod enc Try.prog w base (fun _ => true) held fuel 47 [.slice A n cp] = some x) :
    ∃ l : List CExprNode, l.length = n ∧ n ≤ cp ∧ cp ≤ maxLen ∧ (∀ x ∈ l, x.s.size ≤ maxLen) ∧ Rd w A (l.flatMap CExprNode.cs) :=
  open_flatG CExprNode.len (by decide) Try.underlying47 (by kernel_rfl) (fun x => x.s.size ≤ maxLen) (fun cs hl k y hy => by
    match cs, hl with
    | [c0, c1, c2, c3, c4, c5, c6], _ =>
      obtain ⟨ys, n', hn', hy', hlen, hyl, hg⟩ := DataW.trod_struct Try.underlying153 hy
      have g0 : DataW.trod enc Try.prog w base (fun _ => true) held n' 3 (List.take (Try.prog.cellsOf 3) (List.drop 0 [c0, c1, c2, c3, c4, c5, c6])) = ys[0]? := hg 0 _ rfl
      have g1 : DataW.trod enc Try.prog w base (fun _ => true) held n' 3 (List.take (Try.prog.cellsOf 3) (List.drop 1 [c0, c1, c2, c3, c4, c5, c6])) = ys[1]? := hg 1 _ rfl
      have g2 : DataW.trod enc Try.prog w base (fun _ => true) held n' 3 (List.take (Try.prog.cellsOf 3) (List.drop 2 [c0, c1, c2, c3, c4, c5, c6])) = ys[2]? := hg 2 _ rfl
      have g3 : DataW.trod enc Try.prog w base (fun _ => true) held n' 3 (List.take (Try.prog.cellsOf 3) (List.drop 3 [c0, c1, c2, c3, c4, c5, c6])) = ys[3]? := hg 3 _ rfl
      have g4 : DataW.trod enc Try.prog w base (fun _ => true) held n' 23 (List.take (Try.prog.cellsOf 23) (List.drop 4 [c0, c1, c2, c3, c4, c5, c6])) = ys[4]? := hg 4 _ rfl
      rw [show Try.prog.cellsOf 3 = 1 by kernel_rfl] at g0 g1 g2 g3
      rw [show Try.prog.cellsOf 23 = 3 by kernel_rfl] at g4
      have hl2 : ys.length = 5 := hyl
      match ys, hl2 with
      | [y0, y1, y2, y3, y4], _ =>
        obtain ⟨z0, e0, _, w0⟩ := DataW.trod_int Try.underlying3 (show DataW.trod enc Try.prog w base (fun _ => true) held n' 3 [c0] = some y0 from g0)
        obtain ⟨z1, e1, _, w1⟩ := DataW.trod_int Try.underlying3 (show DataW.trod enc Try.prog w base (fun _ => true) held n' 3 [c1] = some y1 from g1)
        obtain ⟨z2, e2, _, w2⟩ := DataW.trod_int Try.underlying3 (show DataW.trod enc Try.prog w base (fun _ => true) held n' 3 [c2] = some y2 from g2)
        obtain ⟨z3, e3, _, w3⟩ := DataW.trod_int Try.underlying3 (show DataW.trod enc Try.prog w base (fun _ => true) held n' 3 [c3] = some y3 from g3)
        obtain ⟨k1, i1, s1, f1, f2, f3, _, _, hs⟩ := open_valueCells (show DataW.trod enc Try.prog w base (fun _ => true) held n' 23 [c4, c5, c6] = some y4 from g4)
        have e0 := (List.cons.inj e0).1
        have e1 := (List.cons.inj e1).1
        have e2 := (List.cons.inj e2).1
        have e3 := (List.cons.inj e3).1
        subst e0; subst e1; subst e2; subst e3; subst f1; subst f2; subst f3
        exact ⟨⟨z0, z1, z2, z3, k1, i1, s1⟩, hs, rfl⟩) h
theorem cells_Expr : Try.prog.cellsOf 49 = 1 := by kernel_rfl
set_option maxRecDepth 100000 in
theorem open_Expr {v : Value} {d : DataW H} {p : List MemPlace} (hv : Value.okWide Try.prog w r b0 49 v) (h : DataW.Trod enc Try.prog w base (fun _ => true) held 49 v d p) :
    ∃ (Ae : Option Addr) (ne pe : Nat) (le : List CExprNode), v = .agg #[.slice Ae ne pe] ∧ le.length = ne ∧ ne ≤ pe ∧ pe ≤ maxLen ∧ (∀ x ∈ le, x.s.size ≤ maxLen) ∧ Rd w Ae (le.flatMap CExprNode.cs) := by
  obtain ⟨cs, rfl, hsz⟩ := okWide_struct Try.underlying49 hv
  obtain ⟨l⟩ := cs
  have hl : l.length = 1 := hsz.trans cells_Expr
  match l, hl with
  | [c0], _ =>
    obtain ⟨fuel, hf⟩ := h
    obtain ⟨ys, n', hn', hy, hlen, hyl, hg⟩ := DataW.trod_struct Try.underlying49 hf
    have g0 : DataW.trod enc Try.prog w base (fun _ => true) held n' 47 (List.take (Try.prog.cellsOf 47) (List.drop 0 [c0])) = ys[0]? := hg 0 _ rfl
    rw [show Try.prog.cellsOf 47 = 1 by kernel_rfl] at g0
    have hl2 : ys.length = 1 := hyl
    match ys, hl2 with
    | [y0], _ =>
      have g0 := (show DataW.trod enc Try.prog w base (fun _ => true) held n' 47 [c0] = some y0 from g0)
      obtain ⟨Ae, ne, pe, e⟩ : ∃ A n cp, c0 = .slice A n cp := by
        rcases DataW.trod_slice Try.underlying47 g0 with ⟨h0, _⟩ | ⟨a, len, cap, elems, rest, q, _, h0, _⟩
        · exact ⟨none, 0, 0, (List.cons.inj h0).1⟩
        · exact ⟨some a, len, cap, (List.cons.inj h0).1⟩
      subst e
      obtain ⟨le, q1, q2, q3, q4, q5⟩ := open_ExprNodeS_f g0
      exact ⟨Ae, ne, pe, le, rfl, q1, q2, q3, q4, q5⟩
end
end Go.Proofs.Ythfkfdfcgldbeaa
