/- Taking elements out of a row in place. No program in sight. -/
import Derived.Test.YtnbfjkebakaigaaFlat
import Derived.Test.YtnbfjkebakaigaaTextFuncs
import Derived.Laws.AppendOwn
import Derived.Tactics
namespace Go.Proofs.Ytnbfjkebakaigaa
open Go.RowKit
set_option linter.unusedVariables false
set_option maxRecDepth 100000
theorem gr_trans {w w1 w2 : World} {row : Option Nat} (h : w.grownBy w1 row) (k : w1.grownBy w2 row) : w.grownBy w2 row :=
  ⟨k.os.trans h.os, k.tape.trans h.tape, k.output.trans h.output, Nat.le_trans h.size k.size, fun i hi hne => (k.block i (Nat.lt_of_lt_of_le hi h.size) hne).trans (h.block i hi hne)⟩
theorem gr_ext {w w' : World} {row : Option Nat} (h : Ext w w') : w.grownBy w' row :=
  ⟨h.os, h.tape, h.output, h.size, fun k hk _ => Below.block h k hk⟩
theorem gr_set (w : World) (b i : Nat) (u : Value) : w.grownBy (w.setCell ⟨b, i, none⟩ u) (some b) :=
  ⟨rfl, rfl, rfl, by simp, fun k hk hne => Below.heap_setCell w _ u k (fun e => hne (by rw [e]))⟩
theorem gr_setRow (w : World) (b : Nat) (cs : Array Value) : w.grownBy (w.setRow b cs) (some b) :=
  ⟨rfl, rfl, rfl, by simp, fun k _ hk => setRow_other w b k _ (fun e => hk (by rw [e]))⟩
theorem rd_pre {w : World} {A : Option Addr} {xs ys : List Value} (h : Rd w A (xs ++ ys)) : Rd w A xs := by
  intro hne
  obtain ⟨b, o, e, hc⟩ := h (by intro e; exact hne (List.append_eq_nil_iff.1 e).1)
  exact ⟨b, o, e, fun j u hu => hc j u (by rw [List.getElem?_append_left (List.getElem?_eq_some_iff.1 hu).1, hu])⟩
section
variable {α : Type} {f : α → List Value} {m : Nat} {T : TypeId} {p : α → Bool}
/-- between two rounds: j elements have been looked at, i of them stay -/
def DelAt (f : α → List Value) (m : Nat) (T : TypeId) (p : α → Bool) (b : Nat) (l : List α) (sp : List Value) (tot : Nat) (W : World) (i j : Nat) : Prop :=
  i < j ∧ j ≤ l.length ∧ ((l.take j).filter fun x => !p x).length = i ∧ ∃ M, M.length = (j - i) * m ∧ Blk W b T (((l.take j).filter fun x => !p x).flatMap f ++ (M ++ ((l.drop j).flatMap f ++ sp))) ∧ (((l.take j).filter fun x => !p x).flatMap f ++ (M ++ ((l.drop j).flatMap f ++ sp))).length = tot
theorem filter_pre {l : List α} {k : Nat} (hk : k < l.length) (hpk : p l[k] = true) (hb : ∀ j, (hj : j < l.length) → j < k → p (l[j]'hj) = false) : ((l.take (k + 1)).filter fun x => !p x) = l.take k := by
  rw [List.take_succ_eq_append_getElem hk, List.filter_append, List.filter_eq_self.2, List.filter_cons]
  · simp [hpk]
  · intro x hx
    obtain ⟨j, hj, rfl⟩ := List.getElem_of_mem hx
    rw [List.length_take] at hj
    rw [List.getElem_take, hb j (by omega) (by omega)]; rfl
theorem DelAt.start {b : Nat} {l : List α} {sp : List Value} {W : World} {k : Nat} (hf : ∀ x, (f x).length = m) (hk : k < l.length) (hpk : p l[k] = true) (hb : ∀ j, (hj : j < l.length) → j < k → p (l[j]'hj) = false)
    (hB : Blk W b T (l.flatMap f ++ sp)) : DelAt f m T p b l sp (l.flatMap f ++ sp).length W k (k + 1) := by
  have e := filter_pre hk hpk hb
  have hsp : l.flatMap f ++ sp = (l.take k).flatMap f ++ (f l[k] ++ ((l.drop (k + 1)).flatMap f ++ sp)) := by
    have h1 : l = l.take k ++ (l[k] :: l.drop (k + 1)) := by rw [← List.drop_eq_getElem_cons hk, List.take_append_drop]
    have h2 : l.flatMap f = (l.take k ++ (l[k] :: l.drop (k + 1))).flatMap f := congrArg _ h1
    rw [h2, List.flatMap_append, List.flatMap_cons]
    simp only [List.append_assoc]
  refine ⟨Nat.lt_succ_self k, hk, by rw [e, List.length_take]; omega, f l[k], by rw [hf, Nat.add_sub_cancel_left, Nat.one_mul], ?_, ?_⟩
  · rw [e, ← hsp]; exact hB
  · rw [e, ← hsp]
theorem DelAt.skip {b i j tot : Nat} {l : List α} {sp : List Value} {W : World} (hf : ∀ x, (f x).length = m) (h : DelAt f m T p b l sp tot W i j) (hj : j < l.length) (hp : p l[j] = true) : DelAt f m T p b l sp tot W i (j + 1) := by
  obtain ⟨h1, h2, h3, M, h4, h5, h6⟩ := h
  have e : ((l.take (j + 1)).filter fun x => !p x) = ((l.take j).filter fun x => !p x) := by
    rw [List.take_succ_eq_append_getElem hj, List.filter_append, List.filter_cons]; simp [hp]
  have hd : (l.drop j).flatMap f = f l[j] ++ (l.drop (j + 1)).flatMap f := by rw [List.drop_eq_getElem_cons hj, List.flatMap_cons]
  rw [hd] at h5 h6
  refine ⟨by omega, hj, by rw [e]; exact h3, M ++ f l[j], ?_, ?_, ?_⟩
  · rw [List.length_append, h4, hf, show j + 1 - i = (j - i) + 1 from by omega, Nat.succ_mul]
  · rw [e]; simpa only [List.append_assoc] using h5
  · rw [e]; simpa only [List.append_assoc] using h6
/-- the element looked at, and what is written over -/
theorem DelAt.parts {b i j tot : Nat} {l : List α} {sp : List Value} {W : World} (hf : ∀ x, (f x).length = m) (h : DelAt f m T p b l sp tot W i j) (hj : j < l.length) :
    ∃ F N M, F.length = i * m ∧ N.length = m ∧ F = ((l.take j).filter fun x => !p x).flatMap f ∧ M.length = (j - i - 1) * m ∧
      Blk W b T (F ++ (N ++ (M ++ (f l[j] ++ ((l.drop (j + 1)).flatMap f ++ sp))))) ∧ (F ++ (N ++ (M ++ (f l[j] ++ ((l.drop (j + 1)).flatMap f ++ sp))))).length = tot := by
  obtain ⟨h1, h2, h3, M, h4, h5, h6⟩ := h
  have hd : (l.drop j).flatMap f = f l[j] ++ (l.drop (j + 1)).flatMap f := by rw [List.drop_eq_getElem_cons hj, List.flatMap_cons]
  have hm : m ≤ M.length := by rw [h4]; exact Nat.le_mul_of_pos_left m (by omega)
  have hM : M = M.take m ++ M.drop m := (List.take_append_drop m M).symm
  rw [hd, hM] at h5 h6
  simp only [List.append_assoc] at h5 h6
  refine ⟨_, M.take m, M.drop m, ?_, by rw [List.length_take]; omega, rfl, ?_, h5, h6⟩
  · rw [flat_len hf, h3]
  · rw [List.length_drop, h4, Nat.sub_mul (j - i) 1 m, Nat.one_mul]
theorem DelAt.keep {b i j tot : Nat} {l : List α} {sp : List Value} {W : World} {F N M : List Value} (hf : ∀ x, (f x).length = m) (hij : i < j) (hj : j < l.length) (hp : p l[j] = false) (hi : ((l.take j).filter fun x => !p x).length = i)
    (hF : F = ((l.take j).filter fun x => !p x).flatMap f) (hN : N.length = m) (hM : M.length = (j - i - 1) * m) (ht : (F ++ (N ++ (M ++ (f l[j] ++ ((l.drop (j + 1)).flatMap f ++ sp))))).length = tot)
    (hB : Blk W b T (F ++ (f l[j] ++ (M ++ (f l[j] ++ ((l.drop (j + 1)).flatMap f ++ sp)))))) : DelAt f m T p b l sp tot W (i + 1) (j + 1) := by
  have e : ((l.take (j + 1)).filter fun x => !p x) = ((l.take j).filter fun x => !p x) ++ [l[j]] := by
    rw [List.take_succ_eq_append_getElem hj, List.filter_append, List.filter_cons]; simp [hp]
  refine ⟨by omega, hj, by rw [e, List.length_append, hi]; rfl, M ++ f l[j], ?_, ?_, ?_⟩
  · rw [List.length_append, hM, hf, show j + 1 - (i + 1) = (j - i - 1) + 1 from by omega, Nat.succ_mul]
  · rw [e, List.flatMap_append, ← hF]
    simpa only [List.append_assoc, List.flatMap_cons, List.flatMap_nil, List.append_nil] using hB
  · rw [e, List.flatMap_append, ← hF, ← ht]
    simp only [List.append_assoc, List.flatMap_cons, List.flatMap_nil, List.append_nil, List.length_append, hf, hN]
theorem DelAt.grow {b i j tot : Nat} {l : List α} {sp : List Value} {W W' : World} (h : DelAt f m T p b l sp tot W i j) (E : Ext W W') : DelAt f m T p b l sp tot W' i j := by
  obtain ⟨h1, h2, h3, M, h4, h5, h6⟩ := h
  exact ⟨h1, h2, h3, M, h4, h5.ext E, h6⟩
theorem DelAt.done {b i j tot : Nat} {l : List α} {sp : List Value} {W : World} (h : DelAt f m T p b l sp tot W i j) (hj : l.length ≤ j) :
    (l.filter fun x => !p x).length = i ∧ ∃ c, Blk W b T ((l.filter fun x => !p x).flatMap f ++ c) ∧ ((l.filter fun x => !p x).flatMap f ++ c).length = tot := by
  obtain ⟨h1, h2, h3, M, h4, h5, h6⟩ := h
  rw [List.take_of_length_le hj] at h3 h5 h6
  exact ⟨h3, _, h5, h6⟩
end
/-- what DeleteFunc leaves -/
def DelPost {α : Type} (f : α → List Value) (T : TypeId) (p : α → Bool) (b n cap tot : Nat) (l : List α) (w : World) (e : Ending) (w' : World) : Prop :=
  ∃ m c, e = .returned (.slice (some ⟨b, 0, none⟩) m cap) ∧ (l.filter fun x => !p x).length = m ∧ m ≤ n ∧ Blk w' b T ((l.filter fun x => !p x).flatMap f ++ c) ∧ ((l.filter fun x => !p x).flatMap f ++ c).length = tot ∧ w.grownBy w' (some b)
theorem DelPost.of {α : Type} {f : α → List Value} {T : TypeId} {p : α → Bool} {b n cap tot m : Nat} {l : List α} {w w' : World} {c : List Value} (h1 : (l.filter fun x => !p x).length = m) (h2 : m ≤ n) (h3 : Blk w' b T ((l.filter fun x => !p x).flatMap f ++ c)) (h4 : ((l.filter fun x => !p x).flatMap f ++ c).length = tot) (h5 : w.grownBy w' (some b)) :
    DelPost f T p b n cap tot l w (.returned (.slice (some ⟨b, 0, none⟩) m cap)) w' := ⟨m, c, rfl, h1, h2, h3, h4, h5⟩
theorem DelPost.all {α : Type} {f : α → List Value} {T : TypeId} {p : α → Bool} {b n cap tot : Nat} {l : List α} {w w' : World} {c : List Value} (h0 : (l.filter fun x => !p x) = l) (h1 : l.length = n) (h3 : Blk w' b T (l.flatMap f ++ c)) (h4 : (l.flatMap f ++ c).length = tot) (h5 : w.grownBy w' (some b)) :
    DelPost f T p b n cap tot l w (.returned (.slice (some ⟨b, 0, none⟩) n cap)) w' := ⟨n, c, rfl, by rw [h0]; exact h1, Nat.le_refl _, by rw [h0]; exact h3, by rw [h0]; exact h4, h5⟩
attribute [irreducible] DelPost
/-- clear of the tail of a row -/
theorem run_clear_tail {P : Program} (t e ty : TypeId) (z : Value) (sz : Nat) (ht : P.underlying t = some (.slice e)) (hv : ∀ w, (zeroValue e).run P w = .ok z w) (hsz : z.cells.size = sz) (h1 : ∀ u ∈ z.cells.toList, u.oneCell' = true)
    (w : World) (b o n c : Nat) (cs : List Value) (hB : Blk w b e cs) (hn : 0 < n) (hfit : o + n * sz ≤ cs.length) :
    (Builtin.clear_ #[t] ty #[.slice (some ⟨b, o, none⟩) n c]).run P w = .ok (.tuple #[]) (w.setRow b (cs.take o ++ (Builtin.zeroCells z.cells n).toList ++ cs.drop (o + n * sz)).toArray) := by
  have hz : (Builtin.zeroCells z.cells n).toList.length = n * sz := by rw [Array.length_toList, size_zeroCells, hsz]
  have hone : ∀ u ∈ (Builtin.zeroCells z.cells n).toList, u.oneCell' = true := by
    intro u hu
    unfold Builtin.zeroCells at hu
    rw [Array.toList_map] at hu
    obtain ⟨i, hi, rfl⟩ := List.mem_map.1 hu
    have hi' : i < n * z.cells.size := by simpa using hi
    have hpos : 0 < z.cells.size := by
      rcases Nat.eq_zero_or_pos z.cells.size with h | h
      · rw [h] at hi'; omega
      · exact h
    have hlt : i % z.cells.size < z.cells.size := Nat.mod_lt _ hpos
    rw [getElem!_pos z.cells _ hlt]
    exact h1 _ (by simp)
  have hst := run_storeCells_at P b o e (Builtin.zeroCells z.cells n).toList 0 cs.toArray w hB (by rw [Nat.add_zero, hz]; simpa using hfit) hone
  simp only [Nat.add_zero, hz] at hst
  obtain ⟨k, rfl⟩ : ∃ k, n = k + 1 := ⟨n - 1, by omega⟩
  simp [Builtin.clear_, run_underlying ht, hv, hst]
theorem run_clear_after {P : Program} (t e : TypeId) (z : Value) (sz : Nat) (ht : P.underlying t = some (.slice e)) (hv : ∀ w, (zeroValue e).run P w = .ok z w) (hsz : z.cells.size = sz) (h1 : ∀ u ∈ z.cells.toList, u.oneCell' = true)
    (w : World) (b o n c : Nat) (F cs : List Value) (hF : F.length = o) (hB : Blk w b e (F ++ cs)) (hn : 0 < n) (hfit : o + n * sz ≤ (F ++ cs).length) :
    ∃ c' w', (F ++ c').length = (F ++ cs).length ∧ (∀ ty, (Builtin.clear_ #[t] ty #[.slice (some ⟨b, o, none⟩) n c]).run P w = .ok (.tuple #[]) w') ∧ Blk w' b e (F ++ c') ∧ w.grownBy w' (some b) := by
  have hz : (Builtin.zeroCells z.cells n).toList.length = n * sz := by rw [Array.length_toList, size_zeroCells, hsz]
  have e1 : (F ++ cs).take o = F := by rw [List.take_left' hF]
  refine ⟨(Builtin.zeroCells z.cells n).toList ++ (F ++ cs).drop (o + n * sz), w.setRow b (F ++ ((Builtin.zeroCells z.cells n).toList ++ (F ++ cs).drop (o + n * sz))).toArray, ?_, fun ty => ?_, ?_, gr_setRow w b _⟩
  · rw [List.length_append, List.length_append, hz, List.length_drop]; omega
  · have h := run_clear_tail (P := P) t e ty z sz ht hv hsz h1 w b o n c (F ++ cs) hB hn hfit
    rw [h, e1, List.append_assoc]
  · exact setRow_heap w b (F ++ cs).toArray _ e (0, 0) hB
end Go.Proofs.Ytnbfjkebakaigaa
