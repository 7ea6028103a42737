/- Slices of structs: what it is to read as a list of structs of m cells each. No program in sight. -/
import Derived.Test.YthfkfdfcgldbeaaConv
import Derived.Laws.MakeOwn
namespace Go.Proofs.Ythfkfdfcgldbeaa
open Go.RowKit
set_option linter.unusedVariables false
set_option maxRecDepth 100000
section
variable {α : Type} {f : α → List Value} {m : Nat}
theorem flat_len (hf : ∀ x, (f x).length = m) (l : List α) : (l.flatMap f).length = l.length * m := by
  induction l with
  | nil => simp
  | cons x r ih => rw [List.flatMap_cons, List.length_append, hf, ih, List.length_cons, Nat.succ_mul, Nat.add_comm]
theorem flat_at (hf : ∀ x, (f x).length = m) (l : List α) (i j : Nat) (hi : i < l.length) (hj : j < m) : (l.flatMap f)[i * m + j]? = (f (l[i]'hi))[j]? := by
  induction l generalizing i with
  | nil => simp at hi
  | cons x r ih =>
    rw [List.flatMap_cons]
    cases i with
    | zero =>
      simp only [Nat.zero_mul, Nat.zero_add, List.getElem_cons_zero]
      rw [List.getElem?_append_left (by rw [hf]; exact hj)]
    | succ i =>
      rw [List.getElem?_append_right (by rw [hf, Nat.succ_mul]; omega), hf, show (i + 1) * m + j - m = i * m + j from by rw [Nat.succ_mul]; omega, ih i (by simpa using hi)]
      rfl
theorem flat_ne (hf : ∀ x, (f x).length = m) (hm : 0 < m) {l : List α} (h : 0 < l.length) : l.flatMap f ≠ [] := by
  intro e
  have h1 := flat_len hf l
  rw [e] at h1
  have h2 : 0 < l.length * m := Nat.mul_pos h hm
  simp at h1; omega
/-- the cells of element i of a slice that reads as structs -/
theorem Rd.flat {w : World} {A : Option Addr} {l : List α} (hf : ∀ x, (f x).length = m) (hm : 0 < m) (h : Rd w A (l.flatMap f)) {i : Nat} (hi : i < l.length) :
    ∃ b o, A = some ⟨b, o, none⟩ ∧ ∀ j u, (f l[i])[j]? = some u → w.cell? ⟨b, o + (i * m + j), none⟩ = some u := by
  obtain ⟨b, o, e, hc⟩ := h (flat_ne hf hm (by omega))
  refine ⟨b, o, e, fun j u hu => hc _ u ?_⟩
  have hj : j < m := by rw [← hf l[i]]; exact (List.getElem?_eq_some_iff.1 hu).1
  rw [flat_at hf l i j hi hj, hu]
/-- the first ones alone -/
theorem Rd.take_flat {w : World} {A : Option Addr} {l : List α} {k : Nat} (h : Rd w A (l.flatMap f)) : Rd w A ((l.take k).flatMap f) := by
  intro hne
  have hsp : l.flatMap f = (l.take k).flatMap f ++ (l.drop k).flatMap f := by rw [← List.flatMap_append, List.take_append_drop]
  have hl : l.flatMap f ≠ [] := by
    intro e; rw [hsp] at e; exact hne (List.append_eq_nil_iff.1 e).1
  obtain ⟨b, o, e, hc⟩ := h hl
  refine ⟨b, o, e, fun j u hu => hc j u ?_⟩
  rw [hsp, List.getElem?_append_left (List.getElem?_eq_some_iff.1 hu).1, hu]
theorem set_mid (a b c : List Value) (k j : Nat) (u : Value) (ha : a.length = k) (hj : j < b.length) : (a ++ (b ++ c)).set (k + j) u = a ++ (b.set j u ++ c) := by
  rw [List.set_append, if_neg (by omega), ha, Nat.add_sub_cancel_left, List.set_append, if_pos hj]
/-- what a copying loop has made after k rounds -/
def fillF (f : α → List Value) (z : List Value) (l : List α) (k n : Nat) : List Value := (l.take k).flatMap f ++ (List.replicate (n - k) z).flatten
theorem fillF_zero (z : List Value) (l : List α) (n : Nat) : fillF f z l 0 n = (List.replicate n z).flatten := by simp [fillF]
theorem fillF_head (z : List Value) (l : List α) (k n : Nat) (hk : k < n) : fillF f z l k n = (l.take k).flatMap f ++ (z ++ (List.replicate (n - (k + 1)) z).flatten) := by
  obtain ⟨q, hq⟩ : ∃ q, n - k = q + 1 := ⟨n - k - 1, by omega⟩
  unfold fillF
  rw [hq, show n - (k + 1) = q from by omega, List.replicate_succ, List.flatten_cons]
theorem fillF_step (z : List Value) (l : List α) (k n : Nat) (hk : k < l.length) : fillF f z l (k + 1) n = (l.take k).flatMap f ++ (f (l[k]'hk) ++ (List.replicate (n - (k + 1)) z).flatten) := by
  unfold fillF
  rw [List.take_succ_eq_append_getElem hk, List.flatMap_append, List.append_assoc]
  simp
theorem fillF_done (z : List Value) (l : List α) (n : Nat) (hn : l.length = n) : fillF f z l n n = l.flatMap f := by
  unfold fillF
  rw [Nat.sub_self, List.take_of_length_le (by omega)]; simp
theorem fillF_pre (hf : ∀ x, (f x).length = m) (l : List α) (k : Nat) (hk : k ≤ l.length) : ((l.take k).flatMap f).length = k * m := by
  rw [flat_len hf, List.length_take, Nat.min_eq_left hk]
/-- the zero cells that make lays -/
theorem made_flat (z : Array Value) (n : Nat) : (madeCells z (n * z.size)).toList = (List.replicate n z.toList).flatten := by
  rcases Nat.eq_zero_or_pos z.size with h0 | h0
  · have : z = #[] := Array.eq_empty_of_size_eq_zero h0
    subst this
    simp [madeCells]
  apply List.ext_getElem?
  intro i
  have hl : ∀ k, ((List.replicate k z.toList).flatten).length = k * z.size := by
    intro k; simp [List.length_flatten]
  induction n generalizing i with
  | zero => simp [madeCells]
  | succ n ih =>
    rw [List.replicate_succ, List.flatten_cons]
    rcases Nat.lt_or_ge i z.size with h | h
    · rw [List.getElem?_append_left (by simpa using h)]
      have h2 : i < (n + 1) * z.size := by rw [Nat.succ_mul]; omega
      simp [madeCells, h2, Nat.mod_eq_of_lt h, h]
    · rw [List.getElem?_append_right (by simpa using h), Array.length_toList, ← ih (i - z.size)]
      simp only [madeCells, Array.toList_map, List.getElem?_map, Array.toList_range]
      by_cases h2 : i < (n + 1) * z.size
      · have h3 : i - z.size < n * z.size := by rw [Nat.succ_mul] at h2; omega
        rw [List.getElem?_range h2, List.getElem?_range h3]
        simp only [Option.map_some]
        rw [Nat.mod_eq_sub_mod h]
      · have h3 : ¬ i - z.size < n * z.size := by rw [Nat.succ_mul] at h2; omega
        rw [List.getElem?_eq_none (by simpa using h2), List.getElem?_eq_none (by simpa using h3)]
theorem Blk.madeF (w : World) (t : TypeId) (z : Array Value) (n q : Nat) (hq : n * z.size = q) : Blk (w.alloc (.cells (madeCells z q) t)) w.heap.size t ((List.replicate n z.toList).flatten) := by
  rw [← made_flat, hq]; exact heap_alloc_new w _
theorem Blk.mid {w : World} {b : Nat} {t : TypeId} {a x c : List Value} {k : Nat} (h : Blk w b t (a ++ (x ++ c))) (ha : a.length = k) {j : Nat} (hj : j < x.length) : w.cell? ⟨b, k + j, none⟩ = some x[j] := by
  have hl : k + j < (a ++ (x ++ c)).length := by simp; omega
  rw [h.cell hl, List.getElem_append_right (by omega)]
  simp only [ha, Nat.add_sub_cancel_left]
  rw [List.getElem_append_left hj]
theorem Blk.setMid {w : World} {b : Nat} {t : TypeId} {a x c : List Value} {k : Nat} (h : Blk w b t (a ++ (x ++ c))) (ha : a.length = k) {j : Nat} (hj : j < x.length) (u : Value) : Blk (w.setCell ⟨b, k + j, none⟩ u) b t (a ++ (x.set j u ++ c)) :=
  (h.set (k + j) u).of_eq (set_mid a x c k j u ha hj)
/-- the marks that a marking loop leaves: mk is the marked struct, by the counter at its beginning -/
def marksF (mk : Int → α) (q k : Int) (n : Nat) : List α := (List.range n).map fun (i : Nat) => mk (k + q * (i : Int))
theorem marksF_len (mk : Int → α) (q k : Int) (n : Nat) : (marksF mk q k n).length = n := by simp [marksF]
theorem marksF_at (mk : Int → α) (q k : Int) (n j : Nat) (h : j < (marksF mk q k n).length) : (marksF mk q k n)[j] = mk (k + q * (j : Int)) := by simp [marksF]
theorem marksF_succ (mk : Int → α) (q k : Int) (n : Nat) : marksF mk q k (n + 1) = marksF mk q k n ++ [mk (k + q * (n : Int))] := by
  unfold marksF; rw [List.range_succ, List.map_append]; rfl
theorem markF_head (mk : Int → α) (q k : Int) (l : List α) (cs : List Value) (j : Nat) (hj : j < l.length) :
    (marksF mk q k j ++ l.drop j).flatMap f ++ cs = (marksF mk q k j).flatMap f ++ (f l[j] ++ ((l.drop (j + 1)).flatMap f ++ cs)) := by
  rw [List.flatMap_append, List.drop_eq_getElem_cons hj, List.flatMap_cons]
  simp only [List.append_assoc]
theorem markF_step (mk : Int → α) (q k : Int) (l : List α) (cs : List Value) (j : Nat) :
    (marksF mk q k (j + 1) ++ l.drop (j + 1)).flatMap f ++ cs = (marksF mk q k j).flatMap f ++ (f (mk (k + q * (j : Int))) ++ ((l.drop (j + 1)).flatMap f ++ cs)) := by
  rw [marksF_succ, List.flatMap_append, List.flatMap_append]
  simp only [List.append_assoc, List.flatMap_cons, List.flatMap_nil, List.append_nil]
theorem markF_done (mk : Int → α) (q k : Int) (l : List α) (cs : List Value) (n : Nat) (h : l.length = n) : (marksF mk q k n ++ l.drop n).flatMap f ++ cs = (marksF mk q k n).flatMap f ++ cs := by
  rw [List.drop_eq_nil_of_le (by omega), List.append_nil]
theorem marksF_flat (mk : Int → α) (hf : ∀ x, (f x).length = m) (q k : Int) (n : Nat) : ((marksF mk q k n).flatMap f).length = n * m := by rw [flat_len hf, marksF_len]
end
theorem run_make_rowF {P : Program} (t e : TypeId) (z : Value) (zc : Array Value) (size bytes : Nat) (hz : z.cells = zc) (ht : P.underlying t = some (.slice e)) (hinfo : (P.info? e).map (fun i => (i.zero, i.size, i.bytes)) = some (some z, size, bytes))
    (n : Nat) (hb : bytes * n ≤ 281474976710656) (hn : n ≤ 9223372036854775807) (w : World) :
    (Instr.makeSlice t (.int .i64 (n : Int)) (.int .i64 (n : Int))).run P w = .ok (.slice (some ⟨w.heap.size, 0, none⟩) n n) (w.alloc (.cells (madeCells zc (n * size)) e)) := by
  obtain ⟨i, hi, hzz⟩ := Option.map_eq_some_iff.1 hinfo
  simp only [Prod.mk.injEq] at hzz
  obtain ⟨hz1, hs, hb1⟩ := hzz
  have h : (i.bytes : Int) * (n : Int) ≤ 281474976710656 := by
    rw [hb1]
    have h : ((bytes * n : Nat) : Int) ≤ 281474976710656 := by omega
    rwa [Int.natCast_mul] at h
  have hr := run_make (P := P) w t e i z ht hi hz1 .i64 .i64 n n (by omega) (by omega) h (by omega)
  simp only [Int.toNat_natCast] at hr
  rw [hr, hz, hs]
end Go.Proofs.Ythfkfdfcgldbeaa
