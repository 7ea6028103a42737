/- A slice of bytes made into a text; a text made of digits. No program in sight. -/
import Derived.Test.YteaefjicpefgnaaMem
import Derived.Laws.BytesString
namespace Go.Proofs.Yteaefjicpefgnaa
open Go.RowKit
set_option linter.unusedVariables false
set_option maxRecDepth 100000

theorem push_all (l : List UInt8) (acc : ByteArray) : (l.map fun c => (c.toNat : Int)).foldl (fun r (n : Int) => r.push (UInt8.ofNat n.toNat)) acc = ⟨acc.data ++ l.toArray⟩ := by
  induction l generalizing acc with
  | nil => simp
  | cons c r ih =>
    simp only [List.map_cons, List.foldl_cons]
    rw [ih]
    apply ByteArray.ext
    simp [ByteArray.push]
theorem addr_add (b o j : Nat) : (⟨b, o, none⟩ : Addr).add j = ⟨b, o + j, none⟩ := by
  unfold Addr.add; by_cases h : j = 0 <;> simp [h]
/-- 'string(b)' -/
theorem run_text {P : Program} {src dst e : TypeId} (hs : P.underlying src = some (.slice e)) (he : P.underlying e = some (.int .u8)) (hd : P.underlying dst = some .string)
    (W : World) (A : Option Addr) (n cp : Nat) (l : List UInt8) (hl : l.length = n) (hr : Rd W A (l.map fun c => Value.int .u8 (c.toNat : Int))) :
    (convert src dst (.slice A n cp)).run P W = .ok (.string ⟨l.toArray⟩) W := by
  rw [run_convert_bytes_string W src dst e A n cp hs he hd]
  cases A with
  | none =>
    have : l = [] := by
      cases l with
      | nil => rfl
      | cons c r =>
        obtain ⟨b, o, e, _⟩ := hr (by simp)
        cases e
    subst this
    simp [Conv.bytesToString, ByteArray.empty, ByteArray.emptyWithCapacity]
    rfl
  | some a =>
    have hcells : ∀ j v, (l.map fun c => Value.int .u8 (c.toNat : Int))[j]? = some v → W.cell? (a.add j) = some v := by
      intro j v hv
      obtain ⟨b, o, e, h⟩ := hr (by intro h0; rw [h0] at hv; simp at hv)
      injection e with e
      subst e
      rw [addr_add]; exact h j v hv
    have h1 := run_loadCells_list (P := P) (w := W) a (l.map fun c => Value.int .u8 (c.toNat : Int)) hcells
    have h2 := run_bytesToString (P := P) W a n cp (l.map fun c => (c.toNat : Int)) (by
      rw [List.length_map, hl] at h1
      rw [h1, List.map_map]; rfl)
    rw [h2, push_all]
    simp [ByteArray.empty, ByteArray.emptyWithCapacity]
    rfl

/-- the digits of a number, ahead of others; f rounds at most -/
def digs : Nat → Nat → List UInt8 → List UInt8
  | 0, _, acc => acc
  | f + 1, k, acc => if k = 0 then acc else digs f (k / 10) (UInt8.ofNat (48 + k % 10) :: acc)
/-- the text of the mark number k -/
def mtext (k : Nat) : ByteArray := ⟨(109 :: digs k k []).toArray⟩
theorem text_cons (c : UInt8) (l : List UInt8) : (⟨(c :: l).toArray⟩ : ByteArray) = ⟨#[c]⟩ ++ ⟨l.toArray⟩ := (ByteArray.mk_append_mk [c] l).symm
theorem digs_zero (f : Nat) (acc : List UInt8) : digs f 0 acc = acc := by cases f <;> rfl
theorem digs_step (f k : Nat) (acc : List UInt8) (hk : k ≠ 0) (hf : k ≤ f) : ∃ g, g + 1 = f ∧ k / 10 ≤ g ∧ digs f k acc = digs g (k / 10) (UInt8.ofNat (48 + k % 10) :: acc) := by
  cases f with
  | zero => omega
  | succ f => exact ⟨f, rfl, by omega, by simp [digs, hk]⟩
theorem dig_toNat (k : Nat) : ((UInt8.ofNat (48 + k % 10)).toNat : Int) = 48 + (k : Int) % 10 := by
  rw [UInt8.toNat_ofNat']; omega
/-- the marks from k on -/
def marks (k : Int) (n : Nat) : List ByteArray := (List.range n).map fun (i : Nat) => mtext (k + (i : Int)).toNat
theorem marks_len (k : Int) (n : Nat) : (marks k n).length = n := by simp [marks]
theorem marks_at (k : Int) (n j : Nat) (h : j < (marks k n).length) : (marks k n)[j] = mtext (k + (j : Int)).toNat := by simp [marks]
theorem marks_succ (k : Int) (n : Nat) : marks k (n + 1) = marks k n ++ [mtext (k + (n : Int)).toNat] := by
  unfold marks; rw [List.range_succ, List.map_append]; rfl
theorem marks_step (k : Int) (l : List ByteArray) (cs : List Value) (j : Nat) (hj : j < l.length) :
    ((marks k j ++ l.drop j).map (fun c => Value.string c) ++ cs).set j (Value.string (mtext (k + (j : Int)).toNat)) = (marks k (j + 1) ++ l.drop (j + 1)).map (fun c => Value.string c) ++ cs := by
  have e : l.drop j = l[j] :: l.drop (j + 1) := List.drop_eq_getElem_cons hj
  generalize l.drop (j + 1) = r at e ⊢
  generalize l[j] = x at e
  rw [e, List.map_append, List.append_assoc, List.set_append, if_neg (by simp [marks_len])]
  simp [marks_len, marks_succ]
theorem marks_done (k : Int) (l : List ByteArray) (cs : List Value) (n : Nat) (h : l.length = n) : (marks k n ++ l.drop n).map (fun c => Value.string c) ++ cs = (marks k n).map (fun c => Value.string c) ++ cs := by
  rw [List.drop_eq_nil_of_le (by omega), List.append_nil]
theorem grown_step {w wr w1 : World} {b : Nat} (h : w.grownBy wr (some b)) (e : Ext wr w1) (b' j : Nat) (u : Value) (hb : b' = b := by rfl) : w.grownBy (w1.setCell ⟨b', j, none⟩ u) (some b) := by
  subst hb
  refine ⟨e.os.trans h.os, e.tape.trans h.tape, e.output.trans h.output, ?_, ?_⟩
  · have h1 := h.size; have h2 := e.le; simp [World.setCell]; omega
  · intro k hk hne
    have h1 := h.size
    rw [Below.heap_setCell _ _ _ _ (by intro e; exact hne (by rw [e]))]
    exact (Below.block e k (by omega)).trans (h.block k hk hne)
/-- a block other than the one that was written -/
theorem Blk.grown {w w' : World} {b c : Nat} {t : TypeId} {cs : List Value} (h : Blk w b t cs) (hg : w.grownBy w' (some c)) (hne : b ≠ c) : Blk w' b t cs :=
  (hg.block b h.lt (by intro e; injection e with e; exact hne e)).trans h
theorem Ext.grownBy {w0 w w' : World} {c : Nat} (h : Ext w0 w) (hg : w.grownBy w' (some c)) (hc : w0.heap.size ≤ c) : Ext w0 w' :=
  h.grown hg (fun k hk => by injection hk with hk; omega)
theorem Rd.grown {w w' : World} {c : Nat} {A : Option Addr} {xs : List Value} (h : Rd w A xs) (hg : w.grownBy w' (some c)) (hne : ∀ a, A = some a → a.block ≠ c) : Rd w' A xs := fun hx => by
  obtain ⟨b, o, e1, e2⟩ := h hx
  refine ⟨b, o, e1, fun j u hu => ?_⟩
  have hc := e2 j u hu
  have hlt := lt_of_cell hc
  have hb := hne _ e1
  rw [World.cell?_of_block (w := w) (hg.block b hlt (by intro e; injection e with e; exact hb e))]
  exact hc
end Go.Proofs.Yteaefjicpefgnaa
