/- Opening the arguments of a law: what a slice of bytes, of texts, of numbers reads as. No program in sight. -/
import Derived.Test.YteaefjicpefgnaaMem
import Derived.ProofKit
import Derived.OpenShut
import Derived.ShutString
import Derived.SliceStrings
import Derived.Lib.SmallJoins
namespace Go.Proofs.Yteaefjicpefgnaa
open Go.ChangeShapes Go.WideShapes Go.ChangeAt Go.RowKit
set_option linter.unusedVariables false
set_option maxRecDepth 100000

section
variable {H : Type} {enc : TypeId × Value → H} {P : Program} {w : World} {base : Nat} {held : Bool}

theorem u8_back (z : Int) (h : (Lit.int .u8 z).wf = true) : ((UInt8.ofNat z.toNat).toNat : Int) = z := by
  have hb := bounds_u8 h
  have : (UInt8.ofNat z.toNat).toNat = z.toNat := by
    rw [UInt8.toNat_ofNat']; omega
  rw [this]; omega

theorem plain_of_cell {w : World} {a : Addr} {v : Value} (h : w.cell? (a.add 0) = some v) : a.spot = none := by
  simpa [Addr.add] using World.cell?_spot h
theorem add_plain' {a : Addr} (h : a.spot = none) (i : Nat) : a.add i = ⟨a.block, a.off + i, none⟩ := by
  obtain ⟨b, o, s⟩ := a
  simp at h; subst h
  unfold Addr.add; by_cases hi : i = 0 <;> simp [hi]

/-- from cells one by one to 'Rd' -/
theorem Rd.of_cells {α : Type} {f : α → Value} {l : List α} {a : Addr} (h : ∀ i, (hi : i < l.length) → w.cell? (a.add i) = some (f (l[i]'hi))) : Rd w (some a) (l.map f) := by
  intro hne
  have h0 : 0 < l.length := by
    cases l with
    | nil => simp at hne
    | cons _ _ => simp
  have hs := plain_of_cell (h 0 h0)
  refine ⟨a.block, a.off, by obtain ⟨b, o, s⟩ := a; simp at hs; subst hs; rfl, fun j u hu => ?_⟩
  obtain ⟨hj, rfl⟩ := List.getElem?_eq_some_iff.1 hu
  have hj' : j < l.length := by simpa using hj
  rw [← add_plain' hs, h j hj']; simp

theorem slice_of_trod {t e : TypeId} {spare : Nat → Bool} {fuel : Nat} {v : Value} {x : DataW H × List MemPlace} (ht : P.underlying t = some (.slice e)) (h : DataW.trod enc P w base spare held fuel t [v] = some x) : ∃ A n cp, v = .slice A n cp := by
  rcases DataW.trod_slice ht h with ⟨h0, _⟩ | ⟨a, len, cap, elems, rest, n, _, h0, _⟩
  · simp at h0; exact ⟨_, _, _, h0⟩
  · simp at h0; exact ⟨_, _, _, h0⟩
theorem open_bytes_f {t e : TypeId} {fuel : Nat} {A : Option Addr} {n cp : Nat} {x : DataW H × List MemPlace} (ht : P.underlying t = some (.slice e)) (he : P.underlying e = some (.int .u8)) (hc : P.cellsOf e = 1)
    (h : DataW.trod enc P w base (fun _ => true) held fuel t [.slice A n cp] = some x) : ∃ l : List UInt8, l.length = n ∧ n ≤ cp ∧ cp ≤ maxLen ∧ Rd w A (l.map fun c => Value.int .u8 (c.toNat : Int)) := by
  rcases open_ints ht he hc h with ⟨hcs, _⟩ | ⟨a, len, cap, zs, hcs, _, hl, hm, hz, _, hcell, hwz⟩
  · simp at hcs
    obtain ⟨rfl, rfl, rfl⟩ := hcs
    exact ⟨[], rfl, Nat.le_refl _, Nat.zero_le _, Rd.nil _ _⟩
  · simp at hcs hz
    obtain ⟨rfl, rfl, rfl⟩ := hcs
    refine ⟨(zs.take n).map (fun z => UInt8.ofNat z.toNat), by simp; omega, hl, hm, ?_⟩
    refine Rd.of_cells fun i hi => ?_
    have hi' : i < zs.length := by simp at hi; omega
    rw [hcell i hi']
    have hw := hwz zs[i] (List.getElem_mem hi')
    simp only [List.getElem_map, List.getElem_take, List.getD_eq_getElem?_getD, List.getElem?_eq_getElem hi', Option.getD_some]
    rw [u8_back _ hw]

theorem open_nums_f {t e : TypeId} {fuel : Nat} {A : Option Addr} {n cp : Nat} {x : DataW H × List MemPlace} (ht : P.underlying t = some (.slice e)) (he : P.underlying e = some (.int .i64)) (hc : P.cellsOf e = 1)
    (h : DataW.trod enc P w base (fun _ => true) held fuel t [.slice A n cp] = some x) : ∃ l : List Int, l.length = n ∧ n ≤ cp ∧ cp ≤ maxLen ∧ (∀ z ∈ l, (Lit.int .i64 z).wf = true) ∧ Rd w A (l.map fun c => Value.int .i64 c) := by
  rcases open_ints ht he hc h with ⟨hcs, _⟩ | ⟨a, len, cap, zs, hcs, _, hl, hm, hz, _, hcell, hwz⟩
  · simp at hcs
    obtain ⟨rfl, rfl, rfl⟩ := hcs
    exact ⟨[], rfl, Nat.le_refl _, Nat.zero_le _, by simp, Rd.nil _ _⟩
  · simp at hcs hz
    obtain ⟨rfl, rfl, rfl⟩ := hcs
    refine ⟨zs.take n, by simp; omega, hl, hm, fun z hz => hwz z (List.mem_of_mem_take hz), ?_⟩
    refine Rd.of_cells fun i hi => ?_
    have hi' : i < zs.length := by simp at hi; omega
    rw [hcell i hi']
    simp only [List.getElem_take, List.getD_eq_getElem?_getD, List.getElem?_eq_getElem hi', Option.getD_some]

theorem open_texts_f {t e : TypeId} {fuel : Nat} {A : Option Addr} {n cp : Nat} {x : DataW H × List MemPlace} (ht : P.underlying t = some (.slice e)) (he : P.underlying e = some .string) (hc : P.cellsOf e = 1)
    (h : DataW.trod enc P w base (fun _ => true) held fuel t [.slice A n cp] = some x) : ∃ l : List ByteArray, l.length = n ∧ n ≤ cp ∧ cp ≤ maxLen ∧ (∀ s ∈ l, s.size ≤ maxLen) ∧ Rd w A (l.map fun c => Value.string c) := by
  rcases open_strings ht he hc h with ⟨hcs, _⟩ | ⟨a, len, cap, ss, hcs, _, hl, hm, hz, _, hcell, hws⟩
  · simp at hcs
    obtain ⟨rfl, rfl, rfl⟩ := hcs
    exact ⟨[], rfl, Nat.le_refl _, Nat.zero_le _, by simp, Rd.nil _ _⟩
  · simp at hcs hz
    obtain ⟨rfl, rfl, rfl⟩ := hcs
    refine ⟨ss.take n, by simp; omega, hl, hm, fun z hz => hws z (List.mem_of_mem_take hz), ?_⟩
    refine Rd.of_cells fun i hi => ?_
    have hi' : i < ss.length := by simp at hi; omega
    rw [hcell i hi']
    simp only [List.getElem_take, List.getD_eq_getElem?_getD, List.getElem?_eq_getElem hi', Option.getD_some]
theorem open_bytes {t e : TypeId} {A : Option Addr} {n cp : Nat} {d : DataW H} {p : List MemPlace} (ht : P.underlying t = some (.slice e)) (he : P.underlying e = some (.int .u8)) (hc : P.cellsOf e = 1)
    (h : DataW.Trod enc P w base (fun _ => true) held t (.slice A n cp) d p) : ∃ l : List UInt8, l.length = n ∧ n ≤ cp ∧ cp ≤ maxLen ∧ Rd w A (l.map fun c => Value.int .u8 (c.toNat : Int)) := by
  obtain ⟨fuel, hf⟩ := h
  exact open_bytes_f ht he hc (by simpa [Value.cells] using hf)
theorem open_nums {t e : TypeId} {A : Option Addr} {n cp : Nat} {d : DataW H} {p : List MemPlace} (ht : P.underlying t = some (.slice e)) (he : P.underlying e = some (.int .i64)) (hc : P.cellsOf e = 1)
    (h : DataW.Trod enc P w base (fun _ => true) held t (.slice A n cp) d p) : ∃ l : List Int, l.length = n ∧ n ≤ cp ∧ cp ≤ maxLen ∧ (∀ z ∈ l, (Lit.int .i64 z).wf = true) ∧ Rd w A (l.map fun c => Value.int .i64 c) := by
  obtain ⟨fuel, hf⟩ := h
  exact open_nums_f ht he hc (by simpa [Value.cells] using hf)
theorem open_texts {t e : TypeId} {A : Option Addr} {n cp : Nat} {d : DataW H} {p : List MemPlace} (ht : P.underlying t = some (.slice e)) (he : P.underlying e = some .string) (hc : P.cellsOf e = 1)
    (h : DataW.Trod enc P w base (fun _ => true) held t (.slice A n cp) d p) : ∃ l : List ByteArray, l.length = n ∧ n ≤ cp ∧ cp ≤ maxLen ∧ (∀ s ∈ l, s.size ≤ maxLen) ∧ Rd w A (l.map fun c => Value.string c) := by
  obtain ⟨fuel, hf⟩ := h
  exact open_texts_f ht he hc (by simpa [Value.cells] using hf)
/-- a struct of one-cell fields, however many, by value: its cells, and each field's own reading -/
theorem open_agg_list {r : Reach} {b0 : Nat} {t : TypeId} {fs : Array Field} {v : Value} {d : DataW H} {p : List MemPlace} (hs : P.underlying t = some (.struct fs)) (hone : Go.Deep.oneCellFields P fs = true) (hC : P.cellsOf t = fs.size)
    (hv : Value.okWide P w r b0 t v) (h : DataW.Trod enc P w base (fun _ => true) held t v d p) :
    ∃ cs : List Value, v = .agg cs.toArray ∧ cs.length = fs.size ∧ ∀ (j : Nat) (f : Field), fs[j]? = some f → ∃ (u : Value) (y : DataW H × List MemPlace) (n : Nat), cs[j]? = some u ∧ DataW.trod enc P w base (fun _ => true) held n f.type [u] = some y := by
  obtain ⟨cs, rfl, hsz⟩ := okWide_struct hs hv
  obtain ⟨l⟩ := cs
  have hlen : l.length = fs.size := hsz.trans hC
  refine ⟨l, rfl, hlen, fun j f hj => ?_⟩
  obtain ⟨fuel, hf⟩ := h
  obtain ⟨xs, n, _, _, _, hxl, hg⟩ := DataW.trod_struct hs hf
  obtain ⟨o, k⟩ := Go.Deep.hone_of hone j f hj
  have hjl : j < fs.size := (Array.getElem?_eq_some_iff.1 hj).1
  have h1 := hg j f hj
  rw [o, k] at h1
  have hjc : j < l.length := by omega
  have e : ((Value.agg l.toArray).cells.toList.drop j).take 1 = [l[j]] := by
    have : (Value.agg l.toArray).cells.toList = l := by simp [Value.cells]
    rw [this, List.drop_eq_getElem_cons hjc]; rfl
  rw [e] at h1
  have hxj : xs[j]? = some (xs[j]'(by omega)) := List.getElem?_eq_getElem (by omega)
  exact ⟨l[j], _, n, List.getElem?_eq_getElem hjc, h1.trans hxj⟩
end
end Go.Proofs.Yteaefjicpefgnaa
