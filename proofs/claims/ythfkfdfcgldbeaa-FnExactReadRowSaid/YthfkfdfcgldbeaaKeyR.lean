/- The walks of the reader of a key. -/
import Derived.Test.YthfkfdfcgldbeaaKeys
import Derived.Test.YthfkfdfcgldbeaaReader
namespace Go.Proofs.Ythfkfdfcgldbeaa
open Go.RowKit Go.Deep
set_option linter.unusedVariables false
set_option maxRecDepth 100000
/-- how many bytes stand before the first 0 -/
def idx0 : List UInt8 → Nat
  | [] => 0
  | c :: r => if c = 0 then 0 else idx0 r + 1
theorem idx0_le (l : List UInt8) : idx0 l ≤ l.length := by
  induction l with
  | nil => exact Nat.le_refl _
  | cons c r ih => unfold idx0; split <;> simp <;> omega
/-- no 0 up to a place -/
def no0 (l : List UInt8) (k : Nat) : Prop := ∀ j, (h : j < l.length) → j < k → l[j] ≠ 0
theorem no0_zero (l : List UInt8) : no0 l 0 := fun j _ h => absurd h (Nat.not_lt_zero _)
theorem no0_succ {l : List UInt8} {k : Nat} (h : no0 l k) (hk : k < l.length) (h1 : l[k] ≠ 0) : no0 l (k + 1) := by
  intro j hj hlt
  rcases Nat.lt_or_ge j k with h2 | h2
  · exact h j hj h2
  · obtain rfl : j = k := by omega
    exact h1
theorem idx0_at {l : List UInt8} {k : Nat} (h : no0 l k) (hk : k < l.length) (h1 : l[k] = 0) : idx0 l = k := by
  induction l generalizing k with
  | nil => simp at hk
  | cons c r ih =>
    cases k with
    | zero => have h1 : c = 0 := h1; unfold idx0; rw [if_pos h1]
    | succ k =>
      have hc : c ≠ 0 := h 0 (by simp) (by omega)
      unfold idx0
      rw [if_neg hc, ih (k := k) (fun j hj hlt => h (j + 1) (by simp; omega) (by omega)) (by simp at hk; omega) h1]
theorem idx0_end {l : List UInt8} (h : no0 l l.length) : idx0 l = l.length := by
  induction l with
  | nil => rfl
  | cons c r ih =>
    have hc : c ≠ 0 := h 0 (by simp) (by simp)
    unfold idx0
    rw [if_neg hc, ih (fun j hj hlt => h (j + 1) (by simp; omega) (by simp; omega))]; simp
/-- the first 0, or -1 -/
def idxI (l : List UInt8) : Int := if idx0 l < l.length then (idx0 l : Int) else -1
/-- a value behind its first byte, what is left, and whether it fails -/
def rvV (c : UInt8) (r : List UInt8) : CValue :=
  if c.toNat = 2 then ⟨1, (bigN (tkO r 4) : Int) - 1000000000, ⟨#[]⟩⟩
  else if c.toNat = 3 ∧ idx0 r < r.length then ⟨2, 0, ⟨(r.take (idx0 r)).toArray⟩⟩
  else ⟨(c.toNat : Int) - 1, 0, ⟨#[]⟩⟩
def rvR (c : UInt8) (r : List UInt8) : List UInt8 :=
  if c.toNat = 2 then tkR r 4 else if c.toNat = 3 ∧ idx0 r < r.length then r.drop (idx0 r + 1) else r
def rvF (c : UInt8) (r : List UInt8) : Bool :=
  if c.toNat = 2 then tkF r 4 false || !okV (rvV c r) else if c.toNat = 3 ∧ ¬ idx0 r < r.length then true else !okV (rvV c r)
theorem rvR_le (c : UInt8) (r : List UInt8) : (rvR c r).length ≤ r.length := by
  unfold rvR; split
  · exact tkR_len _ _
  · split
    · rw [List.length_drop]; omega
    · exact Nat.le_refl _
/-- the values whose key bytes are -/
def kR : Nat → List UInt8 → Option (List CValue)
  | 0, _ => some []
  | _ + 1, [] => some []
  | n + 1, c :: r => if rvF c r then none else (kR n (rvR c r)).map (rvV c r :: ·)
def keyO (l : List UInt8) : Option (List CValue) := kR l.length l
theorem kR_nil (n : Nat) : kR n [] = some [] := by cases n <;> rfl
theorem kR_cons (n : Nat) (c : UInt8) (r : List UInt8) : kR (n + 1) (c :: r) = if rvF c r then none else (kR n (rvR c r)).map (rvV c r :: ·) := rfl
theorem grown_new {w w1 : World} {b x i : Nat} {u : Value} (h : w.grownBy w1 (some b)) (hx : w.heap.size ≤ x) : w.grownBy (w1.setCell ⟨x, i, none⟩ u) (some b) :=
  grown_far h grown_one (fun j e => by injection e with e; omega)
theorem rdr_alloc {w : World} {b : Nat} {T : TypeId} {D : Nat} {l : List UInt8} {f : Bool} (h : Rdr w b T D l f) (o : Obj) : Rdr (w.alloc o) b T D l f := h.ext ((Ext.refl w).alloc o)
theorem rdr_set {w : World} {b x i : Nat} {T : TypeId} {D : Nat} {l : List UInt8} {f : Bool} {u : Value} (h : Rdr w b T D l f) (h1 : D ≤ x) (h2 : b < x) : Rdr (w.setCell ⟨x, i, none⟩ u) b T D l f :=
  h.far grown_one (fun j e => by injection e with e; omega)
/-- how much a reader has -/
def rdLen (w : World) (b : Nat) : Nat := match w.cell? ⟨b, 0, none⟩ with
  | some (.slice _ n _) => n
  | _ => 0
theorem rdLen_eq {w : World} {b : Nat} {T : TypeId} {D : Nat} {l : List UInt8} {f : Bool} (h : Rdr w b T D l f) : rdLen w b = l.length := by
  obtain ⟨A, n, cp, hB, h1, _⟩ := h
  unfold rdLen
  rw [hB.cells2.1]
  exact h1.symm
theorem rdr_fail {w : World} {b : Nat} {T : TypeId} {D : Nat} {l : List UInt8} {f : Bool} (h : Rdr w b T D l f) (g : Bool) : Rdr (w.setCell ⟨b, 1, none⟩ (.bool g)) b T D l g := by
  obtain ⟨A, n, cp, hB, h1, h2, h3, hr, hd⟩ := h
  exact ⟨A, n, cp, hB.set 1 _, h1, h2, h3, rd_stays hr hB bytes_not grown_one, hd⟩
set_option maxHeartbeats 1000000 in
theorem index0_any (A : Option Addr) (n cp : Nat) (l : List UInt8) (w : World) (hl : l.length = n) (hn : n ≤ 1099511627776) (hr : Rd w A (l.map fun c => Value.int .u8 (c.toNat : Int))) :
    Calls Try.prog 156 #[.slice A n cp, .int .u8 0] w fun e w' => e = .returned (.int .i64 (idxI l)) ∧ w = w' := by
  have HL := Lib.hid hl
  clear hl
  go_enter Try.func156, Try.ntmps156
  go_wp2_with fail
  go_loopw [8] (fun i wr => ∃ k : Nat, k ≤ n ∧ i = .int .i64 k ∧ no0 l k ∧ wr = w) (fun i _ => n - (intOf i).toNat)
  case atStart => exact ⟨0, Nat.zero_le _, rfl, no0_zero _, rfl⟩
  case round =>
    obtain ⟨k, hk, rfl, h0, rfl⟩ := hrel
    have H0 := Lib.hid h0
    clear h0
    by_cases hlt : k < n
    · have hlt2 : (k : Int) < (n : Int) := by omega
      have hk2 : k < l.length := by rw [HL.out]; exact hlt
      obtain ⟨b', o', rfl, hx⟩ := hr (by intro h; rw [List.map_eq_nil_iff] at h; rw [h] at hk2; simp at hk2)
      have c0 : wr.cell? ⟨b', o' + k, none⟩ = some (.int .u8 ((l[k]'hk2).toNat : Int)) := hx k _ (by rw [List.getElem?_map, List.getElem?_eq_getElem hk2]; rfl)
      have h8 : ((l[k]'hk2).toNat : Int) < 256 := by have := (l[k]'hk2).toNat_lt; omega
      by_cases hz : l[k]'hk2 = 0
      · have HI := Lib.hid (show idxI l = (k : Int) by unfold idxI; rw [idx0_at H0.out hk2 hz, if_pos hk2])
        have hzI : ((l[k]'hk2).toNat : Int) = 0 := by rw [hz]; rfl
        have hzI2 : ((0 : Int) == ((l[k]'hk2).toNat : Int)) = true := by rw [hzI]; rfl
        generalize ((l[k]'hk2).toNat : Int) = u at *
        clear hx hz hzI
        go_wp2_with fail
        go_ret
        exact ⟨by rw [HI.out]; rfl, rfl⟩
      · have H1 := Lib.hid (no0_succ H0.out hk2 hz)
        have hzI : ¬ ((l[k]'hk2).toNat : Int) = 0 := by intro e; apply hz; apply UInt8.toNat_inj.1; simpa using e
        have hzI2 : ((0 : Int) == ((l[k]'hk2).toNat : Int)) = false := by rw [beq_eq_false_iff_ne]; omega
        generalize ((l[k]'hk2).toNat : Int) = u at *
        clear hx hz hzI
        go_wp2_with fail
        go_roundw
        case rel => exact ⟨k + 1, by omega, by go_num, H1.out, by simp⟩
        case measure => simp [intOf]; omega
    · obtain rfl : k = n := by omega
      have HI := Lib.hid (show idxI l = -1 by unfold idxI; rw [idx0_end (by rw [HL.out]; exact H0.out), if_neg (by omega)])
      go_wp2_with fail
      go_ret
      exact ⟨by rw [HI.out]; rfl, rfl⟩
end Go.Proofs.Ythfkfdfcgldbeaa
