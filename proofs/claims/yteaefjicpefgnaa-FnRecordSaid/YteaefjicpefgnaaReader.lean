/- The walks of the reader of bytes. -/
import Derived.Test.YteaefjicpefgnaaUnseal
import Derived.Test.YteaefjicpefgnaaRg
import Derived.Test.YteaefjicpefgnaaTexts
import Derived.Test.YteaefjicpefgnaaMarkB
namespace Go.Proofs.Yteaefjicpefgnaa
open Go.RowKit Go.Deep
set_option linter.unusedVariables false
set_option maxRecDepth 100000

/-- what is taken, what is left, whether it lacked -/
def tkO (l : List UInt8) (m : Nat) : List UInt8 := if m ≤ l.length then l.take m else List.replicate m 0
def tkR (l : List UInt8) (m : Nat) : List UInt8 := if m ≤ l.length then l.drop m else l
def tkF (l : List UInt8) (m : Nat) (f : Bool) : Bool := f || decide (l.length < m)
theorem tkO_len (l : List UInt8) (m : Nat) : (tkO l m).length = m := by
  unfold tkO; split
  · rw [List.length_take]; omega
  · simp
theorem tkR_len (l : List UInt8) (m : Nat) : (tkR l m).length ≤ l.length := by
  unfold tkR; split
  · rw [List.length_drop]; omega
  · exact Nat.le_refl _
/-- a reader in block b, its bytes below block D -/
def Rdr (w : World) (b : Nat) (T : TypeId) (D : Nat) (l : List UInt8) (f : Bool) : Prop := ∃ A n cp, Blk w b T [.slice A n cp, .bool f] ∧ l.length = n ∧ n ≤ cp ∧ cp ≤ maxLen ∧ Rd w A (l.map fun c => Value.int .u8 (c.toNat : Int)) ∧ (l ≠ [] → ∀ a, A = some a → a.block < D)
/-- a slice that reads as these bytes, its room known -/
def SlC (w : World) (v : Value) (l : List UInt8) : Prop := ∃ A cap, v = .slice A l.length cap ∧ l.length ≤ cap ∧ cap ≤ maxLen ∧ Rd w A (l.map fun c => Value.int .u8 (c.toNat : Int))
theorem SlC.ext {w w' : World} {v : Value} {l : List UInt8} (h : SlC w v l) (E : Ext w w') : SlC w' v l := by
  obtain ⟨A, cap, e, h1, h2, hr⟩ := h
  exact ⟨A, cap, e, h1, h2, hr.ext E⟩
theorem SlC.sl {w : World} {v : Value} {l : List UInt8} (h : SlC w v l) : Sl w v l := by
  obtain ⟨A, cap, e, h1, h2, hr⟩ := h
  exact ⟨A, cap, e, hr⟩
theorem Rdr.ext {w w' : World} {b : Nat} {T : TypeId} {D : Nat} {l : List UInt8} {f : Bool} (h : Rdr w b T D l f) (E : Ext w w') : Rdr w' b T D l f := by
  obtain ⟨A, n, cp, hB, h1, h2, h3, hr, hd⟩ := h
  exact ⟨A, n, cp, hB.ext E, h1, h2, h3, hr.ext E, hd⟩
theorem Rdr.lt {w : World} {b : Nat} {T : TypeId} {D : Nat} {l : List UInt8} {f : Bool} (h : Rdr w b T D l f) : b < w.heap.size := by
  obtain ⟨A, n, cp, hB, _⟩ := h
  exact hB.lt
/-- cells that a block does not have are not in it -/
theorem rd_not_in {w : World} {b : Nat} {t : TypeId} {cs xs : List Value} {a : Addr} (hB : Blk w b t cs) (hr : Rd w (some a) xs) (hne : xs ≠ []) (hx : ∀ x ∈ xs, x ∉ cs) : a.block ≠ b := by
  intro hab
  obtain ⟨b', o', e, h⟩ := hr hne
  injection e with e
  subst e
  have hab : b' = b := hab
  subst hab
  cases xs with
  | nil => exact hne rfl
  | cons x r =>
    have h0 := h 0 x rfl
    have hlt : ∃ i, i < cs.length ∧ o' = i := by
      rcases Nat.lt_or_ge o' cs.length with h1 | h1
      · exact ⟨o', h1, rfl⟩
      · exfalso
        unfold Blk at hB
        simp [World.cell?, hB] at h0
        rw [List.getElem?_eq_none h1] at h0; cases h0
    obtain ⟨i, hi, rfl⟩ := hlt
    have hc := hB.cell hi
    rw [Nat.add_zero] at h0
    rw [h0] at hc
    injection hc with hc
    exact hx x (List.mem_cons_self ..) (hc ▸ List.getElem_mem hi)
theorem rd_stays {w w' : World} {b : Nat} {t : TypeId} {cs xs : List Value} {A : Option Addr} (hr : Rd w A xs) (hB : Blk w b t cs) (hx : ∀ x ∈ xs, x ∉ cs) (hg : w.grownBy w' (some b)) : Rd w' A xs := by
  by_cases hne : xs = []
  · subst hne; exact Rd.nil _ _
  · exact hr.grown hg (fun a ha => by subst ha; exact rd_not_in hB hr hne hx)
theorem bytes_not {l : List UInt8} {A : Option Addr} {n cp : Nat} {f : Bool} : ∀ x ∈ (l.map fun c => Value.int .u8 (c.toNat : Int)), x ∉ [Value.slice A n cp, Value.bool f] := by
  intro x hx
  simp at hx
  obtain ⟨c, _, rfl⟩ := hx
  simp
theorem SlC.stays {w w' : World} {b : Nat} {T : TypeId} {D : Nat} {v : Value} {l l2 : List UInt8} {f : Bool} (h : SlC w v l) (hR : Rdr w b T D l2 f) (hg : w.grownBy w' (some b)) : SlC w' v l := by
  obtain ⟨A, cap, e, h1, h2, hr⟩ := h
  obtain ⟨A2, n, cp, hB, _⟩ := hR
  exact ⟨A, cap, e, h1, h2, rd_stays hr hB bytes_not hg⟩
theorem grown_one {w : World} {b i : Nat} {u : Value} : w.grownBy (w.setCell ⟨b, i, none⟩ u) (some b) := grown_step (World.grownBy.refl _ _) (Ext.refl _) b i u
theorem grown_trans {w w1 w2 : World} {row : Option Nat} (h : w.grownBy w1 row) (k : w1.grownBy w2 row) : w.grownBy w2 row :=
  ⟨k.os.trans h.os, k.tape.trans h.tape, k.output.trans h.output, Nat.le_trans h.size k.size, fun i hi hne => (k.block i (Nat.lt_of_lt_of_le hi h.size) hne).trans (h.block i hi hne)⟩
theorem grown_pre' {w w1 w2 : World} {row : Option Nat} (e : Ext w w1) (h : w1.grownBy w2 row) : w.grownBy w2 row :=
  ⟨h.os.trans e.os, h.tape.trans e.tape, h.output.trans e.output, Nat.le_trans e.le h.size, fun k hk hne => (h.block k (Nat.lt_of_lt_of_le hk e.le) hne).trans (Below.block e k hk)⟩
theorem grown_ext {w w' : World} {row : Option Nat} (h : Ext w w') : w.grownBy w' row :=
  ⟨h.os, h.tape, h.output, h.size, fun k hk _ => Below.block h k hk⟩
set_option maxHeartbeats 400000 in
theorem rd_take_lack (b n cp m : Nat) (A : Option Addr) (f : Bool) (w : World) (hB : Blk w b 85 [.slice A n cp, .bool f]) (hm : n < m) (h5 : m ≤ 65536) :
    Calls Try.prog 82 #[.pointer (some ⟨b, 0, none⟩), .int .i64 (m : Int)] w fun e w' => e = .returned (.slice (some ⟨w.heap.size, 0, none⟩) m m) ∧ Rd w' (some ⟨w.heap.size, 0, none⟩) ((List.replicate m (0 : UInt8)).map fun c => Value.int .u8 (c.toNat : Int)) ∧ Blk w' b 85 [.slice A n cp, .bool true] ∧ w.grownBy w' (some b) := by
  obtain ⟨c0, c1⟩ := hB.cells2
  have f1 := hB.frozen 1
  have hmk := run_make_row' (P := Try.prog) 22 5 (.int .u8 0) 1 Try.underlying22 info_ByteS rfl .i64 .i64 m (by omega) (by omega)
  have hmI : (n : Int) < (m : Int) := by omega
  have HB := Lib.hid hB
  clear hB
  go_enter Try.func82, Try.ntmps82
  go_wp2_with fail
  go_ret
  have B1 := HB.out.set 1 (.bool true)
  refine ⟨by simp, ?_, B1.alloc _, ?_⟩
  · have := (Blk.made (w.setCell ⟨b, 1, none⟩ (.bool true)) 5 (.int .u8 0) m).rd
    rw [World.size_setCell] at this
    simpa using this
  · exact grown_trans grown_one (grown_ext ((Ext.refl _).alloc _))
set_option maxHeartbeats 400000 in
theorem rd_take_at (b b' o n cp m : Nat) (f : Bool) (w : World) (hB : Blk w b 85 [.slice (some ⟨b', o, none⟩) n cp, .bool f]) (hm : m ≤ n) (hc : n ≤ cp) (h5 : cp ≤ maxLen) :
    Calls Try.prog 82 #[.pointer (some ⟨b, 0, none⟩), .int .i64 (m : Int)] w fun e w' => e = .returned (.slice (some ⟨b', o, none⟩) m cp) ∧ Blk w' b 85 [.slice (some ⟨b', if m = cp then o else o + m, none⟩) (n - m) (cp - m), .bool f] ∧ w.grownBy w' (some b) := by
  unfold maxLen at h5
  obtain ⟨c0, c1⟩ := hB.cells2
  have f0 := hB.frozen 0
  have hmI : ¬ (n : Int) < (m : Int) := by omega
  have h1 : (m : Int) ≤ (n : Int) := by omega
  have h2 : (m : Int) ≤ (cp : Int) := by omega
  have h3 : (n : Int) ≤ (cp : Int) := by omega
  have HB := Lib.hid hB
  clear hB
  by_cases he : m = cp
  · obtain rfl : n = cp := by omega
    subst he
    have HI := Lib.hid (show (if m = m then o else o + m) = o from if_pos rfl)
    rw [HI.out]
    clear hm hc h1 h2 h3
    go_enter Try.func82, Try.ntmps82
    go_wp2_with fail
    go_ret
    exact ⟨rfl, HB.out.set 0 _, grown_one⟩
  · have HI := Lib.hid (show (if m = cp then o else o + m) = o + m from if_neg he)
    have he2 : ¬ cp = m := fun e => he e.symm
    rw [HI.out]
    go_enter Try.func82, Try.ntmps82
    go_wp2_with fail
    go_ret
    exact ⟨rfl, HB.out.set 0 _, grown_one⟩
set_option maxHeartbeats 400000 in
theorem rd_take_nothing (b cp : Nat) (A : Option Addr) (f : Bool) (w : World) (hB : Blk w b 85 [.slice A 0 cp, .bool f]) (h5 : cp ≤ maxLen) :
    Calls Try.prog 82 #[.pointer (some ⟨b, 0, none⟩), .int .i64 0] w fun e w' => e = .returned (.slice A 0 cp) ∧ Blk w' b 85 [.slice A 0 cp, .bool f] ∧ w.grownBy w' (some b) := by
  unfold maxLen at h5
  obtain ⟨c0, c1⟩ := hB.cells2
  have f0 := hB.frozen 0
  have h0 : (0 : Int) ≤ (cp : Int) := by omega
  have HB := Lib.hid hB
  clear hB
  cases A with
  | none =>
    by_cases hc : cp = 0
    · subst hc
      go_enter Try.func82, Try.ntmps82
      go_wp2_with fail
      go_ret
      exact ⟨rfl, HB.out.set 0 _, grown_one⟩
    · have hc2 : ¬ (cp : Int) = 0 := by omega
      go_enter Try.func82, Try.ntmps82
      go_wp2_with fail
      go_ret
      exact ⟨rfl, HB.out.set 0 _, grown_one⟩
  | some a =>
    by_cases hc : cp = 0
    · subst hc
      go_enter Try.func82, Try.ntmps82
      go_wp2_with fail
      go_ret
      exact ⟨rfl, HB.out.set 0 _, grown_one⟩
    · have hc2 : ¬ (cp : Int) = 0 := by omega
      go_enter Try.func82, Try.ntmps82
      go_wp2_with fail
      go_ret
      exact ⟨rfl, HB.out.set 0 _, grown_one⟩
theorem map_zeros (m : Nat) : (List.replicate m (0 : UInt8)).length = m := by simp
theorem rdr_take (b m D : Nat) (f : Bool) (l : List UInt8) (w : World) (hR : Rdr w b 85 D l f) (hm : m ≤ 65536) :
    Calls Try.prog 82 #[.pointer (some ⟨b, 0, none⟩), .int .i64 (m : Int)] w fun e w' => ∃ v, e = .returned v ∧ SlC w' v (tkO l m) ∧ Rdr w' b 85 D (tkR l m) (tkF l m f) ∧ w.grownBy w' (some b) := by
  obtain ⟨A, n, cp, hB, hl, hc, hcm, hr, hd⟩ := hR
  by_cases h1 : n < m
  · have e1 : tkO l m = List.replicate m 0 := by unfold tkO; rw [if_neg (by omega)]
    have e2 : tkR l m = l := by unfold tkR; rw [if_neg (by omega)]
    have e3 : tkF l m f = true := by unfold tkF; rw [decide_eq_true (by omega)]; simp
    rw [e1, e2, e3]
    refine (rd_take_lack b n cp m A f w hB h1 hm).mono ?_
    rintro e w' ⟨rfl, hr', hB', hg⟩
    exact ⟨_, rfl, ⟨_, m, by simp, by simp, by unfold maxLen; omega, hr'⟩, ⟨A, n, cp, hB', hl, hc, hcm, rd_stays hr hB bytes_not hg, hd⟩, hg⟩
  have e1 : tkO l m = l.take m := by unfold tkO; rw [if_pos (by omega)]
  have e2 : tkR l m = l.drop m := by unfold tkR; rw [if_pos (by omega)]
  have e3 : tkF l m f = f := by unfold tkF; rw [decide_eq_false (by omega)]; simp
  rw [e1, e2, e3]
  by_cases h0 : n = 0
  · obtain rfl : m = 0 := by omega
    obtain rfl : l = [] := List.eq_nil_of_length_eq_zero (by omega)
    subst h0
    refine (rd_take_nothing b cp A f w hB hcm).mono ?_
    rintro e w' ⟨rfl, hB', hg⟩
    exact ⟨_, rfl, ⟨A, cp, rfl, Nat.zero_le _, hcm, Rd.nil _ _⟩, ⟨A, 0, cp, hB', rfl, Nat.zero_le _, hcm, Rd.nil _ _, fun h => absurd rfl h⟩, hg⟩
  obtain ⟨b', o, rfl, hx⟩ := hr (by intro h; rw [List.map_eq_nil_iff] at h; subst h; simp at hl; omega)
  refine (rd_take_at b b' o n cp m f w hB (by omega) hc hcm).mono ?_
  rintro e w' ⟨rfl, hB', hg⟩
  have hr' := rd_stays hr hB bytes_not hg
  refine ⟨_, rfl, ⟨_, cp, by rw [List.length_take]; congr 1; omega, by rw [List.length_take]; omega, hcm, by rw [List.map_take]; exact rd_take hr' m⟩, ⟨_, n - m, cp - m, hB', by rw [List.length_drop]; omega, by omega, by omega, ?_, fun _ a ha => by injection ha with ha; subst ha; exact hd (by intro h; subst h; simp at hl; omega) ⟨b', o, none⟩ rfl⟩, hg⟩
  by_cases he : m = cp
  · have : l.drop m = [] := List.drop_eq_nil_of_le (by omega)
    rw [this]; exact Rd.nil _ _
  · rw [if_neg he, List.map_drop]; exact rd_drop hr' m
/-- the number of one byte -/
def nmV (l : List UInt8) : Nat := (l.headD 0).toNat
theorem nmV_lt (l : List UInt8) : nmV l < 256 := by unfold nmV; exact UInt8.toNat_lt _
theorem tkO_one (l : List UInt8) : tkO l 1 = [l.headD 0] := by cases l <;> simp [tkO]
theorem tkR_one (l : List UInt8) : tkR l 1 = l.tail := by cases l <;> simp [tkR]
theorem tkF_one (l : List UInt8) (f : Bool) : tkF l 1 f = (f || l.isEmpty) := by cases l <;> simp [tkF]
theorem rd_num (b D : Nat) (f : Bool) (l : List UInt8) (w : World) (hR : Rdr w b 85 D l f) :
    Calls Try.prog 90 #[.pointer (some ⟨b, 0, none⟩)] w fun e w' => e = .returned (.int .i64 (nmV l : Nat)) ∧ Rdr w' b 85 D l.tail (f || l.isEmpty) ∧ w.grownBy w' (some b) := by
  have hT := rdr_take b 1 D f l w hR (by omega)
  rw [tkO_one, tkR_one, tkF_one] at hT
  have h8 : ((nmV l : Nat) : Int) < 256 := by have := nmV_lt l; omega
  have HT := Lib.hid hT
  clear hT hR
  go_enter Try.func90, Try.ntmps90
  go_wp2_with fail
  refine (HT.out).mono ?_
  rintro e w' ⟨v, rfl, hs, hR, hg⟩
  obtain ⟨A, cap, rfl, h1, h2, hr⟩ := hs
  obtain ⟨b', o', rfl, hc⟩ := hr (by simp)
  have c0 : w'.cell? ⟨b', o', none⟩ = some (.int .u8 ((nmV l : Nat) : Int)) := by
    have := hc 0 _ rfl
    exact this
  clear hc hr h1 h2
  go_wp2_with fail
  go_ret
  exact ⟨rfl, hR, hg⟩
/-- k fields -/
def fld : Nat → List UInt8 → Bool → List ByteArray → List ByteArray × List UInt8 × Bool
  | 0, l, f, acc => (acc, l, f)
  | k + 1, l, f, acc => fld k (tkR l.tail (nmV l)) (tkF l.tail (nmV l) (f || l.isEmpty)) (acc ++ [⟨(tkO l.tail (nmV l)).toArray⟩])
theorem grown_far {w w1 w2 : World} {b : Nat} {row : Option Nat} (h : w.grownBy w1 (some b)) (k : w1.grownBy w2 row) (hr : ∀ i, row = some i → w.heap.size ≤ i) : w.grownBy w2 (some b) :=
  ⟨k.os.trans h.os, k.tape.trans h.tape, k.output.trans h.output, Nat.le_trans h.size k.size, fun i hi hne => (k.block i (Nat.lt_of_lt_of_le hi h.size) (by intro e; have := hr i e.symm; omega)).trans (h.block i hi hne)⟩
theorem Rdr.far {w w' : World} {b : Nat} {T : TypeId} {D : Nat} {l : List UInt8} {f : Bool} {row : Option Nat} (h : Rdr w b T D l f) (hg : w.grownBy w' row) (hb : ∀ i, row = some i → D ≤ i ∧ b < i) : Rdr w' b T D l f := by
  obtain ⟨A, n, cp, hB, h1, h2, h3, hr, hd⟩ := h
  refine ⟨A, n, cp, (hg.block b hB.lt (fun e => by have := (hb b e.symm).2; omega)).trans hB, h1, h2, h3, ?_, hd⟩
  intro hne
  have hl : l ≠ [] := by intro e; subst e; exact hne rfl
  obtain ⟨b', o', rfl, hx⟩ := hr hne
  have hlt := hd hl _ rfl
  have hlt : b' < D := hlt
  exact ⟨b', o', rfl, fun j u hu => hg.cell (hx j u hu) (fun e => by have := (hb b' e.symm).1; omega)⟩
theorem rd_isDone (b D : Nat) (f : Bool) (l : List UInt8) (w : World) (hR : Rdr w b 85 D l f) :
    Calls Try.prog 68 #[.pointer (some ⟨b, 0, none⟩)] w fun e w' => e = .returned (.bool (!f && l.isEmpty)) ∧ w = w' := by
  obtain ⟨A, n, cp, hB, hl, hc, hcm, hr, hd⟩ := hR
  obtain ⟨c0, c1⟩ := hB.cells2
  clear hB hr
  cases f with
  | true =>
    go_enter Try.func68, Try.ntmps68
    go_wp2_with fail
    go_ret
    exact ⟨rfl, rfl⟩
  | false =>
    have he : ((n : Int) == 0) = l.isEmpty := by
      cases l with
      | nil => simp at hl; subst hl; rfl
      | cons a r => simp at hl ⊢; omega
    have HE := Lib.hid he
    clear he hl
    go_enter Try.func68, Try.ntmps68
    go_wp2_with fail
    go_ret
    exact ⟨ret_bool HE.out, rfl⟩
set_option maxHeartbeats 1000000 in
theorem rdr_fields (b D : Nat) (f0 : Bool) (l0 : List UInt8) (w : World) (hR : Rdr w b 85 D l0 f0) (hD : D ≤ w.heap.size) :
    Calls Try.prog 67 #[.pointer (some ⟨b, 0, none⟩)] w fun e w' => ∃ v, e = .returned v ∧
      w'.ownsRow w.heap.size 9 1 v (nmV l0) ((fld (nmV l0) l0.tail (f0 || l0.isEmpty) []).1.map fun c => Value.string c) ∧ Rdr w' b 85 D (fld (nmV l0) l0.tail (f0 || l0.isEmpty) []).2.1 (fld (nmV l0) l0.tail (f0 || l0.isEmpty) []).2.2 ∧ w.grownBy w' (some b) := by
  have hblt := hR.lt
  have hinit := World.ownsRow_lit (base := w.heap.size) (e := 9) (size := 1) w #[] 0 (Nat.le_refl _) (by unfold maxLen; omega) rfl
  have HN := Lib.hid (rd_num b D f0 l0 (w.alloc (.cells #[] 9)) (hR.ext (by repeat (first | exact Ext.refl _ | assumption | refine Ext.alloc ?_ _ | refine Ext.drewN ?_ _ | refine Ext.drew ?_ | refine Ext.set ?_ (by dsimp only; omega) _ | refine Ext.trans ?_ (by assumption)))))
  have hm := nmV_lt l0
  obtain ⟨i0, hi, hz0, hz1, hz2⟩ := info_parts info_StringS
  generalize nmV l0 = m at HN hm ⊢
  generalize hF : fld m l0.tail (f0 || l0.isEmpty) [] = F
  generalize l0.tail = l1 at HN hF
  generalize (f0 || l0.isEmpty) = f1 at HN hF
  have HF := Lib.hid hF
  clear hF hR
  go_enter Try.func67, Try.ntmps67
  go_wp2_with fail
  refine (HN.out).mono ?_
  rintro e w1 ⟨rfl, hR1, hg1⟩
  have HO1 := Lib.hid (own_far hinit hg1 (by intro e; have := own_blk hinit _ e; omega))
  have HG1 := Lib.hid (grown_pre' ((Ext.refl w).alloc (.cells #[] 9)) hg1)
  have HR1 := Lib.hid hR1
  clear hR1 hg1 hinit
  go_wp2_with fail
  go_loopw [7, 3] (fun i v wr => ∃ (k : Nat) (l : List UInt8) (f : Bool) (acc : List ByteArray), k ≤ m ∧ i = .int .i64 k ∧ fld (m - k) l f acc = F ∧ wr.ownsRow w.heap.size 9 1 v k (acc.map fun c => Value.string c) ∧ Rdr wr b 85 D l f ∧ w.grownBy wr (some b)) (fun i _ _ => m - (intOf i).toNat)
  case atStart => exact ⟨0, l1, f1, [], Nat.zero_le _, rfl, HF.out, HO1.out, HR1.out, HG1.out⟩
  case round =>
    obtain ⟨k, l, f, acc, hk, rfl, hf, ho, hR, hg⟩ := hrel
    have HFK := Lib.hid hf
    have HO := Lib.hid ho
    have HR := Lib.hid hR
    have HG := Lib.hid hg
    clear hf ho hR hg
    by_cases hlt : k < m
    · have hlt2 : (k : Int) < (m : Int) := by omega
      obtain ⟨j, hj⟩ : ∃ j, m - k = j + 1 := ⟨m - k - 1, by omega⟩
      have HF2 := Lib.hid (show fld j (tkR l.tail (nmV l)) (tkF l.tail (nmV l) (f || l.isEmpty)) (acc ++ [⟨(tkO l.tail (nmV l)).toArray⟩]) = F by have := HFK.out; rw [hj] at this; exact this)
      have hj2 : m - (k + 1) = j := by omega
      have HJ := Lib.hid hj2
      clear hj hj2 HFK
      go_wp2_with fail
      refine (rd_num b D f l wr HR.out).mono ?_
      rintro e w2 ⟨rfl, hR2, hg2⟩
      have HO2 := Lib.hid (own_far HO.out hg2 (by intro e; have := own_blk HO.out _ e; omega))
      have HG2 := Lib.hid (grown_trans HG.out hg2)
      have hm2 := nmV_lt l
      generalize nmV l = q at HF2 hm2 ⊢
      generalize l.tail = l2 at HF2 hR2
      generalize (f || l.isEmpty) = f2 at HF2 hR2
      have HT := Lib.hid (rdr_take b q D f2 l2 w2 hR2 (by omega))
      clear hR2 hg2 HO HG HR
      go_wp2_with fail
      refine (HT.out).mono ?_
      rintro e w3 ⟨v3, rfl, hs3, hR3, hg3⟩
      have HO3 := Lib.hid (own_far HO2.out hg3 (by intro e; have := own_blk HO2.out _ e; omega))
      have HG3 := Lib.hid (grown_trans HG2.out hg3)
      have HR3 := Lib.hid hR3
      obtain ⟨A, cap, rfl, hc1, hc2, hr3⟩ := hs3
      have hcv := run_text (P := Try.prog) (src := 22) (dst := 9) Try.underlying22 Try.underlying5 Try.underlying9 w3 A (tkO l2 q).length cap (tkO l2 q) rfl hr3
      generalize (⟨(tkO l2 q).toArray⟩ : ByteArray) = s at hcv HF2
      clear hR3 hg3 HT hr3 HO2 HG2
      have hle := HG3.out.size
      have hrow := own_ext HO3.out ((Ext.refl w3).alloc (.cells #[.string s] 9))
      go_wp2_with (at_builtin; refine wpList_append_own _ rfl (.tmp 9) (.tmp 15) 32 rfl w.heap.size 9 i0 (.string ByteArray.empty) 1 16 Try.underlying32 hi hz0 hz1 hz2 rfl (by decide) _ k _ rfl hrow ⟨w3.heap.size, 0, none⟩ 1 1 [.string s] rfl rfl (rd_add (Blk.new w3 _ _).rd) (by intro u hu; simp at hu; subst hu; rfl) (by unfold maxLen; omega) (by omega) (by simp; omega) ?_)
      intro v4 w4 ho4 hg4 _
      have hbk := own_blk hrow
      have HR4 := Lib.hid ((HR3.out.ext ((Ext.refl w3).alloc (.cells #[.string s] 9))).far hg4 (fun i e => by have := hbk _ e; omega))
      have HG4 := Lib.hid (grown_far (grown_trans HG3.out (grown_ext ((Ext.refl w3).alloc (.cells #[.string s] 9)))) hg4 hbk)
      have HO4 := Lib.hid ho4
      clear ho4 hg4 hrow hbk hcv
      go_wp2_with fail
      go_roundw
      case rel => exact ⟨k + 1, _, _, _, by omega, by go_num, by rw [HJ.out]; exact HF2.out, by rw [List.map_append]; exact HO4.out, HR4.out, HG4.out⟩
      case measure => simp [intOf]; omega
    · have hk4 : k = m := by omega
      subst hk4
      have HF2 := Lib.hid (show (acc, l, f) = F by have := HFK.out; rw [Nat.sub_self] at this; exact this)
      go_wp2_with fail
      go_ret
      rw [← HF2.out]
      exact ⟨_, rfl, HO.out, HR.out, HG.out⟩
end Go.Proofs.Yteaefjicpefgnaa
