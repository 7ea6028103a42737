/- The walks of ReadFields. -/
import Derived.Test.YteaefjicpefgnaaReader
namespace Go.Proofs.Yteaefjicpefgnaa
open Go.RowKit Go.Deep
set_option linter.unusedVariables false
set_option maxRecDepth 100000
/-- k fields, all that there is -/
def rdF : Nat → List UInt8 → Option (List ByteArray)
  | 0, l => if l = [] then some [] else none
  | _ + 1, [] => none
  | k + 1, c :: r => if c.toNat ≤ r.length then (rdF k (r.drop c.toNat)).map (⟨(r.take c.toNat).toArray⟩ :: ·) else none
/-- the fields that bytes are -/
def rfO : List UInt8 → Option (List ByteArray)
  | [] => none
  | c :: r => if c.toNat ≤ 100 then rdF c.toNat r else none
theorem fld_fail (k : Nat) : ∀ (l : List UInt8) (acc : List ByteArray), (fld k l true acc).2.2 = true := by
  induction k with
  | zero => intro l acc; rfl
  | succ k ih => intro l acc; unfold fld; simp only [tkF, Bool.true_or]; exact ih _ _
theorem fld_len (k : Nat) : ∀ (l : List UInt8) (f : Bool) (acc : List ByteArray), (fld k l f acc).1.length = acc.length + k := by
  induction k with
  | zero => intro l f acc; rfl
  | succ k ih => intro l f acc; unfold fld; rw [ih]; simp; omega
theorem fld_some (k : Nat) : ∀ (l : List UInt8) (acc out : List ByteArray), rdF k l = some out → fld k l false acc = (acc ++ out, [], false) := by
  induction k with
  | zero =>
    intro l acc out h
    unfold rdF at h
    split at h
    · rename_i hl; injection h with h; subst h; subst hl; simp [fld]
    · cases h
  | succ k ih =>
    intro l acc out h
    cases l with
    | nil => cases h
    | cons c r =>
      unfold rdF at h
      split at h
      · rename_i hc
        rw [Option.map_eq_some_iff] at h
        obtain ⟨o2, h2, rfl⟩ := h
        unfold fld
        have e0 : nmV (c :: r) = c.toNat := rfl
        have e1 : tkR r c.toNat = r.drop c.toNat := by unfold tkR; rw [if_pos hc]
        have e2 : tkO r c.toNat = r.take c.toNat := by unfold tkO; rw [if_pos hc]
        have e3 : tkF r c.toNat false = false := by unfold tkF; rw [decide_eq_false (by omega)]; rfl
        simp only [List.tail_cons, e0, e1, e2, List.isEmpty_cons, Bool.or_false, e3]
        rw [ih _ _ _ h2]; simp
      · cases h
theorem fld_none (k : Nat) : ∀ (l : List UInt8) (acc : List ByteArray), rdF k l = none → (!(fld k l false acc).2.2 && (fld k l false acc).2.1.isEmpty) = false := by
  induction k with
  | zero =>
    intro l acc h
    unfold rdF at h
    split at h
    · cases h
    · rename_i hl
      cases l with
      | nil => exact absurd rfl hl
      | cons a r => rfl
  | succ k ih =>
    intro l acc h
    cases l with
    | nil =>
      unfold fld
      have e : tkF ([] : List UInt8).tail (nmV []) (false || ([] : List UInt8).isEmpty) = true := rfl
      rw [e, fld_fail]; rfl
    | cons c r =>
      unfold rdF at h
      unfold fld
      have e0 : nmV (c :: r) = c.toNat := rfl
      simp only [List.tail_cons, e0, List.isEmpty_cons, Bool.or_false]
      split at h
      · rename_i hc
        rw [Option.map_eq_none_iff] at h
        have e1 : tkR r c.toNat = r.drop c.toNat := by unfold tkR; rw [if_pos hc]
        have e3 : tkF r c.toNat false = false := by unfold tkF; rw [decide_eq_false (by omega)]; rfl
        rw [e1, e3]
        exact ih _ _ h
      · rename_i hc
        have e3 : tkF r c.toNat false = true := by unfold tkF; rw [decide_eq_true (by omega)]; rfl
        rw [e3, fld_fail]; rfl
theorem fld_small (k : Nat) : ∀ (l : List UInt8) (f : Bool) (acc : List ByteArray), (∀ s ∈ acc, s.size ≤ 255) → ∀ s ∈ (fld k l f acc).1, s.size ≤ 255 := by
  induction k with
  | zero => intro l f acc h; exact h
  | succ k ih =>
    intro l f acc h
    unfold fld
    refine ih _ _ _ fun s hs => ?_
    rcases List.mem_append.1 hs with hs | hs
    · exact h s hs
    · rw [List.mem_singleton] at hs
      subst hs
      show (tkO l.tail (nmV l)).toArray.size ≤ 255
      have := nmV_lt l
      simp [tkO_len]; omega
/-- what ReadFields answers -/
def rfL (l : List UInt8) : List ByteArray := if 65536 < l.length then [] else (rfO l).getD []
def rfC (l : List UInt8) : Int := if 65536 < l.length then 2 else if (rfO l).isSome then 0 else 3
theorem rf_long {l : List UInt8} (h : 65536 < l.length) : rfL l = [] ∧ rfC l = 2 := by unfold rfL rfC; rw [if_pos h, if_pos h]; exact ⟨rfl, rfl⟩
theorem rf_none {l : List UInt8} (h : ¬ 65536 < l.length) (h2 : rfO l = none) : rfL l = [] ∧ rfC l = 3 := by unfold rfL rfC; rw [if_neg h, if_neg h, h2]; exact ⟨rfl, rfl⟩
theorem rf_some {l : List UInt8} {o : List ByteArray} (h : ¬ 65536 < l.length) (h2 : rfO l = some o) : rfL l = o ∧ rfC l = 0 := by unfold rfL rfC; rw [if_neg h, if_neg h, h2]; exact ⟨rfl, rfl⟩
/-- the reading of all fields: its outcome -/
theorem fld_all_some {l : List UInt8} {o : List ByteArray} (h : rfO l = some o) : fld (nmV l) l.tail (false || l.isEmpty) [] = (o, [], false) ∧ o.length ≤ 100 ∧ o.length = nmV l := by
  cases l with
  | nil => cases h
  | cons c r =>
    by_cases hc : c.toNat ≤ 100
    · simp only [rfO, if_pos hc] at h
      have h1 := fld_some _ _ [] _ h
      have h2 := fld_len c.toNat r false []
      have e0 : nmV (c :: r) = c.toNat := rfl
      rw [h1] at h2
      simp at h2
      refine ⟨by rw [e0]; simpa using h1, by omega, by omega⟩
    · simp only [rfO, if_neg hc] at h; cases h
theorem fld_all_none {l : List UInt8} (h : rfO l = none) : (!(fld (nmV l) l.tail (false || l.isEmpty) []).2.2 && (fld (nmV l) l.tail (false || l.isEmpty) []).2.1.isEmpty) = false ∨ 100 < nmV l := by
  cases l with
  | nil => left; have e : (false || ([] : List UInt8).isEmpty) = true := rfl; rw [e, fld_fail]; rfl
  | cons c r =>
    have e0 : nmV (c :: r) = c.toNat := rfl
    by_cases hc : c.toNat ≤ 100
    · left
      simp only [rfO, if_pos hc] at h
      have := fld_none _ _ [] h
      rw [e0]; exact this
    · right; rw [e0]; omega
theorem own_texts_nil {w : World} {B : Nat} {e : TypeId} : w.ownsRow B e 1 (.slice none 0 0) 0 [] := World.ownsRow_nil _ _ _ _
set_option maxHeartbeats 1000000 in
theorem impl_ReadFields (A : Option Addr) (n cp : Nat) (l : List UInt8) (w : World) (hl : l.length = n) (hn : n ≤ 1099511627776) (hc : n ≤ cp) (hm : cp ≤ maxLen) (hr : Rd w A (l.map fun c => Value.int .u8 (c.toNat : Int))) :
    Calls Try.prog 24 #[.slice A n cp] w fun e w' => ∃ v, e = .returned (.tuple #[v, .int .i64 (rfC l)]) ∧ w'.ownsRow w.heap.size 9 1 v (rfL l).length ((rfL l).map fun c => Value.string c) ∧ Ext w w' := by
  by_cases h1 : 65536 < n
  · have HV := Lib.hid (rf_long (l := l) (by omega))
    have h1I : (65536 : Int) < (n : Int) := by omega
    clear hl hr
    go_enter Try.func24, Try.ntmps24
    go_wp2_with fail
    go_ret2
    rw [HV.out.1, HV.out.2]
    exact ⟨_, rfl, own_texts_nil, Ext.refl _⟩
  have h1I : ¬ (65536 : Int) < (n : Int) := by omega
  have h1' : ¬ 65536 < l.length := by omega
  have hR : Rdr (w.alloc (.cells #[.slice A n cp, .bool false] 85)) w.heap.size 85 w.heap.size l false := by
    refine ⟨A, n, cp, Blk.new w _ [.slice A n cp, .bool false], hl, hc, hm, hr.ext (by repeat (first | exact Ext.refl _ | assumption | refine Ext.alloc ?_ _ | refine Ext.drewN ?_ _ | refine Ext.drew ?_ | refine Ext.set ?_ (by dsimp only; omega) _ | refine Ext.trans ?_ (by assumption))), fun hne a ha => ?_⟩
    obtain ⟨b', o', e, hx⟩ := hr (by simpa using hne)
    rw [ha] at e; injection e with e; subst e
    cases l with
    | nil => exact absurd rfl hne
    | cons c r => exact lt_of_cell (hx 0 _ rfl)
  have HF := Lib.hid (rdr_fields w.heap.size w.heap.size false l _ hR (by simp))
  have hle := nmV_lt l
  have E0 : Ext w (w.alloc (.cells #[.slice A n cp, .bool false] 85)) := (by repeat (first | exact Ext.refl _ | assumption | refine Ext.alloc ?_ _ | refine Ext.drewN ?_ _ | refine Ext.drew ?_ | refine Ext.set ?_ (by dsimp only; omega) _ | refine Ext.trans ?_ (by assumption)))
  rcases ho : rfO l with _ | o
  · have HV := Lib.hid (rf_none h1' ho)
    have HN := Lib.hid (fld_all_none ho)
    have hlen := fld_len (nmV l) l.tail (false || l.isEmpty) []
    generalize fld (nmV l) l.tail (false || l.isEmpty) [] = F at HF HN hlen
    simp at hlen
    clear hl hr hR ho h1'
    go_enter Try.func24, Try.ntmps24
    go_wp2_with fail
    refine (HF.out).mono ?_
    rintro e w1 ⟨v, rfl, O1, R1, G1⟩
    have E1 := E0.grown G1 (by intro k hk; injection hk with hk; omega)
    have HD := Lib.hid (rd_isDone w.heap.size w.heap.size F.2.2 F.2.1 w1 R1)
    obtain ⟨A1, cap1, rfl⟩ := own_slice O1
    clear O1 R1 G1 hlen E0
    rcases hd : (!F.2.2 && F.2.1.isEmpty) with _ | _
    · have HD2 := Lib.hid hd
      clear hd
      go_wp2_with fail
      refine (HD.out).mono ?_
      rintro e w2 ⟨rfl, rfl⟩
      rw [HD2.out]
      go_wp2_with fail
      go_ret2
      rw [HV.out.1, HV.out.2]
      exact ⟨_, rfl, own_texts_nil, E1⟩
    · have hq : (100 : Int) < (nmV l : Nat) := by
        rcases HN.out with h | h
        · rw [hd] at h; cases h
        · omega
      have HD2 := Lib.hid hd
      clear hd
      go_wp2_with fail
      refine (HD.out).mono ?_
      rintro e w2 ⟨rfl, rfl⟩
      rw [HD2.out]
      go_wp2_with fail
      go_ret2
      rw [HV.out.1, HV.out.2]
      exact ⟨_, rfl, own_texts_nil, E1⟩
  · have HV := Lib.hid (rf_some h1' ho)
    obtain ⟨hF, hle2, hon⟩ := fld_all_some ho
    rw [hF, ← hon] at HF
    have HON := Lib.hid hon
    clear hl hr hR ho h1' hF hon hle
    go_enter Try.func24, Try.ntmps24
    go_wp2_with fail
    refine (HF.out).mono ?_
    rintro e w1 ⟨v, rfl, O1, R1, G1⟩
    have E1 := E0.grown G1 (by intro k hk; injection hk with hk; omega)
    have HD := Lib.hid (rd_isDone w.heap.size w.heap.size false [] w1 R1)
    have HO := Lib.hid O1
    obtain ⟨A1, cap1, rfl⟩ := own_slice O1
    have hq : ¬ (100 : Int) < (o.length : Int) := by omega
    clear O1 R1 G1 E0
    go_wp2_with fail
    refine (HD.out).mono ?_
    rintro e w2 ⟨rfl, rfl⟩
    go_wp2_with fail
    go_ret2
    rw [HV.out.1, HV.out.2]
    exact ⟨_, rfl, own_base HO.out (by simp), E1⟩
end Go.Proofs.Yteaefjicpefgnaa
