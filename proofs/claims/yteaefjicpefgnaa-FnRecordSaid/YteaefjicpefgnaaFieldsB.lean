/- The walks of FieldsBytes. -/
import Derived.Test.YteaefjicpefgnaaFields2
import Derived.Test.YteaefjicpefgnaaTextFuncs
import Derived.Test.YteaefjicpefgnaaHeader
namespace Go.Proofs.Yteaefjicpefgnaa
open Go.RowKit Go.Deep
set_option linter.unusedVariables false
set_option maxRecDepth 100000
/-- whether a field is too long -/
def longF (l : List ByteArray) : Bool := l.any fun s => decide (255 < s.size)
/-- what FieldsBytes answers -/
def fbL (l : List ByteArray) : List UInt8 := if l.length ≤ 100 ∧ longF l = false then fieldsB l else []
def fbC (l : List ByteArray) : Int := if 4096 < l.length then 2 else if 100 < l.length then 6 else if longF l then 4 else 0
theorem longF_mem {l : List ByteArray} (h : longF l = false) : ∀ s ∈ l, s.size ≤ 255 := by
  intro s hs
  unfold longF at h
  rw [List.any_eq_false] at h
  have := h s hs
  simpa using this
theorem sum_le (l : List ByteArray) (h : ∀ s ∈ l, s.size ≤ 255) : (l.map fun t => (UInt8.ofNat t.size :: t.data.toList).length).sum ≤ l.length * 256 := by
  induction l with
  | nil => simp
  | cons a r ih =>
    have h1 := ih (fun s hs => h s (List.mem_cons_of_mem _ hs))
    have h2 : a.size ≤ 255 := h a (List.mem_cons_self ..)
    have h3 : a.data.toList.length = a.size := by simp
    simp only [List.map_cons, List.sum_cons, List.length_cons] at *
    omega
theorem fieldsB_le (l : List ByteArray) (hn : l.length ≤ 100) (h : longF l = false) : (fieldsB l).length ≤ 1000000 := by
  unfold fieldsB
  rw [List.length_cons, List.length_flatMap]
  have h1 := sum_le l (longF_mem h)
  have h2 : l.length * 256 ≤ 100 * 256 := Nat.mul_le_mul_right _ hn
  omega
theorem fbL_le (l : List ByteArray) : (fbL l).length ≤ 1000000 := by
  unfold fbL; split
  · rename_i h; exact fieldsB_le l h.1 h.2
  · simp
theorem call_longField (args : Array Value) (W : World) : (callFunc 72 args).run Try.prog W = .ok (.enter 72 args) W := by kernel_rfl
theorem longField_any (s : ByteArray) (hs : s.size ≤ maxLen) (W : World) : Calls Try.prog 72 #[.string s] W fun e w' => e = .returned (.bool (decide (255 < s.size))) ∧ W = w' := by
  unfold maxLen at hs
  by_cases h : 255 < s.size
  · have d : decide ((255 : Int) < (s.size : Int)) = true := decide_eq_true (by omega)
    have HD := Lib.hid (show decide (255 < s.size) = true from decide_eq_true h)
    go_enter Try.func72, Try.ntmps72
    go_wp2
    go_ret
    exact ⟨ret_bool HD.out.symm, rfl⟩
  · have d : decide ((255 : Int) < (s.size : Int)) = false := decide_eq_false (by omega)
    have HD := Lib.hid (show decide (255 < s.size) = false from decide_eq_false h)
    go_enter Try.func72, Try.ntmps72
    go_wp2
    go_ret
    exact ⟨ret_bool HD.out.symm, rfl⟩
set_option maxHeartbeats 1000000 in
theorem impl_FieldsBytes (A : Option Addr) (n cp : Nat) (l : List ByteArray) (w : World) (hl : l.length = n) (hn : n ≤ 1099511627776) (hx : ∀ s ∈ l, s.size ≤ maxLen) (hr : Rd w A (l.map fun c => Value.string c)) (hs : Stay w w A 9) :
    Calls Try.prog 31 #[.slice A n cp] w fun e w' => ∃ v, e = .returned (.tuple #[v, .int .i64 (fbC l)]) ∧ w'.ownsRow w.heap.size 5 1 v (fbL l).length ((fbL l).map fun c => Value.int .u8 (c.toNat : Int)) ∧ Ext w w' := by
  by_cases h1 : (4096 : Int) < (n : Int)
  · have e1 : fbL l = [] := by unfold fbL; rw [if_neg (by omega)]
    have e2 : fbC l = 2 := by unfold fbC; rw [if_pos (by omega)]
    rw [e1, e2]
    clear e1 e2 hl
    go_enter Try.func31, Try.ntmps31
    go_wp2_with fail
    go_ret2
    exact ⟨_, rfl, nil_own, Ext.refl _⟩
  by_cases h2 : (100 : Int) < (n : Int)
  · have e1 : fbL l = [] := by unfold fbL; rw [if_neg (by omega)]
    have e2 : fbC l = 6 := by unfold fbC; rw [if_neg (by omega), if_pos (by omega)]
    rw [e1, e2]
    clear e1 e2 hl
    go_enter Try.func31, Try.ntmps31
    go_wp2_with fail
    go_ret2
    exact ⟨_, rfl, nil_own, Ext.refl _⟩
  have hc := containsFunc_texts 72 (fun s => decide (255 < s.size)) call_longField A n cp l w (fun s hs W => longField_any s (hx s hs) W) hl hn hr
  have hfe : (l.any fun s => decide (255 < s.size)) = longF l := rfl
  rw [hfe] at hc
  clear hfe
  by_cases h3 : longF l = true
  · have e1 : fbL l = [] := by unfold fbL; rw [if_neg (by rw [h3]; simp)]
    have e2 : fbC l = 4 := by unfold fbC; rw [if_neg (by omega), if_neg (by omega), if_pos h3]
    rw [h3] at hc
    rw [e1, e2]
    have HC := Lib.hid hc
    clear e1 e2 hl hc h3
    go_enter Try.func31, Try.ntmps31
    go_wp2_with (go_at_call 71; refine (HC.out).mono ?_; rintro e w' ⟨rfl, rfl⟩)
    go_ret2
    exact ⟨_, rfl, nil_own, Ext.refl _⟩
  · have h3 : longF l = false := by simpa using h3
    have e1 : fbL l = fieldsB l := by unfold fbL; rw [if_pos ⟨by omega, h3⟩]
    have e2 : fbC l = 0 := by unfold fbC; rw [if_neg (by omega), if_neg (by omega), if_neg (by rw [h3]; simp)]
    have hb := fieldsB_le l (by omega) h3
    rw [h3] at hc
    rw [e1, e2]
    have HC := Lib.hid hc
    have hp := impl_putFields w.heap.size (.slice none 0 0) 0 [] A n cp l w hl (by rw [List.nil_append]; omega) (Nat.le_refl _) hr hs nil_own
    rw [List.nil_append] at hp
    have HP := Lib.hid hp
    clear e1 e2 hl hc h3 hp hb
    go_enter Try.func31, Try.ntmps31
    go_wp2_with (first | (go_at_call 71; refine (HC.out).mono ?_; rintro e w' ⟨rfl, rfl⟩) | (go_at_call 73; refine (HP.out).mono ?_; rintro e w' ⟨v', rfl, ho, hE⟩))
    go_ret2
    exact ⟨_, rfl, ho, hE⟩
set_option maxHeartbeats 1000000 in
theorem spec_FieldsBytes (A : Option Addr) (n cp : Nat) (l : List ByteArray) (w : World) (hl : l.length = n) (hn : n ≤ 1099511627776) (hx : ∀ s ∈ l, s.size ≤ maxLen) (hr : Rd w A (l.map fun c => Value.string c)) :
    Calls Try.prog 29 #[.slice A n cp] w fun e w' => ∃ v, e = .returned (.tuple #[v, .int .i64 (fbC l)]) ∧ Sl w' v (fbL l) ∧ Ext w w' := by
  by_cases h1 : (4096 : Int) < (n : Int)
  · have e1 : fbL l = [] := by unfold fbL; rw [if_neg (by omega)]
    have e2 : fbC l = 2 := by unfold fbC; rw [if_pos (by omega)]
    rw [e1, e2]
    clear e1 e2 hl
    go_enter Try.func29, Try.ntmps29
    go_wp2_with fail
    go_ret2
    exact ⟨_, rfl, Sl.nil', (Ext.refl _).alloc _⟩
  by_cases h2 : (100 : Int) < (n : Int)
  · have e1 : fbL l = [] := by unfold fbL; rw [if_neg (by omega)]
    have e2 : fbC l = 6 := by unfold fbC; rw [if_neg (by omega), if_pos (by omega)]
    rw [e1, e2]
    clear e1 e2 hl
    go_enter Try.func29, Try.ntmps29
    go_wp2_with fail
    go_ret2
    exact ⟨_, rfl, Sl.nil', (Ext.refl _).alloc _⟩
  have HL := Lib.hid hl
  have HX := Lib.hid hx
  clear hl hx
  go_enter Try.func29, Try.ntmps29
  go_wp2_with fail
  go_loop [4] (fun i => ∃ k : Nat, k ≤ n ∧ i = .int .i64 k ∧ ∀ j, (hj : j < l.length) → j < k → (l[j]'hj).size ≤ 255) (fun i => n - (intOf i).toNat)
  case atStart => exact ⟨0, Nat.zero_le _, rfl, fun j _ h => absurd h (Nat.not_lt_zero _)⟩
  case round =>
    obtain ⟨k, hk, rfl, hf⟩ := hrel
    have HF := Lib.hid hf
    clear hf
    by_cases hlt : k < n
    · have hkl : k < l.length := by rw [HL.out]; exact hlt
      obtain ⟨b, o, rfl, hc⟩ := hr.map_ hkl
      have hlt2 : (k : Int) < (n : Int) := by omega
      have hxk := HX.out l[k] (List.getElem_mem hkl)
      unfold maxLen at hxk
      by_cases hb : 255 < l[k].size
      · have hbI : (255 : Int) < (l[k].size : Int) := by omega
        have h3 : longF l = true := by unfold longF; rw [List.any_eq_true]; exact ⟨l[k], List.getElem_mem hkl, decide_eq_true hb⟩
        have E1 := Lib.hid (show fbL l = [] from by unfold fbL; rw [if_neg (by rw [h3]; simp)])
        have E2 := Lib.hid (show fbC l = 4 from by unfold fbC; rw [HL.out, if_neg (by omega), if_neg (by omega), if_pos h3])
        clear h3
        generalize l[k] = x at hc hbI hb hxk
        go_wp2_with fail
        go_ret2
        rw [E1.out, E2.out]
        exact ⟨_, rfl, Sl.nil', (Ext.refl _).alloc _⟩
      · have hbI : ¬ (255 : Int) < (l[k].size : Int) := by omega
        have HB := Lib.hid (show l[k].size ≤ 255 from by omega)
        generalize hxx : l[k] = x at hc hbI hb hxk
        have HXX := Lib.hid hxx
        clear hxx
        go_wp2_with fail
        go_round
        case rel => exact ⟨k + 1, by omega, by go_num, fun j hj h => by
          by_cases hjk : j = k
          · subst hjk; exact HB.out
          · exact HF.out j hj (by omega)⟩
        case measure => simp [intOf]; omega
    · have hk4 : k = n := by omega
      subst hk4
      have h3 : longF l = false := by
        unfold longF; rw [List.any_eq_false]
        intro s hs
        obtain ⟨j, hj, rfl⟩ := List.getElem_of_mem hs
        have := HF.out j hj (by rw [← HL.out]; exact hj)
        simpa using this
      have hb := fieldsB_le l (by rw [HL.out]; omega) h3
      have E1 := Lib.hid (show fbL l = fieldsB l from by unfold fbL; rw [if_pos ⟨by rw [HL.out]; omega, h3⟩])
      have E2 := Lib.hid (show fbC l = 0 from by unfold fbC; rw [HL.out, if_neg (by omega), if_neg (by omega), if_neg (by rw [h3]; simp)])
      have HP := Lib.hid (spec_l01Fields A k cp l w HL.out (by omega) hn hr)
      clear h3 hb
      go_wp2_with (go_at_call 70; refine (HP.out).mono ?_; rintro e w' ⟨v', rfl, ho, hE⟩)
      go_ret2
      rw [E1.out, E2.out]
      exact ⟨_, rfl, Sl.own ho, hE⟩
end Go.Proofs.Yteaefjicpefgnaa
