/- The walks of the two CodeOf functions. -/
import Derived.Test.YtpjpkkninkpllaaDoorRows
import Derived.Test.YtpjpkkninkpllaaDoorCodeWalks
import Derived.Test.YtpjpkkninkpllaaDoorTextFuncs
namespace Go.Proofs.YtpjpkkninkpllaaDoor
open Go.RowKit Go.Deep
set_option linter.unusedVariables false
/-- is it this word -/
def isW (s x : ByteArray) : Bool := x.toList == s.toList
theorem index_texts (A : Option Addr) (n cp : Nat) (l : List ByteArray) (s : ByteArray) (w : World) (hl : l.length = n) (hn : n ≤ 1099511627776) (hr : Rd w A (l.map fun c => Value.string c)) :
    Calls Tryd.prog 10 #[.slice A n cp, .string s] w fun e w' => e = .returned (.int .i64 (idxI (isW s) l)) ∧ w = w' := by
  have HL := Lib.hid hl
  clear hl
  go_enter Tryd.func10, Tryd.ntmps10
  go_wp2
  go_loop [8] (fun i => ∃ k : Nat, k ≤ n ∧ i = .int .i64 k ∧ ∀ j, (hj : j < l.length) → j < k → isW s (l[j]'hj) = false) (fun i => n - (intOf i).toNat)
  case atStart => exact ⟨0, Nat.zero_le _, rfl, fun j _ h => absurd h (Nat.not_lt_zero _)⟩
  case round =>
    obtain ⟨k, hk, rfl, hb⟩ := hrel
    have HB := Lib.hid hb
    clear hb
    by_cases hlt : k < n
    · have hkl : k < l.length := by rw [HL.out]; exact hlt
      obtain ⟨b, o, rfl, hc⟩ := hr.map_ hkl
      rcases hv : isW s l[k] with _ | _
      · have HV := Lib.hid hv
        have he : (s.toList == l[k].toList) = false := by
          have : (l[k].toList == s.toList) = false := hv
          rw [beq_eq_false_iff_ne] at this ⊢; exact fun h => this h.symm
        clear hv
        go_wp2_with fail
        go_round
        case rel => exact ⟨k + 1, by omega, by go_num, fun j hj hjk => by
          rcases Nat.lt_or_ge j k with h | h
          · exact HB.out j hj h
          · have : j = k := by omega
            subst this; exact HV.out⟩
        case measure => simp [intOf]; omega
      · have HV := Lib.hid (idxI_found hkl hv HB.out)
        have he : (s.toList == l[k].toList) = true := by
          have : (l[k].toList == s.toList) = true := hv
          rw [beq_iff_eq] at this ⊢; exact this.symm
        clear hv
        go_wp2_with fail
        go_ret
        exact ⟨by rw [HV.out]; rfl, rfl⟩
    · have hk2 : k = n := by omega
      have HV := Lib.hid (idxI_none (p := isW s) (l := l) (fun j hj => HB.out j hj (by rw [HL.out] at hj; omega)))
      subst hk2
      go_wp2_with fail
      go_ret
      exact ⟨by rw [HV.out]; rfl, rfl⟩
theorem Table.rd {w : World} (h : Table w) : Rd w (some ⟨0, 0, none⟩) (words.map fun s => Value.string s) := fun _ => ⟨0, 0, rfl, fun j u hu => by
  obtain ⟨hj, rfl⟩ := List.getElem?_eq_some_iff.1 hu
  have hj' : j < words.length := by simpa using hj
  rw [Nat.zero_add, h j hj']; simp⟩
theorem impl_CodeOf (s : ByteArray) (w : World) (hT : Table w) : Calls Tryd.prog 8 #[.string s] w fun e w' => e = .returned (.int .i64 (idxI (isW s) words)) ∧ w = w' := by
  have hc := index_texts (some ⟨0, 0, none⟩) 20 20 words s w words_len (by omega) hT.rd
  generalize idxI (isW s) words = v at hc
  have HC := Lib.hid hc
  clear hc
  go_enter Tryd.func8, Tryd.ntmps8
  go_wp2_with fail
  refine (HC.out).mono ?_
  rintro e w1 ⟨rfl, rfl⟩
  go_wp2_with fail
  go_ret
  exact ⟨rfl, rfl⟩
theorem wordOf_at (k : Nat) (hk : k < words.length) : wordOf (k : Int) = words[k] := by
  have : k < 20 := by rw [words_len] at hk; exact hk
  unfold wordOf; rw [if_pos (by omega)]; simp [List.getD_eq_getElem?_getD, List.getElem?_eq_getElem hk]
theorem spec_CodeOf (s : ByteArray) (w : World) : Calls Tryd.prog 7 #[.string s] w fun e w' => e = .returned (.int .i64 (idxI (isW s) words)) ∧ Ext w w' := by
  go_enter Tryd.func7, Tryd.ntmps7
  go_wp2
  go_loopw [3] (fun i wr => ∃ k : Nat, k ≤ 20 ∧ i = .int .i64 k ∧ Ext w wr ∧ ∀ j, (hj : j < words.length) → j < k → isW s (words[j]'hj) = false) (fun i _ => 20 - (intOf i).toNat)
  case atStart => exact ⟨0, Nat.zero_le _, rfl, Ext.refl _, fun j _ h => absurd h (Nat.not_lt_zero _)⟩
  case round =>
    obtain ⟨k, hk, rfl, hE, hb⟩ := hrel
    have HB := Lib.hid hb
    clear hb
    by_cases hlt : k < 20
    · have hkl : k < words.length := by rw [words_len]; exact hlt
      have hW := fun W => spec_CodeWord (k : Int) W
      rw [wordOf_at k hkl] at hW
      have h19 : (k : Int) ≤ 19 := by omega
      rcases hv : isW s words[k] with _ | _
      · have HV := Lib.hid hv
        have he : (words[k].toList == s.toList) = false := hv
        clear hv
        generalize words[k] = x at hW he
        have HW := Lib.hid hW
        clear hW
        go_wp2_with fail
        refine (HW.out _).mono ?_
        rintro e w1 ⟨rfl, E1⟩
        go_wp2_with fail
        go_roundw
        case rel => exact ⟨k + 1, by omega, by go_num, hE.trans E1, fun j hj hjk => by
          rcases Nat.lt_or_ge j k with h | h
          · exact HB.out j hj h
          · have : j = k := by omega
            subst this; exact HV.out⟩
        case measure => simp [intOf]; omega
      · have HV := Lib.hid (idxI_found hkl hv HB.out)
        have he : (words[k].toList == s.toList) = true := hv
        clear hv
        generalize words[k] = x at hW he
        have HW := Lib.hid hW
        clear hW
        go_wp2_with fail
        refine (HW.out _).mono ?_
        rintro e w1 ⟨rfl, E1⟩
        go_wp2_with fail
        go_ret
        exact ⟨by rw [HV.out]; rfl, hE.trans E1⟩
    · have hk2 : k = 20 := by omega
      have HV := Lib.hid (idxI_none (p := isW s) (l := words) (fun j hj => HB.out j hj (by rw [words_len] at hj; omega)))
      subst hk2
      go_wp2_with fail
      go_ret
      exact ⟨by rw [HV.out]; rfl, hE⟩
theorem walk_FnExactCodeOf (w : World) (hT : Table w) (s : ByteArray) (ws : s.size ≤ maxLen) : Calls Tryd.prog 4 #[.string s] w fun e w' => e = .returned (.bool true) ∧ Ext w w' := by
  unfold maxLen at ws
  have hS := spec_CodeOf s
  have hI := impl_CodeOf s
  generalize idxI (isW s) words = x at hS hI
  have HS := Lib.hid hS
  have HI := Lib.hid hI
  have HT := Lib.hid hT
  clear hS hI hT
  by_cases hbig : (1048576 : Int) < (s.size : Int)
  · go_enter Tryd.func4, Tryd.ntmps4
    go_wp2_with fail
    go_ret
    exact ⟨rfl, Ext.refl _⟩
  go_enter Tryd.func4, Tryd.ntmps4
  go_wp2_with fail
  refine (HS.out _).mono ?_
  rintro e w1 ⟨rfl, E1⟩
  go_wp2_with fail
  refine (HI.out _ (HT.out.ext E1)).mono ?_
  rintro e w2 ⟨rfl, rfl⟩
  go_wp2_with fail
  go_ret
  exact ⟨rfl, E1⟩
end Go.Proofs.YtpjpkkninkpllaaDoor
