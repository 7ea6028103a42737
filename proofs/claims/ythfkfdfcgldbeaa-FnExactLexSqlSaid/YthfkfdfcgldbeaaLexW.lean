/- The walks of the tests on letters and digits, and of the library's search for one byte. -/
import Derived.Test.YthfkfdfcgldbeaaLexP
import Derived.Test.YthfkfdfcgldbeaaHeader
import Derived.Test.YthfkfdfcgldbeaaTextFuncs
import Derived.Test.YthfkfdfcgldbeaaInRange
import Derived.Lib.Bytealg
namespace Go.Proofs.Ythfkfdfcgldbeaa
open Go.RowKit Go.Deep
set_option linter.unusedVariables false
set_option maxRecDepth 100000
theorem impl_isLetter (c : UInt8) (w : World) : Calls Try.prog 131 #[.int .u8 (c.toNat : Int)] w fun e w' => e = .returned (.bool (letB c)) ∧ w = w' := by
  have HF := Lib.hid (show letB c = (decide (97 ≤ c.toNat) && decide (c.toNat ≤ 122)) from rfl)
  by_cases h1 : 97 ≤ c.toNat
  · have h1I : (97 : Int) ≤ (c.toNat : Int) := by omega
    by_cases h2 : c.toNat ≤ 122
    · have h2I : (c.toNat : Int) ≤ 122 := by omega
      have HV := Lib.hid (show letB c = true by rw [HF.out, decide_eq_true h1, decide_eq_true h2]; rfl)
      clear h1 h2
      go_enter Try.func131, Try.ntmps131
      go_wp2
      go_ret
      exact ⟨ret_bool (by rw [HV.out]; try simp [*]), rfl⟩
    · have h2I : ¬ (c.toNat : Int) ≤ 122 := by omega
      have HV := Lib.hid (show letB c = false by rw [HF.out, decide_eq_false h2, Bool.and_false])
      clear h1 h2
      go_enter Try.func131, Try.ntmps131
      go_wp2
      go_ret
      exact ⟨ret_bool (by rw [HV.out]; try simp [*]), rfl⟩
  · have h1I : ¬ (97 : Int) ≤ (c.toNat : Int) := by omega
    have HV := Lib.hid (show letB c = false by rw [HF.out, decide_eq_false h1]; rfl)
    clear h1
    go_enter Try.func131, Try.ntmps131
    go_wp2
    go_ret
    exact ⟨ret_bool (by rw [HV.out]; try simp [*]), rfl⟩
theorem impl_isDigit (c : UInt8) (w : World) : Calls Try.prog 163 #[.int .u8 (c.toNat : Int)] w fun e w' => e = .returned (.bool (digB c)) ∧ w = w' := by
  have HF := Lib.hid (show digB c = (decide (48 ≤ c.toNat) && decide (c.toNat ≤ 57)) from rfl)
  by_cases h1 : 48 ≤ c.toNat
  · have h1I : (48 : Int) ≤ (c.toNat : Int) := by omega
    by_cases h2 : c.toNat ≤ 57
    · have h2I : (c.toNat : Int) ≤ 57 := by omega
      have HV := Lib.hid (show digB c = true by rw [HF.out, decide_eq_true h1, decide_eq_true h2]; rfl)
      clear h1 h2
      go_enter Try.func163, Try.ntmps163
      go_wp2
      go_ret
      exact ⟨ret_bool (by rw [HV.out]; try simp [*]), rfl⟩
    · have h2I : ¬ (c.toNat : Int) ≤ 57 := by omega
      have HV := Lib.hid (show digB c = false by rw [HF.out, decide_eq_false h2, Bool.and_false])
      clear h1 h2
      go_enter Try.func163, Try.ntmps163
      go_wp2
      go_ret
      exact ⟨ret_bool (by rw [HV.out]; try simp [*]), rfl⟩
  · have h1I : ¬ (48 : Int) ≤ (c.toNat : Int) := by omega
    have HV := Lib.hid (show digB c = false by rw [HF.out, decide_eq_false h1]; rfl)
    clear h1
    go_enter Try.func163, Try.ntmps163
    go_wp2
    go_ret
    exact ⟨ret_bool (by rw [HV.out]; try simp [*]), rfl⟩
theorem spec_l00Digit (c : UInt8) (w : World) : Calls Try.prog 133 #[.int .u8 (c.toNat : Int)] w fun e w' => e = .returned (.bool (digB c)) ∧ w = w' := by
  have HF := Lib.hid (show digB c = (decide (48 ≤ c.toNat) && decide (c.toNat ≤ 57)) from rfl)
  by_cases h1 : 48 ≤ c.toNat
  · have h1I : (48 : Int) ≤ (c.toNat : Int) := by omega
    by_cases h2 : c.toNat ≤ 57
    · have h2I : (c.toNat : Int) ≤ 57 := by omega
      have HV := Lib.hid (show digB c = true by rw [HF.out, decide_eq_true h1, decide_eq_true h2]; rfl)
      clear h1 h2
      go_enter Try.func133, Try.ntmps133
      go_wp2
      go_ret
      exact ⟨ret_bool (by rw [HV.out]; try simp [*]), rfl⟩
    · have h2I : ¬ (c.toNat : Int) ≤ 57 := by omega
      have HV := Lib.hid (show digB c = false by rw [HF.out, decide_eq_false h2, Bool.and_false])
      clear h1 h2
      go_enter Try.func133, Try.ntmps133
      go_wp2
      go_ret
      exact ⟨ret_bool (by rw [HV.out]; try simp [*]), rfl⟩
  · have h1I : ¬ (48 : Int) ≤ (c.toNat : Int) := by omega
    have HV := Lib.hid (show digB c = false by rw [HF.out, decide_eq_false h1]; rfl)
    clear h1
    go_enter Try.func133, Try.ntmps133
    go_wp2
    go_ret
    exact ⟨ret_bool (by rw [HV.out]; try simp [*]), rfl⟩
theorem spec_l10Letter (c : UInt8) (w : World) : Calls Try.prog 132 #[.int .u8 (c.toNat : Int)] w fun e w' => e = .returned (.bool (letB c)) ∧ w = w' := by
  have HF := Lib.hid (show letB c = inB (c.toNat : Int) 97 122 by
    unfold letB inB
    by_cases h1 : 97 ≤ c.toNat <;> by_cases h2 : c.toNat ≤ 122 <;> simp [h1, h2] <;> omega)
  have hc : c.toNat < 256 := c.toNat_lt
  have hw : IntKind.i64.wrap (c.toNat : Int) = (c.toNat : Int) := IntWalk.i64_in _ (by omega)
  have HO := Lib.hid (spec_l01In (c.toNat : Int) 97 122 w)
  go_enter Try.func132, Try.ntmps132
  go_wp2_with fail
  refine HO.out.mono ?_
  rintro e w' ⟨rfl, rfl⟩
  go_wp2_with fail
  go_ret
  exact ⟨ret_bool (by rw [HF.out]), rfl⟩
theorem ext_IndexByteString (s : ByteArray) (c : UInt8) (w : World) : (callFunc 175 #[.string s, .int .u8 (c.toNat : Int)]).run Try.prog w = .ok (.value (.int .i64 (Lib.indexByte s.data.toList c))) w := by
  rw [run_callFunc_extern Try.func175 (by kernel_rfl) (by kernel_rfl) (by kernel_rfl) (e := Extern.BytealgIndexByte.indexByte) (by kernel_rfl), Lib.run_indexByteString]
  simp [Result.andThen]
theorem lib_IndexByte (s : ByteArray) (c : UInt8) (w : World) : Calls Try.prog 171 #[.string s, .int .u8 (c.toNat : Int)] w fun e w' => e = .returned (.int .i64 (Lib.indexByte s.data.toList c)) ∧ w = w' := by
  have HX := Lib.hid (ext_IndexByteString s c w)
  go_enter Try.func171, Try.ntmps171
  go_wp2_with fail
  rw [HX.out, Oper.upon_value]
  go_wp2_with fail
  go_ret
  exact ⟨rfl, rfl⟩
theorem idx_mem (c : UInt8) : ∀ l : List UInt8, 0 ≤ Lib.indexByte l c ↔ c ∈ l
  | [] => by simp [Lib.indexByte]
  | b :: l => by
    have ih := idx_mem c l
    have hg := Lib.indexByte_ge l c
    rw [Lib.indexByte]
    by_cases h1 : b = c
    · simp [h1]
    · have hb : (b == c) = false := by rw [beq_eq_false_iff_ne]; exact h1
      rw [hb]
      have hne : ¬ c = b := fun e => h1 e.symm
      rw [List.mem_cons, ← ih]
      by_cases h2 : Lib.indexByte l c = -1
      · simp [h2, hne]
      · have h3 : (Lib.indexByte l c == -1) = false := by rw [beq_eq_false_iff_ne]; exact h2
        rw [h3]
        simp only [Bool.false_eq_true, if_false]
        constructor
        · intro _; right; omega
        · rintro (h | h)
          · exact absurd h hne
          · omega
def signs : List UInt8 := [40, 41, 43, 45, 42, 47, 61, 60, 44]
theorem signs_mem (c : UInt8) : c ∈ signs ↔ sgnB c = true := by
  have e : ∀ k : UInt8, c = k ↔ c.toNat = k.toNat := fun k => (UInt8.toNat_inj).symm
  unfold signs sgnB
  simp only [List.mem_cons, List.not_mem_nil, or_false, Bool.or_eq_true, beq_iff_eq, e]
  constructor
  · intro h
    rcases h with h | h | h | h | h | h | h | h | h <;> (have h' : c.toNat = _ := h; simp at h'; omega)
  · intro h
    have n40 : (40 : UInt8).toNat = 40 := rfl
    have n41 : (41 : UInt8).toNat = 41 := rfl
    have n43 : (43 : UInt8).toNat = 43 := rfl
    have n45 : (45 : UInt8).toNat = 45 := rfl
    have n42 : (42 : UInt8).toNat = 42 := rfl
    have n47 : (47 : UInt8).toNat = 47 := rfl
    have n61 : (61 : UInt8).toNat = 61 := rfl
    have n60 : (60 : UInt8).toNat = 60 := rfl
    have n44 : (44 : UInt8).toNat = 44 := rfl
    omega
def signsB : ByteArray := ⟨#[40, 41, 43, 45, 42, 47, 61, 60, 44]⟩
theorem one_ne_signs (c : UInt8) : (⟨#[c]⟩ : ByteArray) ≠ signsB := by
  intro e
  have := congrArg ByteArray.size e
  simp [signsB, ByteArray.size] at this
theorem lib_Index1 (c : UInt8) (w : World) : Calls Try.prog 170 #[.string ⟨#[40, 41, 43, 45, 42, 47, 61, 60, 44]⟩, .string ⟨#[c]⟩] w fun e w' => e = .returned (.int .i64 (Lib.indexByte signs c)) ∧ w = w' := by
  have hI := lib_IndexByte signsB c w
  rw [show signsB.data.toList = signs from rfl] at hI
  have HI := Lib.hid hI
  have hne : (⟨#[c]⟩ : ByteArray) ≠ ⟨#[40, 41, 43, 45, 42, 47, 61, 60, 44]⟩ := one_ne_signs c
  clear hI
  go_enter Try.func170, Try.ntmps170
  go_wp2_with fail
  refine HI.out.mono ?_
  rintro e w' ⟨rfl, rfl⟩
  go_wp2_with fail
  go_ret
  exact ⟨rfl, rfl⟩
theorem lib_StrIndex1 (c : UInt8) (w : World) : Calls Try.prog 169 #[.string ⟨#[40, 41, 43, 45, 42, 47, 61, 60, 44]⟩, .string ⟨#[c]⟩] w fun e w' => e = .returned (.int .i64 (Lib.indexByte signs c)) ∧ w = w' := by
  have HI := Lib.hid (lib_Index1 c w)
  go_enter Try.func169, Try.ntmps169
  go_wp2_with fail
  refine HI.out.mono ?_
  rintro e w' ⟨rfl, rfl⟩
  go_wp2_with fail
  go_ret
  exact ⟨rfl, rfl⟩
theorem lib_Contains1 (c : UInt8) (w : World) : Calls Try.prog 164 #[.string ⟨#[40, 41, 43, 45, 42, 47, 61, 60, 44]⟩, .string ⟨#[c]⟩] w fun e w' => e = .returned (.bool (sgnB c)) ∧ w = w' := by
  have HI := Lib.hid (lib_StrIndex1 c w)
  have HF := Lib.hid (show decide (0 ≤ Lib.indexByte signs c) = sgnB c by
    rw [Bool.eq_iff_iff, decide_eq_true_eq, ← signs_mem, idx_mem])
  go_enter Try.func164, Try.ntmps164
  go_wp2_with fail
  refine HI.out.mono ?_
  rintro e w' ⟨rfl, rfl⟩
  go_wp2_with fail
  go_ret
  exact ⟨ret_bool HF.out, rfl⟩
end Go.Proofs.Ythfkfdfcgldbeaa
