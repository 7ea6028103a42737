/- The words of the codes. No program in sight. -/
import Derived.Test.YtpjpkkninkpllaaDoorMem
namespace Go.Proofs.YtpjpkkninkpllaaDoor
open Go.RowKit
set_option linter.unusedVariables false
/-- the words of the codes, as bytes -/
def wordBytes : List (List UInt8) := [[111, 107], [98, 97, 100], [108, 111, 110, 103], [102, 111, 114, 109], [114, 97, 110, 103, 101], [110, 111, 110, 101], [109, 97, 110, 121], [102, 117, 108, 108], [115, 117, 109], [116, 119, 105, 99, 101], [116, 121, 112, 101], [122, 101, 114, 111], [111, 118, 101, 114], [119, 97, 105, 116], [100, 101, 97, 100, 108, 111, 99, 107], [100, 111, 119, 110], [100, 101, 112, 116, 104], [107, 101, 121], [99, 111, 108, 117, 109, 110], [116, 120]]
def words : List ByteArray := wordBytes.map fun l => ⟨l.toArray⟩
/-- the word of a code: nothing where there is none -/
def wordOf (k : Int) : ByteArray := if 0 ≤ k ∧ k < 20 then words.getD k.toNat ByteArray.empty else ByteArray.empty
theorem words_len : words.length = 20 := rfl
theorem code_cases (k : Int) (h0 : 0 ≤ k) (h1 : k < 20) : k = 0 ∨ k = 1 ∨ k = 2 ∨ k = 3 ∨ k = 4 ∨ k = 5 ∨ k = 6 ∨ k = 7 ∨ k = 8 ∨ k = 9 ∨ k = 10 ∨ k = 11 ∨ k = 12 ∨ k = 13 ∨ k = 14 ∨ k = 15 ∨ k = 16 ∨ k = 17 ∨ k = 18 ∨ k = 19 := by omega
end Go.Proofs.YtpjpkkninkpllaaDoor
