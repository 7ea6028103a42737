/- Plain facts about bytes: numbers in four bytes, numbers read back, sums behind bytes, fields. No program in sight. -/
import Derived.Test.YteaefjicpefgnaaMem
import Derived.Test.YteaefjicpefgnaaCrcPlain
namespace Go.Proofs.Yteaefjicpefgnaa
open Go.RowKit
set_option linter.unusedVariables false
set_option maxRecDepth 100000

/-- a number in four bytes -/
def four (n : Nat) : List UInt8 := [UInt8.ofNat (n / 16777216), UInt8.ofNat (n / 65536), UInt8.ofNat (n / 256), UInt8.ofNat n]
/-- the number that bytes are -/
def bigN (l : List UInt8) : Nat := l.foldl (fun n c => n * 256 + c.toNat) 0
theorem bigN_snoc (l : List UInt8) (k : Nat) (hk : k < l.length) : bigN (l.take (k + 1)) = bigN (l.take k) * 256 + (l[k]'hk).toNat := by
  unfold bigN; rw [List.take_succ_eq_append_getElem hk, List.foldl_append]; rfl
theorem bigN_append (l : List UInt8) (c : UInt8) : bigN (l ++ [c]) = bigN l * 256 + c.toNat := by
  unfold bigN; rw [List.foldl_append]; rfl
theorem bigN_lt_from (l : List UInt8) : ∀ a : Nat, l.foldl (fun n c => n * 256 + c.toNat) a + 1 ≤ (a + 1) * 256 ^ l.length := by
  induction l with
  | nil => intro a; simp
  | cons c l ih =>
    intro a
    have h := ih (a * 256 + c.toNat)
    have hc := c.toNat_lt
    have h2 : (a * 256 + c.toNat + 1) * 256 ^ l.length ≤ ((a + 1) * 256) * 256 ^ l.length := Nat.mul_le_mul_right _ (by omega)
    rw [List.foldl_cons, List.length_cons, Nat.pow_succ, Nat.mul_comm (256 ^ l.length) 256, ← Nat.mul_assoc]
    omega
theorem bigN_lt (l : List UInt8) : bigN l < 256 ^ l.length := by
  have h := bigN_lt_from l 0
  unfold bigN
  omega
theorem bigN_lt4 (l : List UInt8) (h : l.length ≤ 4) : bigN l < 4294967296 := by
  have h1 := bigN_lt l
  have h2 : 256 ^ l.length ≤ 256 ^ 4 := Nat.pow_le_pow_right (by omega) h
  omega
theorem i64_shl8_or (n c : Nat) (hn : n < 4294967296) (hc : c < 256) : bits .or .i64 ((n : Int) * 256) (c : Int) = ((n * 256 + c : Nat) : Int) := by
  have e : ((n : Int) * 256) = ((n * 256 : Nat) : Int) := by push_cast; rfl
  rw [e]
  have hj : n * 256 ||| c = n * 256 + c := nat_join 8 (n * 256) c (by omega) (by omega)
  show IntKind.i64.wrap ((BitVec.ofInt 64 ((n * 256 : Nat) : Int) ||| BitVec.ofInt 64 (c : Int)).toNat : Int) = _
  rw [BitVec.toNat_or, ofInt_u64 _ (by omega), ofInt_u64 c (by omega), hj, IntKind.wrap_i64]
  omega
/-- bytes with their sum behind -/
def sealB (l : List UInt8) : List UInt8 := l ++ four (crc l)
/-- bytes of fields: how many, of each how long it is, it -/
def fieldsB (ts : List ByteArray) : List UInt8 := UInt8.ofNat ts.length :: ts.flatMap fun t => UInt8.ofNat t.size :: t.data.toList
end Go.Proofs.Yteaefjicpefgnaa
