/- The walks of HeaderBytes. -/
import Derived.Test.YthfkfdfcgldbeaaCodec
import Derived.Test.YthfkfdfcgldbeaaMark
import Derived.Lib.ConvBytes
namespace Go.Proofs.Ythfkfdfcgldbeaa
open Go.RowKit Go.Deep
set_option linter.unusedVariables false
set_option maxRecDepth 100000

/-- a text's bytes, read in the row that '[]byte(t)' makes -/
theorem bytesWorld_rd (w : World) (e : TypeId) (s : ByteArray) : Rd (Lib.bytesWorld w e s) (some ⟨w.heap.size, 0, none⟩) (s.data.toList.map fun c => Value.int .u8 (c.toNat : Int)) := fun _ => ⟨w.heap.size, 0, rfl, fun j u hu => by
  have hj : j < s.data.toList.length := by
    rcases Nat.lt_or_ge j s.data.toList.length with h | h
    · exact h
    · rw [List.getElem?_eq_none (by simpa using h)] at hu; cases hu
  rw [Nat.zero_add, Lib.bytesWorld_cell w e s j (by simpa using hj)]
  rw [List.getElem?_map, List.getElem?_eq_getElem hj] at hu
  rw [← hu, List.getD_eq_getElem?_getD, List.getElem?_eq_getElem hj]
  rfl⟩
theorem bytesWorld_ext (w : World) (e : TypeId) (s : ByteArray) : Ext w (Lib.bytesWorld w e s) :=
  ⟨rfl, rfl, rfl, by rw [Lib.bytesWorld_size]; omega, fun k hk => Lib.bytesWorld_at_old w e s k hk⟩
def headB (n : Nat) : List UInt8 := sealB [104, UInt8.ofNat n]
theorem headB_len (n : Nat) : (headB n).length = 6 := rfl
/-- what HeaderBytes answers -/
def hdrL (x : Int) : List UInt8 := if 0 ≤ x ∧ x ≤ 60 then headB x.toNat else []
def hdrC (x : Int) : Int := if 0 ≤ x ∧ x ≤ 60 then 0 else 4
theorem hdr_cells (n : Nat) (hn : n ≤ 60) : [Value.int .u8 104, Value.int .u8 (n : Int)] = ([104, UInt8.ofNat n] : List UInt8).map fun c => Value.int .u8 (c.toNat : Int) := by
  have : ((UInt8.ofNat n).toNat : Int) = n := by rw [UInt8.toNat_ofNat']; omega
  simp only [List.map_cons, List.map_nil, this]; rfl
theorem nil_own {w : World} {B : Nat} {e : TypeId} : w.ownsRow B e 1 (.slice none 0 0) 0 [] := World.ownsRow_nil _ _ _ _
end Go.Proofs.Ythfkfdfcgldbeaa
