/- Plain facts about the sum: no program in sight. -/
import Derived.WalkKit
namespace Go.Proofs.Ytpjpkkninkpllaa

theorem i64_xor_nat (a b : Nat) (ha : a < 4294967296) (hb : b < 4294967296) : bits .xor .i64 (a : Int) (b : Int) = ((a ^^^ b : Nat) : Int) := by
  have hx : a ^^^ b < 2 ^ 32 := Nat.xor_lt_two_pow (by omega) (by omega)
  show IntKind.i64.wrap ((BitVec.ofInt 64 (a : Int) ^^^ BitVec.ofInt 64 (b : Int)).toNat : Int) = _
  rw [BitVec.toNat_xor, ofInt_u64 a (by omega), ofInt_u64 b (by omega), IntKind.wrap_i64]
  omega
theorem i64_and_nat (a b : Nat) (ha : a < 4294967296) (hb : b < 4294967296) : bits .and .i64 (a : Int) (b : Int) = ((a &&& b : Nat) : Int) := by
  have hx : a &&& b < 2 ^ 32 := Nat.and_lt_two_pow _ (by omega)
  show IntKind.i64.wrap ((BitVec.ofInt 64 (a : Int) &&& BitVec.ofInt 64 (b : Int)).toNat : Int) = _
  rw [BitVec.toNat_and, ofInt_u64 a (by omega), ofInt_u64 b (by omega), IntKind.wrap_i64]
  omega
/-- one bit of the sum -/
def stp (s : Nat) : Nat := if s % 2 = 1 then (s / 2) ^^^ 3988292384 else s / 2
def stpN : Nat → Nat → Nat
  | 0, s => s
  | k + 1, s => stp (stpN k s)
def crcB (s : Nat) (c : UInt8) : Nat := stpN 8 (s ^^^ c.toNat)
def crcL (s : Nat) (l : List UInt8) : Nat := l.foldl crcB s
/-- the sum of bytes -/
def crc (l : List UInt8) : Nat := crcL 4294967295 l ^^^ 4294967295

theorem xor_lt32 {a b : Nat} (ha : a < 4294967296) (hb : b < 4294967296) : a ^^^ b < 4294967296 := Nat.xor_lt_two_pow (n := 32) ha hb
theorem stp_lt {s : Nat} (h : s < 4294967296) : stp s < 4294967296 := by
  unfold stp
  split
  · exact xor_lt32 (by omega) (by omega)
  · omega
theorem stpN_lt {s : Nat} (h : s < 4294967296) (k : Nat) : stpN k s < 4294967296 := by
  induction k with
  | zero => exact h
  | succ k ih => exact stp_lt ih
theorem crcB_lt {s : Nat} (h : s < 4294967296) (c : UInt8) : crcB s c < 4294967296 := by
  have := c.toNat_lt
  exact stpN_lt (xor_lt32 h (by omega)) 8
theorem crcL_lt {s : Nat} (h : s < 4294967296) (l : List UInt8) : crcL s l < 4294967296 := by
  induction l generalizing s with
  | nil => exact h
  | cons c r ih => exact ih (crcB_lt h c)
theorem crc_lt (l : List UInt8) : crc l < 4294967296 := xor_lt32 (crcL_lt (by omega) l) (by omega)
theorem crcL_snoc (s : Nat) (l : List UInt8) (k : Nat) (hk : k < l.length) : crcL s (l.take (k + 1)) = crcB (crcL s (l.take k)) l[k] := by
  unfold crcL; rw [List.take_succ_eq_append_getElem hk, List.foldl_append]; rfl
theorem stp_odd {s : Nat} (h : s % 2 = 1) : stp s = (s / 2) ^^^ 3988292384 := by simp [stp, h]
theorem stp_even {s : Nat} (h : ¬ s % 2 = 1) : stp s = s / 2 := by simp [stp, h]
theorem crc_odd {t j q : Nat} (hT : stpN j q = t) (h : t % 2 = 1) (ht : t < 4294967296) : bits .xor .u32 ((t : Int) / 2) 3988292384 = ((stpN (j + 1) q : Nat) : Int) := by
  have e : ((t : Int) / 2) = ((t / 2 : Nat) : Int) := by omega
  have := u32_xor_nat (t / 2) 3988292384 (by omega) (by omega)
  rw [e]
  refine this.trans ?_
  rw [show stpN (j + 1) q = stp (stpN j q) from rfl, hT, stp_odd h]
theorem crc_odd64 {t j q : Nat} (hT : stpN j q = t) (h : t % 2 = 1) (ht : t < 4294967296) : bits .xor .i64 ((t : Int) / 2) 3988292384 = ((stpN (j + 1) q : Nat) : Int) := by
  have e : ((t : Int) / 2) = ((t / 2 : Nat) : Int) := by omega
  have := i64_xor_nat (t / 2) 3988292384 (by omega) (by omega)
  rw [e]
  refine this.trans ?_
  rw [show stpN (j + 1) q = stp (stpN j q) from rfl, hT, stp_odd h]
theorem crc_even64 {t j q : Nat} (hT : stpN j q = t) (h : ¬ t % 2 = 1) (ht : t < 4294967296) : bits .xor .i64 ((t : Int) / 2) 0 = ((stpN (j + 1) q : Nat) : Int) := by
  have e : ((t : Int) / 2) = ((t / 2 : Nat) : Int) := by omega
  have := i64_xor_nat (t / 2) 0 (by omega) (by omega)
  rw [e]
  refine this.trans ?_
  rw [show stpN (j + 1) q = stp (stpN j q) from rfl, hT, stp_even h, Nat.xor_zero]
theorem crc_end64 (l : List UInt8) (r : Nat) (h : crcL 4294967295 l = r) (hr : r < 4294967296) : bits .xor .i64 (r : Int) 4294967295 = ((crc l : Nat) : Int) := by
  have := i64_xor_nat r 4294967295 hr (by omega)
  refine this.trans ?_
  rw [crc, h]
theorem crc_even {t j q : Nat} (hT : stpN j q = t) (h : ¬ t % 2 = 1) : ((t : Int) / 2) = ((stpN (j + 1) q : Nat) : Int) := by
  rw [show stpN (j + 1) q = stp (stpN j q) from rfl, hT, stp_even h]; omega
theorem crc_end (l : List UInt8) (r : Nat) (h : crcL 4294967295 l = r) (hr : r < 4294967296) : bits .xor .u32 (r : Int) 4294967295 = ((crc l : Nat) : Int) := by
  have := u32_xor_nat r 4294967295 hr (by omega)
  refine this.trans ?_
  rw [crc, h]
end Go.Proofs.Ytpjpkkninkpllaa
