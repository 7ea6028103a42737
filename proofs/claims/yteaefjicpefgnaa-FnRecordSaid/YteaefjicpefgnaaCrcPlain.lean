/- Plain facts about the sum: no program in sight. -/
import Derived.WalkKit
namespace Go.Proofs.Yteaefjicpefgnaa
set_option linter.unusedVariables false
set_option maxRecDepth 100000

theorem i64_xor_nat (a b : Nat) (ha : a < 4294967296) (hb : b < 4294967296) : bits .xor .i64 (a : Int) (b : Int) = ((a ^^^ b : Nat) : Int) := by
  have hx : a ^^^ b < 2 ^ 32 := Nat.xor_lt_two_pow (by omega) (by omega)
  show IntKind.i64.wrap ((BitVec.ofInt 64 (a : Int) ^^^ BitVec.ofInt 64 (b : Int)).toNat : Int) = _
  rw [BitVec.toNat_xor, ofInt_u64 a (by omega), ofInt_u64 b (by omega), IntKind.wrap_i64]
  omega
theorem i64_and_nat (a b : Nat) (ha : a < 4294967296) (hb : b < 4294967296) : bits .and .i64 (a : Int) (b : Int) = ((a &&& b : Nat) : Int) := by
  have hx : a &&& b < 2 ^ 32 := Nat.and_lt_two_pow _ (by omega)
  show IntKind.i64.wrap ((BitVec.ofInt 64 (a : Int) &&& BitVec.ofInt 64 (b : Int)).toNat : Int) = _
  rw [BitVec.toNat_and, ofInt_u64 a (by omega), ofInt_u64 b (by omega), IntKind.wrap_i64]
  omega
/-- one bit of the sum -/
def stp (s : Nat) : Nat := if s % 2 = 1 then (s / 2) ^^^ 3988292384 else s / 2
def stpN : Nat → Nat → Nat
  | 0, s => s
  | k + 1, s => stp (stpN k s)
def crcB (s : Nat) (c : UInt8) : Nat := stpN 8 (s ^^^ c.toNat)
def crcL (s : Nat) (l : List UInt8) : Nat := l.foldl crcB s
/-- the sum of bytes -/
def crc (l : List UInt8) : Nat := crcL 4294967295 l ^^^ 4294967295

theorem xor_lt32 {a b : Nat} (ha : a < 4294967296) (hb : b < 4294967296) : a ^^^ b < 4294967296 := Nat.xor_lt_two_pow (n := 32) ha hb
theorem stp_lt {s : Nat} (h : s < 4294967296) : stp s < 4294967296 := by
  unfold stp
  split
  · exact xor_lt32 (by omega) (by omega)
  · omega
theorem stpN_lt {s : Nat} (h : s < 4294967296) (k : Nat) : stpN k s < 4294967296 := by
  induction k with
  | zero => exact h
  | succ k ih => exact stp_lt ih
theorem crcB_lt {s : Nat} (h : s < 4294967296) (c : UInt8) : crcB s c < 4294967296 := by
  have := c.toNat_lt
  exact stpN_lt (xor_lt32 h (by omega)) 8
theorem crcL_lt {s : Nat} (h : s < 4294967296) (l : List UInt8) : crcL s l < 4294967296 := by
  induction l generalizing s with
  | nil => exact h
  | cons c r ih => exact ih (crcB_lt h c)
theorem crc_lt (l : List UInt8) : crc l < 4294967296 := xor_lt32 (crcL_lt (by omega) l) (by omega)
theorem crcL_snoc (s : Nat) (l : List UInt8) (k : Nat) (hk : k < l.length) : crcL s (l.take (k + 1)) = crcB (crcL s (l.take k)) l[k] := by
  unfold crcL; rw [List.take_succ_eq_append_getElem hk, List.foldl_append]; rfl
theorem stp_odd {s : Nat} (h : s % 2 = 1) : stp s = (s / 2) ^^^ 3988292384 := by simp [stp, h]
theorem stp_even {s : Nat} (h : ¬ s % 2 = 1) : stp s = s / 2 := by simp [stp, h]
theorem crc_odd {t j q : Nat} (hT : stpN j q = t) (h : t % 2 = 1) (ht : t < 4294967296) : bits .xor .u32 ((t : Int) / 2) 3988292384 = ((stpN (j + 1) q : Nat) : Int) := by
  have e : ((t : Int) / 2) = ((t / 2 : Nat) : Int) := by omega
  have := u32_xor_nat (t / 2) 3988292384 (by omega) (by omega)
  rw [e]
  refine this.trans ?_
  rw [show stpN (j + 1) q = stp (stpN j q) from rfl, hT, stp_odd h]
theorem crc_odd64 {t j q : Nat} (hT : stpN j q = t) (h : t % 2 = 1) (ht : t < 4294967296) : bits .xor .i64 ((t : Int) / 2) 3988292384 = ((stpN (j + 1) q : Nat) : Int) := by
  have e : ((t : Int) / 2) = ((t / 2 : Nat) : Int) := by omega
  have := i64_xor_nat (t / 2) 3988292384 (by omega) (by omega)
  rw [e]
  refine this.trans ?_
  rw [show stpN (j + 1) q = stp (stpN j q) from rfl, hT, stp_odd h]
theorem crc_even64 {t j q : Nat} (hT : stpN j q = t) (h : ¬ t % 2 = 1) (ht : t < 4294967296) : bits .xor .i64 ((t : Int) / 2) 0 = ((stpN (j + 1) q : Nat) : Int) := by
  have e : ((t : Int) / 2) = ((t / 2 : Nat) : Int) := by omega
  have := i64_xor_nat (t / 2) 0 (by omega) (by omega)
  rw [e]
  refine this.trans ?_
  rw [show stpN (j + 1) q = stp (stpN j q) from rfl, hT, stp_even h, Nat.xor_zero]
theorem crc_end64 (l : List UInt8) (r : Nat) (h : crcL 4294967295 l = r) (hr : r < 4294967296) : bits .xor .i64 (r : Int) 4294967295 = ((crc l : Nat) : Int) := by
  have := i64_xor_nat r 4294967295 hr (by omega)
  refine this.trans ?_
  rw [crc, h]
theorem crc_even {t j q : Nat} (hT : stpN j q = t) (h : ¬ t % 2 = 1) : ((t : Int) / 2) = ((stpN (j + 1) q : Nat) : Int) := by
  rw [show stpN (j + 1) q = stp (stpN j q) from rfl, hT, stp_even h]; omega
theorem crc_end (l : List UInt8) (r : Nat) (h : crcL 4294967295 l = r) (hr : r < 4294967296) : bits .xor .u32 (r : Int) 4294967295 = ((crc l : Nat) : Int) := by
  have := u32_xor_nat r 4294967295 hr (by omega)
  refine this.trans ?_
  rw [crc, h]
theorem xor_cancel {a b c : Nat} (h : a ^^^ c = b ^^^ c) : a = b := by
  have := congrArg (· ^^^ c) h
  simpa [Nat.xor_assoc] using this
theorem xor_cancel' {a b c : Nat} (h : c ^^^ a = c ^^^ b) : a = b := by
  rw [Nat.xor_comm c a, Nat.xor_comm c b] at h; exact xor_cancel h
theorem stp_inj {s t : Nat} (hs : s < 4294967296) (ht : t < 4294967296) (h : stp s = stp t) : s = t := by
  by_cases h1 : s % 2 = 1 <;> by_cases h2 : t % 2 = 1
  · rw [stp_odd h1, stp_odd h2] at h
    have := xor_cancel h; omega
  · rw [stp_odd h1, stp_even h2] at h
    have e : 3988292384 = (s / 2) ^^^ (t / 2) := by
      rw [← h, ← Nat.xor_assoc, Nat.xor_self, Nat.zero_xor]
    have := Nat.xor_lt_two_pow (n := 31) (x := s / 2) (y := t / 2) (by omega) (by omega)
    omega
  · rw [stp_even h1, stp_odd h2] at h
    have e : 3988292384 = (t / 2) ^^^ (s / 2) := by
      rw [h, ← Nat.xor_assoc, Nat.xor_self, Nat.zero_xor]
    have := Nat.xor_lt_two_pow (n := 31) (x := t / 2) (y := s / 2) (by omega) (by omega)
    omega
  · rw [stp_even h1, stp_even h2] at h; omega
theorem stpN_inj {s t : Nat} (hs : s < 4294967296) (ht : t < 4294967296) (k : Nat) (h : stpN k s = stpN k t) : s = t := by
  induction k with
  | zero => exact h
  | succ k ih => exact ih (stp_inj (stpN_lt hs k) (stpN_lt ht k) h)
theorem crcB_inj {s t : Nat} (hs : s < 4294967296) (ht : t < 4294967296) (c : UInt8) (h : crcB s c = crcB t c) : s = t := by
  have := c.toNat_lt
  exact xor_cancel (stpN_inj (xor_lt32 hs (by omega)) (xor_lt32 ht (by omega)) 8 h)
theorem crcB_inj' {s : Nat} (hs : s < 4294967296) {c d : UInt8} (h : crcB s c = crcB s d) : c = d := by
  have := c.toNat_lt
  have := d.toNat_lt
  exact UInt8.toNat_inj.1 (xor_cancel' (stpN_inj (xor_lt32 hs (by omega)) (xor_lt32 hs (by omega)) 8 h))
theorem crcL_inj {s t : Nat} (hs : s < 4294967296) (ht : t < 4294967296) (l : List UInt8) (h : crcL s l = crcL t l) : s = t := by
  induction l generalizing s t with
  | nil => exact h
  | cons c r ih => exact crcB_inj hs ht c (ih (crcB_lt hs c) (crcB_lt ht c) h)
theorem crcL_set {s : Nat} (hs : s < 4294967296) (l : List UInt8) (k : Nat) (y : UInt8) (hk : k < l.length) (h : crcL s (l.set k y) = crcL s l) : y = l[k] := by
  induction l generalizing s k with
  | nil => simp at hk
  | cons c r ih =>
    cases k with
    | zero => exact crcB_inj' hs (crcL_inj (crcB_lt hs y) (crcB_lt hs c) r h)
    | succ k => exact ih (crcB_lt hs c) k (by simpa using hk) h
/-- a byte that is changed changes the sum -/
theorem crc_set (l : List UInt8) (k : Nat) (y : UInt8) (hk : k < l.length) (hy : y ≠ l[k]) : crc (l.set k y) ≠ crc l := fun h =>
  hy (crcL_set (by omega) l k y hk (xor_cancel h))
/-- the bit that is turned -/
def flip (x : UInt8) (s : Nat) : UInt8 := UInt8.ofNat (x.toNat ^^^ 2 ^ s)
theorem flip_toNat (x : UInt8) (s : Nat) (hs : s < 8) : (flip x s).toNat = x.toNat ^^^ 2 ^ s := by
  have h1 : x.toNat < 2 ^ 8 := x.toNat_lt
  have h2 : 2 ^ s < 2 ^ 8 := Nat.pow_lt_pow_right (by omega) hs
  have := Nat.xor_lt_two_pow h1 h2
  unfold flip
  rw [UInt8.toNat_ofNat']; omega
theorem flip_ne (x : UInt8) (s : Nat) (hs : s < 8) : flip x s ≠ x := fun h => by
  have e := congrArg UInt8.toNat h
  rw [flip_toNat x s hs] at e
  have : 2 ^ s = 0 := xor_cancel' (c := x.toNat) (by rw [e, Nat.xor_zero])
  have := Nat.two_pow_pos s
  omega
theorem flip_val (x : UInt8) (s : Nat) (hs : s < 8) : bits .xor .u8 (x.toNat : Int) (2 ^ min s 8 % 256) = ((flip x s).toNat : Int) := by
  have h1 : x.toNat < 256 := x.toNat_lt
  have h2 : 2 ^ s < 2 ^ 8 := Nat.pow_lt_pow_right (by omega) hs
  have e : ((2 : Int) ^ min s 8 % 256) = ((2 ^ s : Nat) : Int) := by
    rw [Nat.min_eq_left (by omega), show ((2 : Int) ^ s) = ((2 ^ s : Nat) : Int) from by push_cast; rfl]
    generalize 2 ^ s = z at h2
    omega
  rw [e, flip_toNat x s hs]
  exact u8_xor_nat _ _ h1 (by omega)
end Go.Proofs.Yteaefjicpefgnaa
