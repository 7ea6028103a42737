/- The walks of the two sums. -/
import Derived.Test.YteaefjicpefgnaaRows
import Derived.Test.YteaefjicpefgnaaMem
import Derived.Test.YteaefjicpefgnaaCrcPlain
namespace Go.Proofs.Yteaefjicpefgnaa
open Go.RowKit Go.Deep
set_option linter.unusedVariables false
set_option maxRecDepth 100000
set_option maxHeartbeats 400000 in
theorem impl_check32 (A : Option Addr) (n cp : Nat) (l : List UInt8) (w : World) (hl : l.length = n) (hn : n ≤ 1099511627776) (hr : Rd w A (l.map fun c => Value.int .u8 (c.toNat : Int))) :
    Calls Try.prog 103 #[.slice A n cp] w fun e w' => e = .returned (.int .u32 (crc l : Nat)) ∧ w = w' := by
  have HL := Lib.hid hl
  clear hl
  go_enter Try.func103, Try.ntmps103
  go_wp2
  go_loop [8, 3] (fun i s => ∃ k : Nat, k ≤ n ∧ i = .int .i64 k ∧ s = .int .u32 (crcL 4294967295 (l.take k) : Nat))
    (fun i _ => n - (intOf i).toNat)
  case atStart => exact ⟨0, Nat.zero_le _, rfl, rfl⟩
  case round =>
    obtain ⟨k, hk, rfl, rfl⟩ := hrel
    have hr4 := crcL_lt (s := 4294967295) (by omega) (l.take k)
    generalize hR : crcL 4294967295 (l.take k) = r at hr4 ⊢
    have HR := Lib.hid hR
    clear hR
    by_cases hlt : k < n
    · have hkl : k < l.length := by rw [HL.out]; exact hlt
      obtain ⟨b, o, rfl, hc⟩ := hr.map_ hkl
      have hlt2 : (k : Int) < (n : Int) := by omega
      have hb : l[k].toNat < 256 := l[k].toNat_lt
      have hx := u32_xor_nat r l[k].toNat hr4 (by omega)
      have h14 := xor_lt32 hr4 (b := l[k].toNat) (by omega)
      generalize hq : r ^^^ l[k].toNat = q at hx h14
      have HQ := Lib.hid hq
      clear hq
      go_wp2
      go_loop [16, 3] (fun i s => ∃ j : Nat, j ≤ 8 ∧ i = .int .i64 j ∧ s = .int .u32 (stpN j q : Nat)) (fun i _ => 8 - (intOf i).toNat)
      case atStart => exact ⟨0, Nat.zero_le _, rfl, rfl⟩
      case round =>
        obtain ⟨j, hj, rfl, rfl⟩ := hrel
        clear hx
        have ht4 := stpN_lt h14 j
        generalize hT : stpN j q = t at ht4 ⊢
        have HT := Lib.hid hT
        clear hT
        by_cases hj8 : j < 8
        · have hj2 : (j : Int) < 8 := by omega
          by_cases ho : t % 2 = 1
          · have ha : bits .and .u32 (t : Int) 1 = 1 := by
              have := u32_and_nat t 1 ht4 (by omega)
              rw [nat_mask1, ho] at this; exact this
            have HO := Lib.hid ho
            clear ho
            go_wp2
            go_round
            case rel => exact ⟨j + 1, by omega, by go_num, by rw [crc_odd HT.out HO.out ht4]⟩
            case measure => simp [intOf]; omega
          · have ha : bits .and .u32 (t : Int) 1 = 0 := by
              have := u32_and_nat t 1 ht4 (by omega)
              rw [nat_mask1, show t % 2 = 0 from by omega] at this; exact this
            have HO := Lib.hid ho
            clear ho
            go_wp2
            go_round
            case rel => exact ⟨j + 1, by omega, by go_num, by rw [crc_even HT.out HO.out]⟩
            case measure => simp [intOf]; omega
        · have hj2 : j = 8 := by omega
          subst hj2
          go_wp2
          go_round
          case rel => exact ⟨k + 1, by omega, by go_num, by rw [crcL_snoc _ _ _ hkl, HR.out, ← HT.out, ← HQ.out]; rfl⟩
          case measure => simp [intOf]; omega
    · have hk2 : k = n := by omega
      subst hk2
      have HE := Lib.hid (crc_end l r (by rw [← HR.out, List.take_of_length_le (by rw [HL.out]; omega)]) hr4)
      go_wp2
      go_ret
      exact ⟨ret_int HE.out, rfl⟩
set_option maxHeartbeats 400000 in
theorem spec_check (A : Option Addr) (n cp : Nat) (l : List UInt8) (w : World) (hl : l.length = n) (hn : n ≤ 1099511627776) (hr : Rd w A (l.map fun c => Value.int .u8 (c.toNat : Int))) :
    Calls Try.prog 109 #[.slice A n cp] w fun e w' => e = .returned (.int .i64 (crc l : Nat)) ∧ w = w' := by
  have HL := Lib.hid hl
  clear hl
  go_enter Try.func109, Try.ntmps109
  go_wp2
  go_loop [4, 3] (fun i s => ∃ k : Nat, k ≤ n ∧ i = .int .i64 k ∧ s = .int .i64 (crcL 4294967295 (l.take k) : Nat))
    (fun i _ => n - (intOf i).toNat)
  case atStart => exact ⟨0, Nat.zero_le _, rfl, rfl⟩
  case round =>
    obtain ⟨k, hk, rfl, rfl⟩ := hrel
    have hr4 := crcL_lt (s := 4294967295) (by omega) (l.take k)
    generalize hR : crcL 4294967295 (l.take k) = r at hr4 ⊢
    have HR := Lib.hid hR
    clear hR
    by_cases hlt : k < n
    · have hkl : k < l.length := by rw [HL.out]; exact hlt
      obtain ⟨b, o, rfl, hc⟩ := hr.map_ hkl
      have hlt2 : (k : Int) < (n : Int) := by omega
      have hb : l[k].toNat < 256 := l[k].toNat_lt
      have hx := i64_xor_nat r l[k].toNat hr4 (by omega)
      have h14 := xor_lt32 hr4 (b := l[k].toNat) (by omega)
      generalize hq : r ^^^ l[k].toNat = q at hx h14
      have HQ := Lib.hid hq
      clear hq
      go_wp2
      go_loop [5, 3] (fun i s => ∃ j : Nat, j ≤ 8 ∧ i = .int .i64 j ∧ s = .int .i64 (stpN j q : Nat)) (fun i _ => 8 - (intOf i).toNat)
      case atStart => exact ⟨0, Nat.zero_le _, rfl, rfl⟩
      case round =>
        obtain ⟨j, hj, rfl, rfl⟩ := hrel
        clear hx
        have ht4 := stpN_lt h14 j
        generalize hT : stpN j q = t at ht4 ⊢
        have HT := Lib.hid hT
        clear hT
        by_cases hj8 : j < 8
        · have hj2 : (j : Int) < 8 := by omega
          by_cases ho : t % 2 = 1
          · have ha : bits .and .i64 (t : Int) 1 = 1 := by
              have := i64_and_nat t 1 ht4 (by omega)
              rw [nat_mask1, ho] at this; exact this
            have HO := Lib.hid ho
            clear ho
            go_wp2
            go_round
            case rel => exact ⟨j + 1, by omega, by go_num, by rw [crc_odd64 HT.out HO.out ht4]⟩
            case measure => simp [intOf]; omega
          · have ha : bits .and .i64 (t : Int) 1 = 0 := by
              have := i64_and_nat t 1 ht4 (by omega)
              rw [nat_mask1, show t % 2 = 0 from by omega] at this; exact this
            have HO := Lib.hid ho
            clear ho
            go_wp2
            go_round
            case rel => exact ⟨j + 1, by omega, by go_num, by rw [crc_even64 HT.out HO.out ht4]⟩
            case measure => simp [intOf]; omega
        · have hj2 : j = 8 := by omega
          subst hj2
          go_wp2
          go_round
          case rel => exact ⟨k + 1, by omega, by go_num, by rw [crcL_snoc _ _ _ hkl, HR.out, ← HT.out, ← HQ.out]; rfl⟩
          case measure => simp [intOf]; omega
    · have hk2 : k = n := by omega
      subst hk2
      have HE := Lib.hid (crc_end64 l r (by rw [← HR.out, List.take_of_length_le (by rw [HL.out]; omega)]) hr4)
      go_wp2
      go_ret
      exact ⟨ret_int HE.out, rfl⟩
end Go.Proofs.Yteaefjicpefgnaa
