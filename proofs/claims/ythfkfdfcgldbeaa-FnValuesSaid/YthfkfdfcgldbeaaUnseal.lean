/- The walks of what reads sealed bytes. -/
import Derived.Test.YthfkfdfcgldbeaaHeader
namespace Go.Proofs.Ythfkfdfcgldbeaa
open Go.RowKit Go.Deep
set_option linter.unusedVariables false
set_option maxRecDepth 100000

theorem rd_take {w : World} {A : Option Addr} {xs : List Value} (h : Rd w A xs) (k : Nat) : Rd w A (xs.take k) := fun hx => by
  obtain ⟨b, o, e, h⟩ := h (by intro h0; rw [h0] at hx; simp at hx)
  refine ⟨b, o, e, fun j u hu => h j u ?_⟩
  rw [List.getElem?_take] at hu
  by_cases hj : j < k
  · rwa [if_pos hj] at hu
  · rw [if_neg hj] at hu; cases hu
theorem rd_drop {w : World} {b o : Nat} {xs : List Value} (h : Rd w (some ⟨b, o, none⟩) xs) (k : Nat) : Rd w (some ⟨b, o + k, none⟩) (xs.drop k) := fun hx => by
  obtain ⟨b', o', e, h⟩ := h (by intro h0; rw [h0] at hx; simp at hx)
  injection e with e
  injection e with e1 e2 _
  subst e1; subst e2
  refine ⟨b, o + k, rfl, fun j u hu => ?_⟩
  rw [List.getElem?_drop] at hu
  rw [Nat.add_assoc]
  exact h _ u hu
/-- whether bytes are sealed -/
def sealB? (l : List UInt8) : Bool := decide (4 ≤ l.length) && (crc (l.take (l.length - 4)) == bigN (l.drop (l.length - 4)))
/-- the bytes that are sealed -/
def bodyB (l : List UInt8) : List UInt8 := l.take (l.length - 4)
set_option maxHeartbeats 400000 in
theorem impl_big (A : Option Addr) (n cp : Nat) (l : List UInt8) (w : World) (hl : l.length = n) (hn : n ≤ 4) (hr : Rd w A (l.map fun c => Value.int .u8 (c.toNat : Int))) :
    Calls Try.prog 154 #[.slice A n cp] w fun e w' => e = .returned (.int .i64 (bigN l : Nat)) ∧ w = w' := by
  have HL := Lib.hid hl
  clear hl
  go_enter Try.func154, Try.ntmps154
  go_wp2
  go_loop [8, 3] (fun i s => ∃ k : Nat, k ≤ n ∧ i = .int .i64 k ∧ s = .int .i64 (bigN (l.take k) : Nat)) (fun i _ => n - (intOf i).toNat)
  case atStart => exact ⟨0, Nat.zero_le _, rfl, rfl⟩
  case round =>
    obtain ⟨k, hk, rfl, rfl⟩ := hrel
    by_cases hlt : k < n
    · have hkl : k < l.length := by rw [HL.out]; exact hlt
      obtain ⟨b, o, rfl, hc⟩ := hr.map_ hkl
      have hlt2 : (k : Int) < (n : Int) := by omega
      have hb : l[k].toNat < 256 := l[k].toNat_lt
      have hr4 : bigN (l.take k) < 16777216 := by
        have h1 := bigN_lt (l.take k)
        have h2 : 256 ^ (l.take k).length ≤ 256 ^ 3 := Nat.pow_le_pow_right (by omega) (by rw [List.length_take]; omega)
        omega
      have hs := Lib.hid (bigN_snoc l k hkl)
      generalize bigN (l.take k) = r at hr4 hs ⊢
      have ho := i64_shl8_or r l[k].toNat (by omega) hb
      go_wp2
      go_round
      case rel => exact ⟨k + 1, by omega, by go_num, by rw [hs.out]; first | rfl | go_num⟩
      case measure => simp [intOf]; omega
    · have hk2 : k = n := by omega
      subst hk2
      have HT := Lib.hid (show l.take k = l from List.take_of_length_le (by rw [HL.out]; exact Nat.le_refl _))
      go_wp2
      go_ret
      exact ⟨by rw [HT.out]; rfl, rfl⟩
set_option maxHeartbeats 400000 in
theorem spec_l01Of (s : ByteArray) (w : World) (hn : s.size ≤ 4) :
    Calls Try.prog 115 #[.string s] w fun e w' => e = .returned (.int .i64 (bigN s.data.toList : Nat)) ∧ w = w' := by
  go_enter Try.func115, Try.ntmps115
  go_wp2
  go_loop [4, 3] (fun i r => ∃ k : Nat, k ≤ s.size ∧ i = .int .i64 k ∧ r = .int .i64 (bigN (s.data.toList.take k) : Nat)) (fun i _ => s.size - (intOf i).toNat)
  case atStart => exact ⟨0, Nat.zero_le _, rfl, rfl⟩
  case round =>
    obtain ⟨k, hk, rfl, rfl⟩ := hrel
    by_cases hlt : k < s.size
    · have hkl : k < s.data.toList.length := by simpa using hlt
      have hlt2 : (k : Int) < (s.size : Int) := by omega
      have hb : s[k].toNat < 256 := s[k].toNat_lt
      have hr4 : bigN (s.data.toList.take k) < 16777216 := by
        have h1 := bigN_lt (s.data.toList.take k)
        have h2 : 256 ^ (s.data.toList.take k).length ≤ 256 ^ 3 := Nat.pow_le_pow_right (by omega) (by rw [List.length_take]; omega)
        omega
      have hs := Lib.hid (show bigN (s.data.toList.take (k + 1)) = bigN (s.data.toList.take k) * 256 + s[k].toNat from by rw [bigN_snoc _ k hkl]; rfl)
      generalize bigN (s.data.toList.take k) = r at hr4 hs ⊢
      go_wp2
      go_round
      case rel => exact ⟨k + 1, by omega, by go_num, by rw [hs.out]; first | rfl | go_num⟩
      case measure => simp [intOf]; omega
    · have hk2 : k = s.size := by omega
      subst hk2
      have HT := Lib.hid (show s.data.toList.take s.size = s.data.toList from List.take_of_length_le (by simp))
      go_wp2
      go_ret
      exact ⟨by rw [HT.out]; rfl, rfl⟩
end Go.Proofs.Ythfkfdfcgldbeaa
