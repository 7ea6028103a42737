/- The walks of what reads sealed bytes. -/
import Derived.Test.YteaefjicpefgnaaHeader
namespace Go.Proofs.Yteaefjicpefgnaa
open Go.RowKit Go.Deep
set_option linter.unusedVariables false
set_option maxRecDepth 100000

theorem rd_take {w : World} {A : Option Addr} {xs : List Value} (h : Rd w A xs) (k : Nat) : Rd w A (xs.take k) := fun hx => by
  obtain ⟨b, o, e, h⟩ := h (by intro h0; rw [h0] at hx; simp at hx)
  refine ⟨b, o, e, fun j u hu => h j u ?_⟩
  rw [List.getElem?_take] at hu
  by_cases hj : j < k
  · rwa [if_pos hj] at hu
  · rw [if_neg hj] at hu; cases hu
theorem rd_drop {w : World} {b o : Nat} {xs : List Value} (h : Rd w (some ⟨b, o, none⟩) xs) (k : Nat) : Rd w (some ⟨b, o + k, none⟩) (xs.drop k) := fun hx => by
  obtain ⟨b', o', e, h⟩ := h (by intro h0; rw [h0] at hx; simp at hx)
  injection e with e
  injection e with e1 e2 _
  subst e1; subst e2
  refine ⟨b, o + k, rfl, fun j u hu => ?_⟩
  rw [List.getElem?_drop] at hu
  rw [Nat.add_assoc]
  exact h _ u hu
/-- whether bytes are sealed -/
def sealB? (l : List UInt8) : Bool := decide (4 ≤ l.length) && (crc (l.take (l.length - 4)) == bigN (l.drop (l.length - 4)))
/-- the bytes that are sealed -/
def bodyB (l : List UInt8) : List UInt8 := l.take (l.length - 4)
set_option maxHeartbeats 400000 in
theorem impl_big (A : Option Addr) (n cp : Nat) (l : List UInt8) (w : World) (hl : l.length = n) (hn : n ≤ 4) (hr : Rd w A (l.map fun c => Value.int .u8 (c.toNat : Int))) :
    Calls Try.prog 83 #[.slice A n cp] w fun e w' => e = .returned (.int .i64 (bigN l : Nat)) ∧ w = w' := by
  have HL := Lib.hid hl
  clear hl
  go_enter Try.func83, Try.ntmps83
  go_wp2
  go_loop [8, 3] (fun i s => ∃ k : Nat, k ≤ n ∧ i = .int .i64 k ∧ s = .int .i64 (bigN (l.take k) : Nat)) (fun i _ => n - (intOf i).toNat)
  case atStart => exact ⟨0, Nat.zero_le _, rfl, rfl⟩
  case round =>
    obtain ⟨k, hk, rfl, rfl⟩ := hrel
    by_cases hlt : k < n
    · have hkl : k < l.length := by rw [HL.out]; exact hlt
      obtain ⟨b, o, rfl, hc⟩ := hr.map_ hkl
      have hlt2 : (k : Int) < (n : Int) := by omega
      have hb : l[k].toNat < 256 := l[k].toNat_lt
      have hr4 : bigN (l.take k) < 16777216 := by
        have h1 := bigN_lt (l.take k)
        have h2 : 256 ^ (l.take k).length ≤ 256 ^ 3 := Nat.pow_le_pow_right (by omega) (by rw [List.length_take]; omega)
        omega
      have hs := Lib.hid (bigN_snoc l k hkl)
      generalize bigN (l.take k) = r at hr4 hs ⊢
      have ho := i64_shl8_or r l[k].toNat (by omega) hb
      go_wp2
      go_round
      case rel => exact ⟨k + 1, by omega, by go_num, by rw [hs.out]; first | rfl | go_num⟩
      case measure => simp [intOf]; omega
    · have hk2 : k = n := by omega
      subst hk2
      have HT := Lib.hid (show l.take k = l from List.take_of_length_le (by rw [HL.out]; exact Nat.le_refl _))
      go_wp2
      go_ret
      exact ⟨by rw [HT.out]; rfl, rfl⟩
set_option maxHeartbeats 400000 in
theorem spec_l01Of (s : ByteArray) (w : World) (hn : s.size ≤ 4) :
    Calls Try.prog 110 #[.string s] w fun e w' => e = .returned (.int .i64 (bigN s.data.toList : Nat)) ∧ w = w' := by
  go_enter Try.func110, Try.ntmps110
  go_wp2
  go_loop [4, 3] (fun i r => ∃ k : Nat, k ≤ s.size ∧ i = .int .i64 k ∧ r = .int .i64 (bigN (s.data.toList.take k) : Nat)) (fun i _ => s.size - (intOf i).toNat)
  case atStart => exact ⟨0, Nat.zero_le _, rfl, rfl⟩
  case round =>
    obtain ⟨k, hk, rfl, rfl⟩ := hrel
    by_cases hlt : k < s.size
    · have hkl : k < s.data.toList.length := by simpa using hlt
      have hlt2 : (k : Int) < (s.size : Int) := by omega
      have hb : s[k].toNat < 256 := s[k].toNat_lt
      have hr4 : bigN (s.data.toList.take k) < 16777216 := by
        have h1 := bigN_lt (s.data.toList.take k)
        have h2 : 256 ^ (s.data.toList.take k).length ≤ 256 ^ 3 := Nat.pow_le_pow_right (by omega) (by rw [List.length_take]; omega)
        omega
      have hs := Lib.hid (show bigN (s.data.toList.take (k + 1)) = bigN (s.data.toList.take k) * 256 + s[k].toNat from by rw [bigN_snoc _ k hkl]; rfl)
      generalize bigN (s.data.toList.take k) = r at hr4 hs ⊢
      go_wp2
      go_round
      case rel => exact ⟨k + 1, by omega, by go_num, by rw [hs.out]; first | rfl | go_num⟩
      case measure => simp [intOf]; omega
    · have hk2 : k = s.size := by omega
      subst hk2
      have HT := Lib.hid (show s.data.toList.take s.size = s.data.toList from List.take_of_length_le (by simp))
      go_wp2
      go_ret
      exact ⟨by rw [HT.out]; rfl, rfl⟩
set_option maxHeartbeats 400000 in
theorem impl_unsealed (b o n cp : Nat) (l : List UInt8) (w : World) (hl : l.length = n) (h4 : 4 ≤ n) (hn : n ≤ 1099511627776) (hc : n ≤ cp) (hm : cp ≤ maxLen) (hr : Rd w (some ⟨b, o, none⟩) (l.map fun c => Value.int .u8 (c.toNat : Int))) :
    Calls Try.prog 65 #[.slice (some ⟨b, o, none⟩) n cp] w fun e w' => e = .returned (if sealB? l then .tuple #[.slice (some ⟨b, o, none⟩) (n - 4) cp, .bool true] else .tuple #[.slice none 0 0, .bool false]) ∧ Ext w w' := by
  have HL := Lib.hid hl
  clear hl
  unfold maxLen at hm
  have hd : decide ((n : Int) - 4 < 0) = false := decide_eq_false (by omega)
  have hA : (4 : Int) ≤ (n : Int) := by omega
  have hBc : (n : Int) - 4 ≤ (cp : Int) := by omega
  have hBn : (n : Int) - 4 ≤ (n : Int) := by omega
  have hT : ((n : Int) - 4).toNat = n - 4 := by omega
  have hN : n - (n - 4) = 4 := by omega
  have hne : ¬ cp = n - 4 := by omega
  have hq : crc (l.take (n - 4)) < 4294967296 := crc_lt _
  have h1 := impl_check32 (some ⟨b, o, none⟩) (n - 4) cp (l.take (n - 4))
  have h2 := fun c => impl_big (some ⟨b, o + (n - 4), none⟩) 4 c (l.drop (n - 4))
  have hs : sealB? l = (crc (l.take (n - 4)) == bigN (l.drop (n - 4))) := by unfold sealB?; rw [HL.out]; simp [h4]
  rw [hs]
  have r1 : Rd w (some ⟨b, o, none⟩) ((l.take (n - 4)).map fun c => Value.int .u8 (c.toNat : Int)) := by rw [List.map_take]; exact rd_take hr _
  have r2 : Rd w (some ⟨b, o + (n - 4), none⟩) ((l.drop (n - 4)).map fun c => Value.int .u8 (c.toNat : Int)) := by rw [List.map_drop]; exact rd_drop hr _
  have l1 : (l.take (n - 4)).length = n - 4 := by rw [List.length_take, HL.out]; omega
  have l2 : (l.drop (n - 4)).length = 4 := by rw [List.length_drop, HL.out]; omega
  generalize l.take (n - 4) = x at h1 r1 l1 hq ⊢
  generalize l.drop (n - 4) = y at h2 r2 l2 ⊢
  have h1 := fun W hw => h1 W l1 (by omega) (r1.ext hw)
  have h2 := fun W c hw => h2 c W l2 (by omega) (r2.ext hw)
  generalize crc x = q at h1 hq ⊢
  generalize bigN y = z at h2 ⊢
  have H1 := Lib.hid h1
  have H2 := Lib.hid h2
  clear h1 h2 r1 r2 l1 l2 hs hr
  by_cases hqz : q = z
  · have hqI : ((q : Int) != (z : Int)) = false := by rw [hqz]; simp
    have HQ := Lib.hid (show (q == z) = true from by rw [hqz]; simp)
    rw [if_pos HQ.out]
    clear hqz
    go_enter Try.func65, Try.ntmps65
    go_wp2_with fail
    go_quiet ((first | exact (H1.out _ ((Ext.refl _).drewN _)).mono (fun _ _ h => ⟨h.1, _, h.2.symm⟩) | exact (H2.out _ _ ((Ext.refl _).drewN _)).mono (fun _ _ h => ⟨h.1, _, h.2.symm⟩)))
    go_wp2_with fail
    go_ret2
    exact ⟨rfl, (Ext.refl _).drewN _⟩
  · have hqI : ((q : Int) != (z : Int)) = true := by rw [bne_iff_ne]; omega
    have HQ := Lib.hid (show (q == z) = false from beq_eq_false_iff_ne.2 hqz)
    rw [if_neg (by rw [HQ.out]; decide)]
    clear hqz
    go_enter Try.func65, Try.ntmps65
    go_wp2_with fail
    go_quiet ((first | exact (H1.out _ ((Ext.refl _).drewN _)).mono (fun _ _ h => ⟨h.1, _, h.2.symm⟩) | exact (H2.out _ _ ((Ext.refl _).drewN _)).mono (fun _ _ h => ⟨h.1, _, h.2.symm⟩)))
    go_wp2_with fail
    go_ret2
    exact ⟨rfl, (Ext.refl _).drewN _⟩
/-- too short to be sealed -/
theorem impl_unsealed_short (A : Option Addr) (n cp : Nat) (w : World) (h4 : n < 4) :
    Calls Try.prog 65 #[.slice A n cp] w fun e w' => e = .returned (.tuple #[.slice none 0 0, .bool false]) ∧ Ext w w' := by
  have hd : decide ((n : Int) - 4 < 0) = true := decide_eq_true (by omega)
  have hd2 : (n : Int) - 4 < 0 := by omega
  go_enter Try.func65, Try.ntmps65
  go_wp2_with fail
  go_quiet (fail)
  go_wp2_with fail
  go_ret2
  exact ⟨rfl, (Ext.refl _).drewN _⟩
theorem ext_take (s : ByteArray) (k : Nat) : (s.extract 0 k).data.toList = s.data.toList.take k := by
  rw [ByteArray.data_extract]; simp
theorem ext_drop (s : ByteArray) (k : Nat) : (s.extract k s.size).data.toList = s.data.toList.drop k := by
  rw [ByteArray.data_extract]; simp
  exact List.take_of_length_le (by simp)
end Go.Proofs.Yteaefjicpefgnaa
