/- The walks of HeaderBytes. -/
import Derived.Test.YteaefjicpefgnaaCodec
import Derived.Test.YteaefjicpefgnaaMark
import Derived.Lib.ConvBytes
namespace Go.Proofs.Yteaefjicpefgnaa
open Go.RowKit Go.Deep
set_option linter.unusedVariables false
set_option maxRecDepth 100000

/-- a text's bytes, read in the row that '[]byte(t)' makes -/
theorem bytesWorld_rd (w : World) (e : TypeId) (s : ByteArray) : Rd (Lib.bytesWorld w e s) (some ⟨w.heap.size, 0, none⟩) (s.data.toList.map fun c => Value.int .u8 (c.toNat : Int)) := fun _ => ⟨w.heap.size, 0, rfl, fun j u hu => by
  have hj : j < s.data.toList.length := by
    rcases Nat.lt_or_ge j s.data.toList.length with h | h
    · exact h
    · rw [List.getElem?_eq_none (by simpa using h)] at hu; cases hu
  rw [Nat.zero_add, Lib.bytesWorld_cell w e s j (by simpa using hj)]
  rw [List.getElem?_map, List.getElem?_eq_getElem hj] at hu
  rw [← hu, List.getD_eq_getElem?_getD, List.getElem?_eq_getElem hj]
  rfl⟩
theorem bytesWorld_ext (w : World) (e : TypeId) (s : ByteArray) : Ext w (Lib.bytesWorld w e s) :=
  ⟨rfl, rfl, rfl, by rw [Lib.bytesWorld_size]; omega, fun k hk => Lib.bytesWorld_at_old w e s k hk⟩
def headB (n : Nat) : List UInt8 := sealB [104, UInt8.ofNat n]
theorem headB_len (n : Nat) : (headB n).length = 6 := rfl
/-- what HeaderBytes answers -/
def hdrL (x : Int) : List UInt8 := if 0 ≤ x ∧ x ≤ 60 then headB x.toNat else []
def hdrC (x : Int) : Int := if 0 ≤ x ∧ x ≤ 60 then 0 else 4
theorem hdr_cells (n : Nat) (hn : n ≤ 60) : [Value.int .u8 104, Value.int .u8 (n : Int)] = ([104, UInt8.ofNat n] : List UInt8).map fun c => Value.int .u8 (c.toNat : Int) := by
  have : ((UInt8.ofNat n).toNat : Int) = n := by rw [UInt8.toNat_ofNat']; omega
  simp only [List.map_cons, List.map_nil, this]; rfl
theorem nil_own {w : World} {B : Nat} {e : TypeId} : w.ownsRow B e 1 (.slice none 0 0) 0 [] := World.ownsRow_nil _ _ _ _
set_option maxHeartbeats 400000 in
theorem impl_headerBytes (n : Nat) (w : World) (hn : n ≤ 60) :
    Calls Try.prog 63 #[.int .i64 (n : Int)] w fun e w' => ∃ v', e = .returned v' ∧ w'.ownsRow w.heap.size 5 1 v' 6 ((headB n).map fun c => Value.int .u8 (c.toNat : Int)) ∧ Ext w w' := by
  have hinit := World.ownsRow_lit (base := w.heap.size) (e := 5) (size := 1) w #[Value.int .u8 104, Value.int .u8 (n : Int)] 2 (Nat.le_refl _) (by unfold maxLen; omega) rfl
  have HS := Lib.hid (hdr_cells n hn)
  go_enter Try.func63, Try.ntmps63
  go_wp2_with fail
  refine (impl_sealed w.heap.size _ 2 [104, UInt8.ofNat n] _ (by omega) (by simp) (HS.out ▸ hinit)).mono ?_
  rintro e w1 ⟨v', rfl, ho, hE⟩
  go_wp2_with fail
  go_ret
  exact ⟨v', rfl, ho, Below.trans ((Ext.refl w).alloc _) hE⟩
set_option maxHeartbeats 400000 in
theorem spec_l04Header (n : Nat) (w : World) (hn : n ≤ 60) :
    Calls Try.prog 61 #[.int .i64 (n : Int)] w fun e w' => e = .returned (.string ⟨(headB n).toArray⟩) ∧ Ext w w' := by
  have hinit := World.ownsRow_lit (base := w.heap.size) (e := 5) (size := 1) w #[Value.int .u8 104, Value.int .u8 (n : Int)] 2 (Nat.le_refl _) (by unfold maxLen; omega) rfl
  have HS := Lib.hid (hdr_cells n hn)
  go_enter Try.func61, Try.ntmps61
  go_wp2_with fail
  refine (spec_l03Sealed w.heap.size _ 2 [104, UInt8.ofNat n] _ (by omega) (by simp) (HS.out ▸ hinit)).mono ?_
  rintro e w1 ⟨v', rfl, ho, hE⟩
  obtain ⟨A, cap, rfl, hr, _, _⟩ := own_rd ho
  have hcv := run_text (P := Try.prog) (src := 22) (dst := 9) Try.underlying22 Try.underlying5 Try.underlying9 w1 A 6 cap (headB n) rfl hr
  go_wp2_with fail
  go_ret
  exact ⟨rfl, Below.trans ((Ext.refl w).alloc _) hE⟩
set_option maxHeartbeats 400000 in
theorem impl_HeaderBytes (x : Int) (w : World) :
    Calls Try.prog 16 #[.int .i64 x] w fun e w' => ∃ v, e = .returned (.tuple #[v, .int .i64 (hdrC x)]) ∧ w'.ownsRow w.heap.size 5 1 v (hdrL x).length ((hdrL x).map fun c => Value.int .u8 (c.toNat : Int)) ∧ Ext w w' := by
  by_cases h0 : 0 ≤ x ∧ x ≤ 60
  · obtain ⟨n, rfl⟩ := Int.eq_ofNat_of_zero_le h0.1
    have h1 : (0 : Int) ≤ (n : Int) := h0.1
    have h2 : (n : Int) ≤ 60 := h0.2
    have hn : n ≤ 60 := by omega
    simp only [hdrL, hdrC, if_pos h0, Int.toNat_natCast]
    clear h0
    go_enter Try.func16, Try.ntmps16
    go_wp2_with (first | (go_at_call 62; go_in) | (go_at_call 63; refine (impl_headerBytes n _ hn).mono ?_; rintro e w1 ⟨v', rfl, ho, hE⟩))
    go_ret2
    exact ⟨_, rfl, ho, hE⟩
  · simp only [hdrL, hdrC, if_neg h0]
    by_cases hx : 0 ≤ x
    · have hx2 : ¬ x ≤ 60 := by omega
      clear h0
      go_enter Try.func16, Try.ntmps16
      go_wp2_with (go_at_call 62; go_in)
      go_ret2
      exact ⟨_, rfl, nil_own, Ext.refl _⟩
    · clear h0
      go_enter Try.func16, Try.ntmps16
      go_wp2_with (go_at_call 62; go_in)
      go_ret2
      exact ⟨_, rfl, nil_own, Ext.refl _⟩
set_option maxHeartbeats 400000 in
theorem spec_HeaderBytes (x : Int) (w : World) :
    Calls Try.prog 15 #[.int .i64 x] w fun e w' => ∃ v, e = .returned (.tuple #[v, .int .i64 (hdrC x)]) ∧ Sl w' v (hdrL x) ∧ Ext w w' := by
  by_cases h0 : 0 ≤ x ∧ x ≤ 60
  · obtain ⟨n, rfl⟩ := Int.eq_ofNat_of_zero_le h0.1
    have h1 : (0 : Int) ≤ (n : Int) := h0.1
    have h2 : (n : Int) ≤ 60 := h0.2
    have hn : n ≤ 60 := by omega
    simp only [hdrL, hdrC, if_pos h0, Int.toNat_natCast]
    clear h0
    have hL := spec_l04Header n w hn
    have hcv := fun W => Lib.run_convert_string_bytes (P := Try.prog) W 9 22 5 (⟨(headB n).toArray⟩ : ByteArray) Try.underlying9 Try.underlying22 Try.underlying5
    have hz : (⟨(headB n).toArray⟩ : ByteArray).size = 6 := rfl
    have hd : (⟨(headB n).toArray⟩ : ByteArray).data.toList = headB n := rfl
    generalize (⟨(headB n).toArray⟩ : ByteArray) = s at hL hcv hz hd
    rw [← hd]
    have HL := Lib.hid hL
    have HD := Lib.hid hd
    rw [hz] at hcv
    clear hL hd hz
    go_enter Try.func15, Try.ntmps15
    go_wp2_with (first | (go_at_call 60; go_in) | (go_at_call 61; refine (HL.out).mono ?_; rintro e w1 ⟨rfl, hE⟩))
    have hcv1 := hcv w1
    clear hcv
    go_wp2_with fail
    go_ret2
    exact ⟨_, rfl, Sl.mk' (by rw [HD.out]; rfl) (bytesWorld_rd _ _ _), hE.trans (bytesWorld_ext _ _ _)⟩
  · simp only [hdrL, hdrC, if_neg h0]
    by_cases hx : 0 ≤ x
    · have hx2 : ¬ x ≤ 60 := by omega
      clear h0
      go_enter Try.func15, Try.ntmps15
      go_wp2_with (go_at_call 60; go_in)
      go_ret2
      exact ⟨_, rfl, Sl.nil', (Ext.refl _).alloc _⟩
    · clear h0
      go_enter Try.func15, Try.ntmps15
      go_wp2_with (go_at_call 60; go_in)
      go_ret2
      exact ⟨_, rfl, Sl.nil', (Ext.refl _).alloc _⟩
end Go.Proofs.Yteaefjicpefgnaa
