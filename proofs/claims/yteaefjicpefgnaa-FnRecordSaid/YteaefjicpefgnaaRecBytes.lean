/- The walks of RecordBytes (printed by gen_recbytes.py). -/
import Derived.Test.YteaefjicpefgnaaRecord
import Derived.Test.YteaefjicpefgnaaRecordS
import Derived.Test.YteaefjicpefgnaaFields2
import Derived.Test.YteaefjicpefgnaaFieldsB
namespace Go.Proofs.Yteaefjicpefgnaa
open Go.RowKit Go.Deep
set_option linter.unusedVariables false
set_option maxRecDepth 100000
/-- the head of a record's bytes -/
def recH (e ls tx k p nx pg sl : Nat) : List UInt8 := [108, UInt8.ofNat e, UInt8.ofNat ls, UInt8.ofNat tx, UInt8.ofNat k, UInt8.ofNat p, UInt8.ofNat nx, UInt8.ofNat pg, UInt8.ofNat sl]
/-- a record's bytes -/
def recRaw (e ls tx k p nx pg sl : Nat) (bf af : ByteArray) : List UInt8 := sealB (recH e ls tx k p nx pg sl ++ fieldsB [bf, af])
theorem byteOf (n : Nat) (h : n < 256) : ((UInt8.ofNat n).toNat : Int) = (n : Int) := by rw [UInt8.toNat_ofNat']; omega
theorem recH_cells (e ls tx k p nx pg sl : Nat) (b0 : e < 256) (b1 : ls < 256) (b2 : tx < 256) (b3 : k < 256) (b4 : p < 256) (b5 : nx < 256) (b6 : pg < 256) (b7 : sl < 256) : [Value.int .u8 108, Value.int .u8 (e : Int), Value.int .u8 (ls : Int), Value.int .u8 (tx : Int), Value.int .u8 (k : Int), Value.int .u8 (p : Int), Value.int .u8 (nx : Int), Value.int .u8 (pg : Int), Value.int .u8 (sl : Int)] = (recH e ls tx k p nx pg sl).map fun c => Value.int .u8 (c.toNat : Int) := by
  simp only [recH, List.map_cons, List.map_nil, byteOf e b0, byteOf ls b1, byteOf tx b2, byteOf k b3, byteOf p b4, byteOf nx b5, byteOf pg b6, byteOf sl b7]; rfl
theorem fields2_len (bf af : ByteArray) : (fieldsB [bf, af]).length = 3 + bf.size + af.size := by simp [fieldsB]; omega
theorem recRaw_len (e ls tx k p nx pg sl : Nat) (bf af : ByteArray) : (recRaw e ls tx k p nx pg sl bf af).length = 9 + (3 + bf.size + af.size) + 4 := by
  unfold recRaw sealB; rw [List.length_append, four_len, List.length_append, fields2_len]; rfl
set_option maxHeartbeats 4000000 in
theorem impl_recordBytes (e ls tx k p nx pg sl : Nat) (bf af : ByteArray) (w : World) (b0 : e < 256) (b1 : ls < 256) (b2 : tx < 256) (b3 : k < 256) (b4 : p < 256) (b5 : nx < 256) (b6 : pg < 256) (b7 : sl < 256) (hb : bf.size ≤ 2000000) (ha : af.size ≤ 2000000) :
    Calls Try.prog 88 #[.agg #[.int .i64 (e : Int), .int .i64 (ls : Int), .int .i64 (tx : Int), .int .i64 (k : Int), .int .i64 (p : Int), .int .i64 (nx : Int), .int .i64 (pg : Int), .int .i64 (sl : Int), .string bf, .string af]] w fun en w' => ∃ v, en = .returned v ∧ w'.ownsRow w.heap.size 5 1 v (recRaw e ls tx k p nx pg sl bf af).length ((recRaw e ls tx k p nx pg sl bf af).map fun c => Value.int .u8 (c.toNat : Int)) ∧ Ext w w' := by
  have hX := Blk.new w 57 [.int .i64 (e : Int), .int .i64 (ls : Int), .int .i64 (tx : Int), .int .i64 (k : Int), .int .i64 (p : Int), .int .i64 (nx : Int), .int .i64 (pg : Int), .int .i64 (sl : Int), .string bf, .string af]
  have hE0 : Ext w (w.alloc (.cells #[.int .i64 (e : Int), .int .i64 (ls : Int), .int .i64 (tx : Int), .int .i64 (k : Int), .int .i64 (p : Int), .int .i64 (nx : Int), .int .i64 (pg : Int), .int .i64 (sl : Int), .string bf, .string af] 57)) := (by repeat (first | exact Ext.refl _ | assumption | refine Ext.alloc ?_ _ | refine Ext.drewN ?_ _ | refine Ext.drew ?_ | refine Ext.set ?_ (by dsimp only; omega) _ | refine Ext.trans ?_ (by assumption)))
  have hinit := World.ownsRow_lit (base := w.heap.size) (e := 5) (size := 1) (w.alloc (.cells #[.int .i64 (e : Int), .int .i64 (ls : Int), .int .i64 (tx : Int), .int .i64 (k : Int), .int .i64 (p : Int), .int .i64 (nx : Int), .int .i64 (pg : Int), .int .i64 (sl : Int), .string bf, .string af] 57)) #[Value.int .u8 108] 1 (by simp) (by unfold maxLen; omega) rfl
  rw [World.size_alloc] at hinit
  have HC := Lib.hid (recH_cells e ls tx k p nx pg sl b0 b1 b2 b3 b4 b5 b6 b7)
  have HI := Lib.hid hinit
  have hEI : Ext w ((w.alloc (.cells #[.int .i64 (e : Int), .int .i64 (ls : Int), .int .i64 (tx : Int), .int .i64 (k : Int), .int .i64 (p : Int), .int .i64 (nx : Int), .int .i64 (pg : Int), .int .i64 (sl : Int), .string bf, .string af] 57)).alloc (.cells #[Value.int .u8 108] 5)) := (by repeat (first | exact Ext.refl _ | assumption | refine Ext.alloc ?_ _ | refine Ext.drewN ?_ _ | refine Ext.drew ?_ | refine Ext.set ?_ (by dsimp only; omega) _ | refine Ext.trans ?_ (by assumption)))
  have HEI := Lib.hid hEI
  have HX := Lib.hid (hX.alloc (.cells #[Value.int .u8 108] 5))
  obtain ⟨i0, hi, hz0, hz1, hz2⟩ := info_parts info_ByteS
  clear hinit hX hE0 hEI
  have q0 : (e : Int) < 256 := by omega
  have q1 : (ls : Int) < 256 := by omega
  have q2 : (tx : Int) < 256 := by omega
  have q3 : (k : Int) < 256 := by omega
  have q4 : (p : Int) < 256 := by omega
  have q5 : (nx : Int) < 256 := by omega
  have q6 : (pg : Int) < 256 := by omega
  have q7 : (sl : Int) < 256 := by omega
  go_enter Try.func88, Try.ntmps88
  go_wp2_with fail
  go_loopw [24, 3, 5] (fun iv v u5 wr => ∃ j : Nat, j ≤ 8 ∧ iv = .int .i64 j ∧ wr.ownsRow w.heap.size 5 1 v (j + 1) (((recH e ls tx k p nx pg sl).take (j + 1)).map fun c => Value.int .u8 (c.toNat : Int)) ∧ Blk wr w.heap.size 57 [.int .i64 (e : Int), .int .i64 (ls : Int), .int .i64 (tx : Int), .int .i64 (k : Int), .int .i64 (p : Int), .int .i64 (nx : Int), .int .i64 (pg : Int), .int .i64 (sl : Int), .string bf, .string af] ∧ Ext w wr) (fun iv _ _ _ => 8 - (intOf iv).toNat)
  case atStart => exact ⟨0, by omega, rfl, HI.out, HX.out, HEI.out⟩
  case round =>
    obtain ⟨j, hj, rfl, ho, hB, hE⟩ := hrel
    have HO := Lib.hid ho
    have HB := Lib.hid hB
    have hle := hE.le
    clear ho hB
    obtain rfl | rfl | rfl | rfl | rfl | rfl | rfl | rfl | rfl : j = 0 ∨ j = 1 ∨ j = 2 ∨ j = 3 ∨ j = 4 ∨ j = 5 ∨ j = 6 ∨ j = 7 ∨ j = 8 := by omega
    · have e4 : ((recH e ls tx k p nx pg sl).take 1).map (fun c => Value.int .u8 (c.toNat : Int)) ++ [Value.int .u8 (e : Int)] = ((recH e ls tx k p nx pg sl).take 2).map fun c => Value.int .u8 (c.toNat : Int) := by rw [List.map_take, List.map_take, ← HC.out]; rfl
      have HE4 := Lib.hid e4
      have hix : ∀ W, (Instr.index 134 (.agg #[.int .i64 (e : Int), .int .i64 (ls : Int), .int .i64 (tx : Int), .int .i64 (k : Int), .int .i64 (p : Int), .int .i64 (nx : Int), .int .i64 (pg : Int), .int .i64 (sl : Int)]) (.int .i64 0)).run Try.prog W = .ok (.int .i64 (e : Int)) W := fun _ => by kernel_rfl
      clear e4
      have hrow := own_ext HO.out ((Ext.refl wr).alloc (.cells #[Value.int .u8 (e : Int)] 5))
      go_wp2_with (at_builtin; refine wpList_append_own _ rfl (.tmp 27) (.tmp 30) 22 rfl w.heap.size 5 i0 (.int .u8 0) 1 1 Try.underlying22 hi hz0 hz1 hz2 rfl (by decide) _ 1 _ rfl hrow ⟨wr.heap.size, 0, none⟩ 1 1 [Value.int .u8 (e : Int)] rfl rfl (rd_add (Blk.new wr _ _).rd) (by intro u hu; simp at hu; subst hu; rfl) (by unfold maxLen; omega) (by omega) (by simp; omega) ?_)
      intro v' w2 ho hg _
      have hne := own_apart hrow (HB.out.alloc (.cells #[Value.int .u8 (e : Int)] 5)) (by decide)
      have HB2 := Lib.hid (show Blk w2 w.heap.size 57 [.int .i64 (e : Int), .int .i64 (ls : Int), .int .i64 (tx : Int), .int .i64 (k : Int), .int .i64 (p : Int), .int .i64 (nx : Int), .int .i64 (pg : Int), .int .i64 (sl : Int), .string bf, .string af] from (hg.block _ (HB.out.alloc (.cells #[Value.int .u8 (e : Int)] 5)).lt hne).trans (HB.out.alloc _))
      have HO2 := Lib.hid ho
      have HE2 := Lib.hid ((hE.alloc (.cells #[Value.int .u8 (e : Int)] 5)).grown hg (own_blk hrow))
      clear ho hg hrow hne
      go_wp2_with fail
      go_roundw
      case rel => exact ⟨1, by omega, by first | rfl | go_num, by rw [← HE4.out]; exact HO2.out, HB2.out, HE2.out⟩
      case measure => simp [intOf]
    · have e4 : ((recH e ls tx k p nx pg sl).take 2).map (fun c => Value.int .u8 (c.toNat : Int)) ++ [Value.int .u8 (ls : Int)] = ((recH e ls tx k p nx pg sl).take 3).map fun c => Value.int .u8 (c.toNat : Int) := by rw [List.map_take, List.map_take, ← HC.out]; rfl
      have HE4 := Lib.hid e4
      have hix : ∀ W, (Instr.index 134 (.agg #[.int .i64 (e : Int), .int .i64 (ls : Int), .int .i64 (tx : Int), .int .i64 (k : Int), .int .i64 (p : Int), .int .i64 (nx : Int), .int .i64 (pg : Int), .int .i64 (sl : Int)]) (.int .i64 1)).run Try.prog W = .ok (.int .i64 (ls : Int)) W := fun _ => by kernel_rfl
      clear e4
      have hrow := own_ext HO.out ((Ext.refl wr).alloc (.cells #[Value.int .u8 (ls : Int)] 5))
      go_wp2_with (at_builtin; refine wpList_append_own _ rfl (.tmp 27) (.tmp 30) 22 rfl w.heap.size 5 i0 (.int .u8 0) 1 1 Try.underlying22 hi hz0 hz1 hz2 rfl (by decide) _ 2 _ rfl hrow ⟨wr.heap.size, 0, none⟩ 1 1 [Value.int .u8 (ls : Int)] rfl rfl (rd_add (Blk.new wr _ _).rd) (by intro u hu; simp at hu; subst hu; rfl) (by unfold maxLen; omega) (by omega) (by simp; omega) ?_)
      intro v' w2 ho hg _
      have hne := own_apart hrow (HB.out.alloc (.cells #[Value.int .u8 (ls : Int)] 5)) (by decide)
      have HB2 := Lib.hid (show Blk w2 w.heap.size 57 [.int .i64 (e : Int), .int .i64 (ls : Int), .int .i64 (tx : Int), .int .i64 (k : Int), .int .i64 (p : Int), .int .i64 (nx : Int), .int .i64 (pg : Int), .int .i64 (sl : Int), .string bf, .string af] from (hg.block _ (HB.out.alloc (.cells #[Value.int .u8 (ls : Int)] 5)).lt hne).trans (HB.out.alloc _))
      have HO2 := Lib.hid ho
      have HE2 := Lib.hid ((hE.alloc (.cells #[Value.int .u8 (ls : Int)] 5)).grown hg (own_blk hrow))
      clear ho hg hrow hne
      go_wp2_with fail
      go_roundw
      case rel => exact ⟨2, by omega, by first | rfl | go_num, by rw [← HE4.out]; exact HO2.out, HB2.out, HE2.out⟩
      case measure => simp [intOf]
    · have e4 : ((recH e ls tx k p nx pg sl).take 3).map (fun c => Value.int .u8 (c.toNat : Int)) ++ [Value.int .u8 (tx : Int)] = ((recH e ls tx k p nx pg sl).take 4).map fun c => Value.int .u8 (c.toNat : Int) := by rw [List.map_take, List.map_take, ← HC.out]; rfl
      have HE4 := Lib.hid e4
      have hix : ∀ W, (Instr.index 134 (.agg #[.int .i64 (e : Int), .int .i64 (ls : Int), .int .i64 (tx : Int), .int .i64 (k : Int), .int .i64 (p : Int), .int .i64 (nx : Int), .int .i64 (pg : Int), .int .i64 (sl : Int)]) (.int .i64 2)).run Try.prog W = .ok (.int .i64 (tx : Int)) W := fun _ => by kernel_rfl
      clear e4
      have hrow := own_ext HO.out ((Ext.refl wr).alloc (.cells #[Value.int .u8 (tx : Int)] 5))
      go_wp2_with (at_builtin; refine wpList_append_own _ rfl (.tmp 27) (.tmp 30) 22 rfl w.heap.size 5 i0 (.int .u8 0) 1 1 Try.underlying22 hi hz0 hz1 hz2 rfl (by decide) _ 3 _ rfl hrow ⟨wr.heap.size, 0, none⟩ 1 1 [Value.int .u8 (tx : Int)] rfl rfl (rd_add (Blk.new wr _ _).rd) (by intro u hu; simp at hu; subst hu; rfl) (by unfold maxLen; omega) (by omega) (by simp; omega) ?_)
      intro v' w2 ho hg _
      have hne := own_apart hrow (HB.out.alloc (.cells #[Value.int .u8 (tx : Int)] 5)) (by decide)
      have HB2 := Lib.hid (show Blk w2 w.heap.size 57 [.int .i64 (e : Int), .int .i64 (ls : Int), .int .i64 (tx : Int), .int .i64 (k : Int), .int .i64 (p : Int), .int .i64 (nx : Int), .int .i64 (pg : Int), .int .i64 (sl : Int), .string bf, .string af] from (hg.block _ (HB.out.alloc (.cells #[Value.int .u8 (tx : Int)] 5)).lt hne).trans (HB.out.alloc _))
      have HO2 := Lib.hid ho
      have HE2 := Lib.hid ((hE.alloc (.cells #[Value.int .u8 (tx : Int)] 5)).grown hg (own_blk hrow))
      clear ho hg hrow hne
      go_wp2_with fail
      go_roundw
      case rel => exact ⟨3, by omega, by first | rfl | go_num, by rw [← HE4.out]; exact HO2.out, HB2.out, HE2.out⟩
      case measure => simp [intOf]
    · have e4 : ((recH e ls tx k p nx pg sl).take 4).map (fun c => Value.int .u8 (c.toNat : Int)) ++ [Value.int .u8 (k : Int)] = ((recH e ls tx k p nx pg sl).take 5).map fun c => Value.int .u8 (c.toNat : Int) := by rw [List.map_take, List.map_take, ← HC.out]; rfl
      have HE4 := Lib.hid e4
      have hix : ∀ W, (Instr.index 134 (.agg #[.int .i64 (e : Int), .int .i64 (ls : Int), .int .i64 (tx : Int), .int .i64 (k : Int), .int .i64 (p : Int), .int .i64 (nx : Int), .int .i64 (pg : Int), .int .i64 (sl : Int)]) (.int .i64 3)).run Try.prog W = .ok (.int .i64 (k : Int)) W := fun _ => by kernel_rfl
      clear e4
      have hrow := own_ext HO.out ((Ext.refl wr).alloc (.cells #[Value.int .u8 (k : Int)] 5))
      go_wp2_with (at_builtin; refine wpList_append_own _ rfl (.tmp 27) (.tmp 30) 22 rfl w.heap.size 5 i0 (.int .u8 0) 1 1 Try.underlying22 hi hz0 hz1 hz2 rfl (by decide) _ 4 _ rfl hrow ⟨wr.heap.size, 0, none⟩ 1 1 [Value.int .u8 (k : Int)] rfl rfl (rd_add (Blk.new wr _ _).rd) (by intro u hu; simp at hu; subst hu; rfl) (by unfold maxLen; omega) (by omega) (by simp; omega) ?_)
      intro v' w2 ho hg _
      have hne := own_apart hrow (HB.out.alloc (.cells #[Value.int .u8 (k : Int)] 5)) (by decide)
      have HB2 := Lib.hid (show Blk w2 w.heap.size 57 [.int .i64 (e : Int), .int .i64 (ls : Int), .int .i64 (tx : Int), .int .i64 (k : Int), .int .i64 (p : Int), .int .i64 (nx : Int), .int .i64 (pg : Int), .int .i64 (sl : Int), .string bf, .string af] from (hg.block _ (HB.out.alloc (.cells #[Value.int .u8 (k : Int)] 5)).lt hne).trans (HB.out.alloc _))
      have HO2 := Lib.hid ho
      have HE2 := Lib.hid ((hE.alloc (.cells #[Value.int .u8 (k : Int)] 5)).grown hg (own_blk hrow))
      clear ho hg hrow hne
      go_wp2_with fail
      go_roundw
      case rel => exact ⟨4, by omega, by first | rfl | go_num, by rw [← HE4.out]; exact HO2.out, HB2.out, HE2.out⟩
      case measure => simp [intOf]
    · have e4 : ((recH e ls tx k p nx pg sl).take 5).map (fun c => Value.int .u8 (c.toNat : Int)) ++ [Value.int .u8 (p : Int)] = ((recH e ls tx k p nx pg sl).take 6).map fun c => Value.int .u8 (c.toNat : Int) := by rw [List.map_take, List.map_take, ← HC.out]; rfl
      have HE4 := Lib.hid e4
      have hix : ∀ W, (Instr.index 134 (.agg #[.int .i64 (e : Int), .int .i64 (ls : Int), .int .i64 (tx : Int), .int .i64 (k : Int), .int .i64 (p : Int), .int .i64 (nx : Int), .int .i64 (pg : Int), .int .i64 (sl : Int)]) (.int .i64 4)).run Try.prog W = .ok (.int .i64 (p : Int)) W := fun _ => by kernel_rfl
      clear e4
      have hrow := own_ext HO.out ((Ext.refl wr).alloc (.cells #[Value.int .u8 (p : Int)] 5))
      go_wp2_with (at_builtin; refine wpList_append_own _ rfl (.tmp 27) (.tmp 30) 22 rfl w.heap.size 5 i0 (.int .u8 0) 1 1 Try.underlying22 hi hz0 hz1 hz2 rfl (by decide) _ 5 _ rfl hrow ⟨wr.heap.size, 0, none⟩ 1 1 [Value.int .u8 (p : Int)] rfl rfl (rd_add (Blk.new wr _ _).rd) (by intro u hu; simp at hu; subst hu; rfl) (by unfold maxLen; omega) (by omega) (by simp; omega) ?_)
      intro v' w2 ho hg _
      have hne := own_apart hrow (HB.out.alloc (.cells #[Value.int .u8 (p : Int)] 5)) (by decide)
      have HB2 := Lib.hid (show Blk w2 w.heap.size 57 [.int .i64 (e : Int), .int .i64 (ls : Int), .int .i64 (tx : Int), .int .i64 (k : Int), .int .i64 (p : Int), .int .i64 (nx : Int), .int .i64 (pg : Int), .int .i64 (sl : Int), .string bf, .string af] from (hg.block _ (HB.out.alloc (.cells #[Value.int .u8 (p : Int)] 5)).lt hne).trans (HB.out.alloc _))
      have HO2 := Lib.hid ho
      have HE2 := Lib.hid ((hE.alloc (.cells #[Value.int .u8 (p : Int)] 5)).grown hg (own_blk hrow))
      clear ho hg hrow hne
      go_wp2_with fail
      go_roundw
      case rel => exact ⟨5, by omega, by first | rfl | go_num, by rw [← HE4.out]; exact HO2.out, HB2.out, HE2.out⟩
      case measure => simp [intOf]
    · have e4 : ((recH e ls tx k p nx pg sl).take 6).map (fun c => Value.int .u8 (c.toNat : Int)) ++ [Value.int .u8 (nx : Int)] = ((recH e ls tx k p nx pg sl).take 7).map fun c => Value.int .u8 (c.toNat : Int) := by rw [List.map_take, List.map_take, ← HC.out]; rfl
      have HE4 := Lib.hid e4
      have hix : ∀ W, (Instr.index 134 (.agg #[.int .i64 (e : Int), .int .i64 (ls : Int), .int .i64 (tx : Int), .int .i64 (k : Int), .int .i64 (p : Int), .int .i64 (nx : Int), .int .i64 (pg : Int), .int .i64 (sl : Int)]) (.int .i64 5)).run Try.prog W = .ok (.int .i64 (nx : Int)) W := fun _ => by kernel_rfl
      clear e4
      have hrow := own_ext HO.out ((Ext.refl wr).alloc (.cells #[Value.int .u8 (nx : Int)] 5))
      go_wp2_with (at_builtin; refine wpList_append_own _ rfl (.tmp 27) (.tmp 30) 22 rfl w.heap.size 5 i0 (.int .u8 0) 1 1 Try.underlying22 hi hz0 hz1 hz2 rfl (by decide) _ 6 _ rfl hrow ⟨wr.heap.size, 0, none⟩ 1 1 [Value.int .u8 (nx : Int)] rfl rfl (rd_add (Blk.new wr _ _).rd) (by intro u hu; simp at hu; subst hu; rfl) (by unfold maxLen; omega) (by omega) (by simp; omega) ?_)
      intro v' w2 ho hg _
      have hne := own_apart hrow (HB.out.alloc (.cells #[Value.int .u8 (nx : Int)] 5)) (by decide)
      have HB2 := Lib.hid (show Blk w2 w.heap.size 57 [.int .i64 (e : Int), .int .i64 (ls : Int), .int .i64 (tx : Int), .int .i64 (k : Int), .int .i64 (p : Int), .int .i64 (nx : Int), .int .i64 (pg : Int), .int .i64 (sl : Int), .string bf, .string af] from (hg.block _ (HB.out.alloc (.cells #[Value.int .u8 (nx : Int)] 5)).lt hne).trans (HB.out.alloc _))
      have HO2 := Lib.hid ho
      have HE2 := Lib.hid ((hE.alloc (.cells #[Value.int .u8 (nx : Int)] 5)).grown hg (own_blk hrow))
      clear ho hg hrow hne
      go_wp2_with fail
      go_roundw
      case rel => exact ⟨6, by omega, by first | rfl | go_num, by rw [← HE4.out]; exact HO2.out, HB2.out, HE2.out⟩
      case measure => simp [intOf]
    · have e4 : ((recH e ls tx k p nx pg sl).take 7).map (fun c => Value.int .u8 (c.toNat : Int)) ++ [Value.int .u8 (pg : Int)] = ((recH e ls tx k p nx pg sl).take 8).map fun c => Value.int .u8 (c.toNat : Int) := by rw [List.map_take, List.map_take, ← HC.out]; rfl
      have HE4 := Lib.hid e4
      have hix : ∀ W, (Instr.index 134 (.agg #[.int .i64 (e : Int), .int .i64 (ls : Int), .int .i64 (tx : Int), .int .i64 (k : Int), .int .i64 (p : Int), .int .i64 (nx : Int), .int .i64 (pg : Int), .int .i64 (sl : Int)]) (.int .i64 6)).run Try.prog W = .ok (.int .i64 (pg : Int)) W := fun _ => by kernel_rfl
      clear e4
      have hrow := own_ext HO.out ((Ext.refl wr).alloc (.cells #[Value.int .u8 (pg : Int)] 5))
      go_wp2_with (at_builtin; refine wpList_append_own _ rfl (.tmp 27) (.tmp 30) 22 rfl w.heap.size 5 i0 (.int .u8 0) 1 1 Try.underlying22 hi hz0 hz1 hz2 rfl (by decide) _ 7 _ rfl hrow ⟨wr.heap.size, 0, none⟩ 1 1 [Value.int .u8 (pg : Int)] rfl rfl (rd_add (Blk.new wr _ _).rd) (by intro u hu; simp at hu; subst hu; rfl) (by unfold maxLen; omega) (by omega) (by simp; omega) ?_)
      intro v' w2 ho hg _
      have hne := own_apart hrow (HB.out.alloc (.cells #[Value.int .u8 (pg : Int)] 5)) (by decide)
      have HB2 := Lib.hid (show Blk w2 w.heap.size 57 [.int .i64 (e : Int), .int .i64 (ls : Int), .int .i64 (tx : Int), .int .i64 (k : Int), .int .i64 (p : Int), .int .i64 (nx : Int), .int .i64 (pg : Int), .int .i64 (sl : Int), .string bf, .string af] from (hg.block _ (HB.out.alloc (.cells #[Value.int .u8 (pg : Int)] 5)).lt hne).trans (HB.out.alloc _))
      have HO2 := Lib.hid ho
      have HE2 := Lib.hid ((hE.alloc (.cells #[Value.int .u8 (pg : Int)] 5)).grown hg (own_blk hrow))
      clear ho hg hrow hne
      go_wp2_with fail
      go_roundw
      case rel => exact ⟨7, by omega, by first | rfl | go_num, by rw [← HE4.out]; exact HO2.out, HB2.out, HE2.out⟩
      case measure => simp [intOf]
    · have e4 : ((recH e ls tx k p nx pg sl).take 8).map (fun c => Value.int .u8 (c.toNat : Int)) ++ [Value.int .u8 (sl : Int)] = ((recH e ls tx k p nx pg sl).take 9).map fun c => Value.int .u8 (c.toNat : Int) := by rw [List.map_take, List.map_take, ← HC.out]; rfl
      have HE4 := Lib.hid e4
      have hix : ∀ W, (Instr.index 134 (.agg #[.int .i64 (e : Int), .int .i64 (ls : Int), .int .i64 (tx : Int), .int .i64 (k : Int), .int .i64 (p : Int), .int .i64 (nx : Int), .int .i64 (pg : Int), .int .i64 (sl : Int)]) (.int .i64 7)).run Try.prog W = .ok (.int .i64 (sl : Int)) W := fun _ => by kernel_rfl
      clear e4
      have hrow := own_ext HO.out ((Ext.refl wr).alloc (.cells #[Value.int .u8 (sl : Int)] 5))
      go_wp2_with (at_builtin; refine wpList_append_own _ rfl (.tmp 27) (.tmp 30) 22 rfl w.heap.size 5 i0 (.int .u8 0) 1 1 Try.underlying22 hi hz0 hz1 hz2 rfl (by decide) _ 8 _ rfl hrow ⟨wr.heap.size, 0, none⟩ 1 1 [Value.int .u8 (sl : Int)] rfl rfl (rd_add (Blk.new wr _ _).rd) (by intro u hu; simp at hu; subst hu; rfl) (by unfold maxLen; omega) (by omega) (by simp; omega) ?_)
      intro v' w2 ho hg _
      have hne := own_apart hrow (HB.out.alloc (.cells #[Value.int .u8 (sl : Int)] 5)) (by decide)
      have HB2 := Lib.hid (show Blk w2 w.heap.size 57 [.int .i64 (e : Int), .int .i64 (ls : Int), .int .i64 (tx : Int), .int .i64 (k : Int), .int .i64 (p : Int), .int .i64 (nx : Int), .int .i64 (pg : Int), .int .i64 (sl : Int), .string bf, .string af] from (hg.block _ (HB.out.alloc (.cells #[Value.int .u8 (sl : Int)] 5)).lt hne).trans (HB.out.alloc _))
      have HO2 := Lib.hid ho
      have HE2 := Lib.hid ((hE.alloc (.cells #[Value.int .u8 (sl : Int)] 5)).grown hg (own_blk hrow))
      clear ho hg hrow hne
      go_wp2_with fail
      go_roundw
      case rel => exact ⟨8, by omega, by first | rfl | go_num, by rw [← HE4.out]; exact HO2.out, HB2.out, HE2.out⟩
      case measure => simp [intOf]
    · have c8 : wr.cell? ⟨w.heap.size, 8, none⟩ = some (.string bf) := HB.out.cell (i := 8) (by simp)
      have c9 : wr.cell? ⟨w.heap.size, 9, none⟩ = some (.string af) := HB.out.cell (i := 9) (by simp)
      have hall : (recH e ls tx k p nx pg sl).take (8 + 1) = recH e ls tx k p nx pg sl := rfl
      have hO := HO.out
      rw [hall] at hO
      have BN := Blk.new wr 9 [.string bf, .string af]
      have EN : Ext wr (wr.alloc (.cells #[.string bf, .string af] 9)) := (by repeat (first | exact Ext.refl _ | assumption | refine Ext.alloc ?_ _ | refine Ext.drewN ?_ _ | refine Ext.drew ?_ | refine Ext.set ?_ (by dsimp only; omega) _ | refine Ext.trans ?_ (by assumption)))
      have hl2 := fields2_len bf af
      have HP := Lib.hid (impl_putFields w.heap.size _ (8 + 1) (recH e ls tx k p nx pg sl) (some ⟨wr.heap.size, 0, none⟩) 2 2 [bf, af] _ rfl (by rw [List.length_append, hl2]; simp [recH]; omega) (by simp; omega) BN.rd BN.stay (own_ext hO EN))
      have HEN := Lib.hid (hE.trans EN)
      clear hO BN EN hall
      go_wp2_with fail
      refine HP.out.mono ?_
      rintro en w2 ⟨v2, rfl, O2, E2⟩
      have hlw := Below.size E2
      simp at hlw
      have HS := Lib.hid (impl_sealed w.heap.size v2 _ (recH e ls tx k p nx pg sl ++ fieldsB [bf, af]) w2 (by rw [List.length_append, hl2]; simp [recH]; omega) (by omega) O2)
      have HE2 := Lib.hid (Below.trans HEN.out E2)
      clear O2 E2 HP HEN
      go_wp2_with fail
      refine HS.out.mono ?_
      rintro en w3 ⟨v3, rfl, O3, E3⟩
      go_wp2_with fail
      go_ret
      refine ⟨v3, rfl, ?_, Below.trans HE2.out E3⟩
      have e : (recRaw e ls tx k p nx pg sl bf af).length = (recH e ls tx k p nx pg sl ++ fieldsB [bf, af]).length + 4 := by unfold recRaw sealB; rw [List.length_append, four_len]
      rw [e]; exact O3
set_option maxHeartbeats 4000000 in
theorem spec_l04Bytes (e ls tx k p nx pg sl : Nat) (bf af : ByteArray) (w : World) (b0 : e < 256) (b1 : ls < 256) (b2 : tx < 256) (b3 : k < 256) (b4 : p < 256) (b5 : nx < 256) (b6 : pg < 256) (b7 : sl < 256) (hb : bf.size ≤ 2000000) (ha : af.size ≤ 2000000) :
    Calls Try.prog 87 #[.agg #[.int .i64 (e : Int), .int .i64 (ls : Int), .int .i64 (tx : Int), .int .i64 (k : Int), .int .i64 (p : Int), .int .i64 (nx : Int), .int .i64 (pg : Int), .int .i64 (sl : Int), .string bf, .string af]] w fun en w' => ∃ v, en = .returned v ∧ w'.ownsRow w.heap.size 5 1 v (recRaw e ls tx k p nx pg sl bf af).length ((recRaw e ls tx k p nx pg sl bf af).map fun c => Value.int .u8 (c.toNat : Int)) ∧ Ext w w' := by
  have HC := Lib.hid (recH_cells e ls tx k p nx pg sl b0 b1 b2 b3 b4 b5 b6 b7)
  have hinit := World.ownsRow_lit (base := w.heap.size) (e := 5) (size := 1) (w.alloc (.cells #[.int .i64 (e : Int), .int .i64 (ls : Int), .int .i64 (tx : Int), .int .i64 (k : Int), .int .i64 (p : Int), .int .i64 (nx : Int), .int .i64 (pg : Int), .int .i64 (sl : Int), .string bf, .string af] 57)) #[Value.int .u8 108, Value.int .u8 (e : Int), Value.int .u8 (ls : Int), Value.int .u8 (tx : Int), Value.int .u8 (k : Int), Value.int .u8 (p : Int), Value.int .u8 (nx : Int), Value.int .u8 (pg : Int), Value.int .u8 (sl : Int)] 9 (by simp) (by unfold maxLen; omega) rfl
  rw [World.size_alloc, show (#[Value.int .u8 108, Value.int .u8 (e : Int), Value.int .u8 (ls : Int), Value.int .u8 (tx : Int), Value.int .u8 (k : Int), Value.int .u8 (p : Int), Value.int .u8 (nx : Int), Value.int .u8 (pg : Int), Value.int .u8 (sl : Int)] : Array Value).toList = _ from HC.out] at hinit
  have hO := own_ext hinit ((Ext.refl _).alloc (.cells #[.string bf, .string af] 9))
  have BN := Blk.new ((w.alloc (.cells #[.int .i64 (e : Int), .int .i64 (ls : Int), .int .i64 (tx : Int), .int .i64 (k : Int), .int .i64 (p : Int), .int .i64 (nx : Int), .int .i64 (pg : Int), .int .i64 (sl : Int), .string bf, .string af] 57)).alloc (.cells #[Value.int .u8 108, Value.int .u8 (e : Int), Value.int .u8 (ls : Int), Value.int .u8 (tx : Int), Value.int .u8 (k : Int), Value.int .u8 (p : Int), Value.int .u8 (nx : Int), Value.int .u8 (pg : Int), Value.int .u8 (sl : Int)] 5)) 9 [.string bf, .string af]
  rw [World.size_alloc, World.size_alloc] at BN
  have E0 : Ext w (((w.alloc (.cells #[.int .i64 (e : Int), .int .i64 (ls : Int), .int .i64 (tx : Int), .int .i64 (k : Int), .int .i64 (p : Int), .int .i64 (nx : Int), .int .i64 (pg : Int), .int .i64 (sl : Int), .string bf, .string af] 57)).alloc (.cells #[Value.int .u8 108, Value.int .u8 (e : Int), Value.int .u8 (ls : Int), Value.int .u8 (tx : Int), Value.int .u8 (k : Int), Value.int .u8 (p : Int), Value.int .u8 (nx : Int), Value.int .u8 (pg : Int), Value.int .u8 (sl : Int)] 5)).alloc (.cells #[.string bf, .string af] 9)) := (by repeat (first | exact Ext.refl _ | assumption | refine Ext.alloc ?_ _ | refine Ext.drewN ?_ _ | refine Ext.drew ?_ | refine Ext.set ?_ (by dsimp only; omega) _ | refine Ext.trans ?_ (by assumption)))
  have hl2 := fields2_len bf af
  have HF := Lib.hid (spec_l01Fields (some ⟨w.heap.size + 1 + 1, 0, none⟩) 2 2 [bf, af] _ rfl (by rw [hl2]; omega) (by omega) BN.rd)
  have HO := Lib.hid hO
  have HE := Lib.hid E0
  obtain ⟨i0, hi, hz0, hz1, hz2⟩ := info_parts info_ByteS
  clear hinit BN E0 hO
  have q0 : (e : Int) < 256 := by omega
  have q1 : (ls : Int) < 256 := by omega
  have q2 : (tx : Int) < 256 := by omega
  have q3 : (k : Int) < 256 := by omega
  have q4 : (p : Int) < 256 := by omega
  have q5 : (nx : Int) < 256 := by omega
  have q6 : (pg : Int) < 256 := by omega
  have q7 : (sl : Int) < 256 := by omega
  go_enter Try.func87, Try.ntmps87
  go_wp2_with fail
  refine HF.out.mono ?_
  rintro en w2 ⟨v2, rfl, O2, E2⟩
  obtain ⟨g, cap, cs, rfl, hgB, hcap, hcapm, hb4, hcsl, hcst⟩ := own_form O2 (by rw [hl2]; omega)
  have hrd := Rd.take_ (n := (fieldsB [bf, af]).length) hb4 (by simpa using hcst)
  have hO2 := own_ext HO.out E2
  have hE2 := HE.out.trans E2
  have hle2 := hE2.le
  have hfl : (fieldsB [bf, af]).length ≤ 4000003 := by rw [hl2]; omega
  clear O2 hb4 hcsl hcst HF HO HE hl2
  go_wp2_with (at_builtin; refine wpList_append_own _ rfl (.tmp 29) (.tmp 35) 22 rfl w.heap.size 5 i0 (.int .u8 0) 1 1 Try.underlying22 hi hz0 hz1 hz2 rfl (by decide) _ 9 _ rfl hO2 ⟨g, 0, none⟩ (fieldsB [bf, af]).length cap ((fieldsB [bf, af]).map fun c => Value.int .u8 (c.toNat : Int)) rfl (by simp) (rd_add hrd) (one_bytes _) (by unfold maxLen; omega) (by omega) (by omega) ?_)
  intro v3 w3 O3 G3 _
  rw [← List.map_append] at O3
  have HE3 := Lib.hid (hE2.grown G3 (own_blk hO2))
  have HS := Lib.hid (spec_l03Sealed w.heap.size v3 _ (recH e ls tx k p nx pg sl ++ fieldsB [bf, af]) w3 (by omega) HE3.out.le O3)
  clear O3 G3 hO2 hrd hE2
  go_wp2_with fail
  refine HS.out.mono ?_
  rintro en w4 ⟨v4, rfl, O4, E4⟩
  go_wp2_with fail
  go_ret
  refine ⟨v4, rfl, ?_, Below.trans HE3.out E4⟩
  have e : (recRaw e ls tx k p nx pg sl bf af).length = 9 + (fieldsB [bf, af]).length + 4 := by rw [recRaw_len, fields2_len]
  rw [e]; exact O4
end Go.Proofs.Yteaefjicpefgnaa
