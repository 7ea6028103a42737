/- The walks of the law file's helpers over []uint8: copy, compare. -/
import Derived.Test.YteaefjicpefgnaaRows
import Derived.Test.YteaefjicpefgnaaMem
namespace Go.Proofs.Yteaefjicpefgnaa
open Go.RowKit Go.Deep
set_option linter.unusedVariables false
set_option maxRecDepth 100000
theorem info_ByteS : (Try.prog.info? 5).map (fun i => (i.zero, i.size, i.bytes)) = some (some (Value.int .u8 0), 1, 1) := by kernel_rfl
/-- []uint8: a copy in a block of its own -/
theorem toByteS_any (A : Option Addr) (n cp : Nat) (l : List UInt8) (w : World) (hl : l.length = n) (hn : n ≤ 1099511627776) (hr : Rd w A (l.map fun c => Value.int .u8 (c.toNat : Int))) :
    Calls Try.prog 21 #[.slice A n cp] w fun e w' => e = .returned (.slice (some ⟨w.heap.size, 0, none⟩) n n) ∧ Blk w' w.heap.size 5 (l.map fun c => Value.int .u8 (c.toNat : Int)) ∧ w'.heap.size = w.heap.size + 1 ∧ Ext w w' := by
  have HL := Lib.hid hl
  clear hl
  have hmk := run_make_row' (P := Try.prog) 22 5 (Value.int .u8 0) 1 Try.underlying22 info_ByteS rfl .i64 .i64 n (by omega) (by omega)
  go_enter Try.func21, Try.ntmps21
  go_wp2
  clear hmk
  go_loopw [4] (fun i wr => ∃ k : Nat, k ≤ n ∧ i = .int .i64 k ∧ Blk wr w.heap.size 5 (((l.take k).map fun c => Value.int .u8 (c.toNat : Int)) ++ List.replicate (n - k) (Value.int .u8 0)) ∧ wr.heap.size = w.heap.size + 1 ∧ Ext w wr)
    (fun i _ => n - (intOf i).toNat)
  case atStart => exact ⟨0, Nat.zero_le _, rfl, (Blk.made w _ _ n).of_eq (by simp), by simp, (Ext.refl _).alloc _⟩
  case round =>
    obtain ⟨k, hk, rfl, hB, hsz, hE⟩ := hrel
    have HB := Lib.hid hB
    have HS := Lib.hid hsz
    clear hB hsz
    by_cases hlt : k < n
    · have hkl : k < l.length := by rw [HL.out]; exact hlt
      obtain ⟨b, o, rfl, hc⟩ := (hr.ext hE).map_ hkl
      obtain ⟨u, hu⟩ := fill_at (fun c : UInt8 => Value.int .u8 (c.toNat : Int)) (Value.int .u8 0) l k n hlt HL.out
      have hcell : wr.cell? ⟨w.heap.size, k, none⟩ = some u := by
        obtain ⟨hj, e⟩ := List.getElem?_eq_some_iff.1 hu
        rw [HB.out.cell hj, e]
      have hfr := HB.out.frozen k
      have HU := Lib.hid hu
      clear hu
      go_wp2
      go_roundw
      case rel => exact ⟨k + 1, by omega, by go_num, (HB.out.set k _).of_eq (fill_step (fun c : UInt8 => Value.int .u8 (c.toNat : Int)) _ l k n hkl HL.out), by simpa [World.setCell] using HS.out, hE.set (Nat.le_refl _) _⟩
      case measure => simp [intOf]; omega
    · have hk2 : k = n := by omega
      subst hk2
      go_wp2
      go_ret
      exact ⟨rfl, HB.out.of_eq (fill_done _ _ l k HL.out), HS.out, hE⟩
set_option maxHeartbeats 1000000 in
/-- []uint8: equal contents are found equal -/
theorem eqByteS_same (A A' : Option Addr) (n cp cp' : Nat) (l : List UInt8) (w : World) (hl : l.length = n) (hn : n ≤ 1099511627776) (hr : Rd w A (l.map fun c => Value.int .u8 (c.toNat : Int))) (hr' : Rd w A' (l.map fun c => Value.int .u8 (c.toNat : Int))) :
    Calls Try.prog 17 #[.slice A n cp, .slice A' n cp'] w fun e w' => e = .returned (.bool true) ∧ Ext w w' ∧ w'.heap = w.heap := by
  have HL := Lib.hid hl
  clear hl
  go_enter Try.func17, Try.ntmps17
  go_wp2
  go_loopw [5] (fun i wr => ∃ k : Nat, k ≤ n ∧ i = .int .i64 k ∧ ∃ m, wr = w.drewN m) (fun i _ => n - (intOf i).toNat)
  case atStart => exact ⟨0, Nat.zero_le _, rfl, 0, rfl⟩
  case round =>
    obtain ⟨k, hk, rfl, m, rfl⟩ := hrel
    by_cases hlt : k < n
    · have hkl : k < l.length := by rw [HL.out]; exact hlt
      obtain ⟨b, o, rfl, hc⟩ := hr.map_ hkl
      obtain ⟨b', o', rfl, hc'⟩ := hr'.map_ hkl
      have hlt2 : (k : Int) < (n : Int) := by omega
      go_wp2
      go_quiet (fail)
      go_wp2
      go_roundw
      case rel => exact ⟨k + 1, by omega, by go_num, m + nq, rfl⟩
      case measure => simp [intOf]; omega
    · have hlt2 : ¬ (k : Int) < (n : Int) := by omega
      go_wp2
      go_ret
      exact ⟨rfl, (Ext.refl _).drewN _, rfl⟩
end Go.Proofs.Yteaefjicpefgnaa
