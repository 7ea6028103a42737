/- The walks of the law file's helpers over []string: copy, compare. -/
import Derived.Test.YteaefjicpefgnaaRows
import Derived.Test.YteaefjicpefgnaaMem
namespace Go.Proofs.Yteaefjicpefgnaa
open Go.RowKit Go.Deep
set_option linter.unusedVariables false
set_option maxRecDepth 100000
theorem info_StringS : (Try.prog.info? 9).map (fun i => (i.zero, i.size, i.bytes)) = some (some (Value.string ByteArray.empty), 1, 16) := by kernel_rfl
/-- []string: a copy in a block of its own -/
theorem toStringS_any (A : Option Addr) (n cp : Nat) (l : List ByteArray) (w : World) (hl : l.length = n) (hn : n ≤ 1099511627776) (hr : Rd w A (l.map fun c => Value.string c)) :
    Calls Try.prog 30 #[.slice A n cp] w fun e w' => e = .returned (.slice (some ⟨w.heap.size, 0, none⟩) n n) ∧ Blk w' w.heap.size 9 (l.map fun c => Value.string c) ∧ w'.heap.size = w.heap.size + 1 ∧ Ext w w' := by
  have HL := Lib.hid hl
  clear hl
  have hmk := run_make_row' (P := Try.prog) 32 9 (Value.string ByteArray.empty) 16 Try.underlying32 info_StringS rfl .i64 .i64 n (by omega) (by omega)
  go_enter Try.func30, Try.ntmps30
  go_wp2
  clear hmk
  go_loopw [4] (fun i wr => ∃ k : Nat, k ≤ n ∧ i = .int .i64 k ∧ Blk wr w.heap.size 9 (((l.take k).map fun c => Value.string c) ++ List.replicate (n - k) (Value.string ByteArray.empty)) ∧ wr.heap.size = w.heap.size + 1 ∧ Ext w wr)
    (fun i _ => n - (intOf i).toNat)
  case atStart => exact ⟨0, Nat.zero_le _, rfl, (Blk.made w _ _ n).of_eq (by simp), by simp, (Ext.refl _).alloc _⟩
  case round =>
    obtain ⟨k, hk, rfl, hB, hsz, hE⟩ := hrel
    have HB := Lib.hid hB
    have HS := Lib.hid hsz
    clear hB hsz
    by_cases hlt : k < n
    · have hkl : k < l.length := by rw [HL.out]; exact hlt
      obtain ⟨b, o, rfl, hc⟩ := (hr.ext hE).map_ hkl
      obtain ⟨u, hu⟩ := fill_at (fun c : ByteArray => Value.string c) (Value.string ByteArray.empty) l k n hlt HL.out
      have hcell : wr.cell? ⟨w.heap.size, k, none⟩ = some u := by
        obtain ⟨hj, e⟩ := List.getElem?_eq_some_iff.1 hu
        rw [HB.out.cell hj, e]
      have hfr := HB.out.frozen k
      have HU := Lib.hid hu
      clear hu
      go_wp2
      go_roundw
      case rel => exact ⟨k + 1, by omega, by go_num, (HB.out.set k _).of_eq (fill_step (fun c : ByteArray => Value.string c) _ l k n hkl HL.out), by simpa [World.setCell] using HS.out, hE.set (Nat.le_refl _) _⟩
      case measure => simp [intOf]; omega
    · have hk2 : k = n := by omega
      subst hk2
      go_wp2
      go_ret
      exact ⟨rfl, HB.out.of_eq (fill_done _ _ l k HL.out), HS.out, hE⟩
set_option maxHeartbeats 1000000 in
/-- []string: equal contents are found equal -/
theorem eqStringS_same (A A' : Option Addr) (n cp cp' : Nat) (l : List ByteArray) (w : World) (hl : l.length = n) (hn : n ≤ 1099511627776) (hr : Rd w A (l.map fun c => Value.string c)) (hr' : Rd w A' (l.map fun c => Value.string c)) :
    Calls Try.prog 25 #[.slice A n cp, .slice A' n cp'] w fun e w' => e = .returned (.bool true) ∧ Ext w w' ∧ w'.heap = w.heap := by
  have HL := Lib.hid hl
  clear hl
  go_enter Try.func25, Try.ntmps25
  go_wp2
  go_loopw [5] (fun i wr => ∃ k : Nat, k ≤ n ∧ i = .int .i64 k ∧ ∃ m, wr = w.drewN m) (fun i _ => n - (intOf i).toNat)
  case atStart => exact ⟨0, Nat.zero_le _, rfl, 0, rfl⟩
  case round =>
    obtain ⟨k, hk, rfl, m, rfl⟩ := hrel
    by_cases hlt : k < n
    · have hkl : k < l.length := by rw [HL.out]; exact hlt
      obtain ⟨b, o, rfl, hc⟩ := hr.map_ hkl
      obtain ⟨b', o', rfl, hc'⟩ := hr'.map_ hkl
      have hlt2 : (k : Int) < (n : Int) := by omega
      go_wp2
      go_quiet (fail)
      go_wp2
      go_roundw
      case rel => exact ⟨k + 1, by omega, by go_num, m + nq, rfl⟩
      case measure => simp [intOf]; omega
    · have hlt2 : ¬ (k : Int) < (n : Int) := by omega
      go_wp2
      go_ret
      exact ⟨rfl, (Ext.refl _).drewN _, rfl⟩
set_option maxHeartbeats 1000000 in
/-- the size of texts, taken off what is left -/
theorem szStringS_any (A : Option Addr) (n cp : Nat) (l : List ByteArray) (left : Int) (w : World) (hl : l.length = n) (hn : n ≤ 9223372036854775807) (h0 : 0 ≤ left) (h1 : left ≤ 1048576) (hx : ∀ s ∈ l, s.size ≤ maxLen) (hr : Rd w A (l.map fun c => Value.string c)) :
    Calls Try.prog 28 #[.slice A n cp, .int .i64 left] w (SzPost w left ((l.length : Int) ≤ left ∧ ∀ s ∈ l, (s.size : Int) ≤ left)) := by
  have HL := Lib.hid hl
  have HX := Lib.hid hx
  clear hl hx
  by_cases hb : left < (n : Int)
  · have d : decide (left - (n : Int) < 0) = true := decide_eq_true (by omega)
    go_enter Try.func28, Try.ntmps28
    go_wp2
    go_ret
    exact ⟨-1, rfl, by omega, by omega, fun h => by omega, Ext.refl _⟩
  · have d : decide (left - (n : Int) < 0) = false := decide_eq_false (by omega)
    go_enter Try.func28, Try.ntmps28
    go_wp2
    clear d
    go_loop [5, 1] (fun i t => ∃ (k : Nat) (L : Int), k ≤ n ∧ i = .int .i64 k ∧ t = .int .i64 L ∧ 0 ≤ L ∧ L ≤ left ∧ ∀ q, (hq : q < l.length) → q < k → ((l[q]'hq).size : Int) ≤ left) (fun i _ => n - (intOf i).toNat)
    case atStart => exact ⟨0, _, Nat.zero_le _, rfl, rfl, by omega, by omega, fun q _ h => absurd h (Nat.not_lt_zero _)⟩
    case round =>
      obtain ⟨k, L, hk, rfl, rfl, hL0, hL1, hq⟩ := hrel
      have HQ := Lib.hid hq
      clear hq
      by_cases hlt : k < n
      · have hkl : k < l.length := by rw [HL.out]; exact hlt
        obtain ⟨b, o, rfl, hc⟩ := hr.map_ hkl
        have hm := HX.out _ (List.getElem_mem hkl)
        unfold maxLen at hm
        by_cases hb2 : L < (l[k].size : Int)
        · have d : decide (L - (l[k].size : Int) < 0) = true := decide_eq_true (by omega)
          go_wp2
          go_ret
          exact ⟨-1, rfl, by omega, by omega, fun h => by omega, Ext.refl _⟩
        · have d : decide (L - (l[k].size : Int) < 0) = false := decide_eq_false (by omega)
          go_wp2
          go_round
          case rel => exact ⟨k + 1, _, by omega, by go_num, rfl, by omega, by omega, fun q hq hqk => by
            rcases Nat.lt_or_ge q k with h | h
            · exact HQ.out q hq h
            · have : q = k := by omega
              subst this; omega⟩
          case measure => simp [intOf]; omega
      · have hk2 : k = n := by omega
        subst hk2
        go_wp2
        go_ret
        exact ⟨L, rfl, by omega, hL1, fun _ => ⟨by rw [HL.out]; omega, fun s hs => by
          obtain ⟨q, hq, rfl⟩ := List.getElem_of_mem hs
          exact HQ.out q hq (by rw [HL.out] at hq; exact hq)⟩, Ext.refl _⟩
end Go.Proofs.Yteaefjicpefgnaa
