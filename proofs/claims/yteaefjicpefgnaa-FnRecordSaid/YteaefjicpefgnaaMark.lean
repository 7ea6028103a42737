/- The walks of the laws' marking helpers. -/
import Derived.Test.YteaefjicpefgnaaRows
import Derived.Test.YteaefjicpefgnaaConv
namespace Go.Proofs.Yteaefjicpefgnaa
open Go.RowKit Go.Deep
set_option linter.unusedVariables false
set_option maxRecDepth 100000
set_option maxHeartbeats 400000 in
theorem markText_nat (k : Nat) (w : World) (h1 : 1 ≤ k) (h2 : k ≤ 8000000) :
    Calls Try.prog 69 #[.int .i64 (k : Int)] w fun e w' => e = .returned (.string (mtext k)) ∧ Ext w w' := by
  go_enter Try.func69, Try.ntmps69
  go_wp2
  go_loopw [0, 3] (fun t s wr => ∃ (q f : Nat) (out : List UInt8), t = .int .i64 q ∧ s = .string ⟨out.toArray⟩ ∧ q ≤ f ∧ out.length + f ≤ k ∧ digs f q out = digs k k [] ∧ Ext w wr) (fun t _ _ => (intOf t).toNat)
  case atStart => exact ⟨k, k, [], rfl, rfl, Nat.le_refl _, by simp, rfl, Ext.refl _⟩
  case round =>
    obtain ⟨q, f, out, rfl, rfl, hq, hlen, hd, hE⟩ := hrel
    have HD := Lib.hid hd
    clear hd
    by_cases h0 : q = 0
    · have HF := Lib.hid (show out = digs k k [] by rw [← HD.out, h0, digs_zero])
      subst h0
      go_wp2
      go_ret
      exact ⟨ret_val (congrArg Value.string (by unfold mtext; rw [← HF.out]; exact ByteArray.mk_append_mk [109] out)), hE⟩
    · have hp : (0 : Int) < (q : Int) := by omega
      obtain ⟨g, hg, hg2, hds⟩ := digs_step f q out h0 hq
      have HS := Lib.hid hds
      have HG := Lib.hid hg
      clear hds hg h0
      have hcv := run_text (P := Try.prog) (src := 22) (dst := 9) Try.underlying22 Try.underlying5 Try.underlying9 (wr.alloc (.cells #[.int .u8 (48 + (q : Int) % 10)] 5)) (some ⟨wr.heap.size, 0, none⟩) 1 1 [UInt8.ofNat (48 + q % 10)] rfl (by
        have := (Blk.new wr 5 [.int .u8 (48 + (q : Int) % 10)]).rd
        simp only [List.map_cons, List.map_nil, dig_toNat]
        exact this)
      go_wp2
      go_roundw
      case rel => exact ⟨q / 10, g, UInt8.ofNat (48 + q % 10) :: out, by first | go_num | simp, by rw [text_cons (UInt8.ofNat (48 + q % 10)) out]; simp, hg2, by have := HG.out; simp only [List.length_cons]; omega, by rw [← HS.out]; exact HD.out, (by repeat (first | exact Ext.refl _ | assumption | refine Ext.alloc ?_ _ | refine Ext.drewN ?_ _ | refine Ext.drew ?_ | refine Ext.set ?_ (by dsimp only; omega) _ | refine Ext.trans ?_ (by assumption)))⟩
      case measure => simp [intOf]; omega
theorem markText_any (k : Int) (w : World) (h1 : 1 ≤ k) (h2 : k ≤ 8000000) :
    Calls Try.prog 69 #[.int .i64 k] w fun e w' => e = .returned (.string (mtext k.toNat)) ∧ Ext w w' := by
  obtain ⟨n, rfl⟩ := Int.eq_ofNat_of_zero_le (show 0 ≤ k by omega)
  exact markText_nat n w (by omega) (by omega)
set_option maxHeartbeats 400000 in
/-- []string: every text turned into its mark -/
theorem markStringS_any (b n cp : Nat) (k : Int) (l : List ByteArray) (cs : List Value) (w : World) (hn : n ≤ 2000000) (h1 : 1 ≤ k) (h2 : k ≤ 4000000) (hl : l.length = n) (hB : Blk w b 9 ((l.map fun c => Value.string c) ++ cs)) :
    Calls Try.prog 26 #[.slice (some ⟨b, 0, none⟩) n cp, .int .i64 k] w fun e w' => e = .returned (.int .i64 (k + n)) ∧ Blk w' b 9 ((marks k n).map (fun c => Value.string c) ++ cs) ∧ w.grownBy w' (some b) := by
  have HL := Lib.hid hl
  clear hl
  go_enter Try.func26, Try.ntmps26
  go_wp2
  go_loopw [5, 1] (fun i t wr => ∃ j : Nat, j ≤ n ∧ i = .int .i64 j ∧ t = .int .i64 (k + j) ∧ Blk wr b 9 ((marks k j ++ l.drop j).map (fun c => Value.string c) ++ cs) ∧ w.grownBy wr (some b)) (fun i _ _ => n - (intOf i).toNat)
  case atStart => exact ⟨0, Nat.zero_le _, rfl, by simp, by simpa [marks] using hB, World.grownBy.refl _ _⟩
  case round =>
    obtain ⟨j, hj, rfl, rfl, hBr, hG⟩ := hrel
    have HB := Lib.hid hBr
    have HG := Lib.hid hG
    clear hBr hG
    by_cases hlt : j < n
    · have hjl : j < l.length := by rw [HL.out]; exact hlt
      go_wp2_with fail
      refine (markText_any (k + j) wr (by omega) (by omega)).mono ?_
      rintro e w1 ⟨rfl, E1⟩
      have HB1 := Lib.hid (HB.out.ext E1)
      have hjc : j < ((marks k j ++ l.drop j).map (fun c => Value.string c) ++ cs).length := by
        rw [List.length_append, List.length_map, List.length_append, marks_len, List.length_drop]; omega
      have hc : w1.cell? ⟨b, j, none⟩ = some (.string l[j]) := by
        rw [HB1.out.cell hjc]
        rw [List.getElem_append_left (by rw [List.length_map, List.length_append, marks_len, List.length_drop]; omega), List.getElem_map, List.getElem_append_right (by rw [marks_len]; exact Nat.le_refl _)]
        simp [marks_len]
      have hf := HB1.out.frozen j
      generalize hT : mtext (k + j).toNat = T
      have HT := Lib.hid hT
      clear hT
      go_wp2_with fail
      go_roundw
      case rel => exact ⟨j + 1, by omega, by go_num, by go_num, (HB1.out.set j _).of_eq (by rw [← HT.out]; exact marks_step k l cs j hjl), grown_step HG.out E1 b j _⟩
      case measure => simp [intOf]; omega
    · have hj4 : j = n := by omega
      subst hj4
      have HD := Lib.hid (HB.out.of_eq (marks_done k l cs j HL.out))
      go_wp2_with fail
      go_ret
      exact ⟨rfl, HD.out, HG.out⟩
set_option maxHeartbeats 400000 in
/-- []string: the marks are held -/
theorem heldStringS_any (A : Option Addr) (n cp : Nat) (k : Int) (w : World) (hn : n ≤ 2000000) (h1 : 1 ≤ k) (h2 : k ≤ 4000000) (hr : Rd w A ((marks k n).map fun c => Value.string c)) :
    Calls Try.prog 27 #[.slice A n cp, .int .i64 k] w fun e w' => e = .returned (.int .i64 (k + n)) ∧ Ext w w' := by
  go_enter Try.func27, Try.ntmps27
  go_wp2
  go_loopw [5, 1] (fun i t wr => ∃ j : Nat, j ≤ n ∧ i = .int .i64 j ∧ t = .int .i64 (k + j) ∧ Ext w wr) (fun i _ _ => n - (intOf i).toNat)
  case atStart => exact ⟨0, Nat.zero_le _, rfl, by simp, Ext.refl _⟩
  case round =>
    obtain ⟨j, hj, rfl, rfl, hE⟩ := hrel
    by_cases hlt : j < n
    · have hjl : j < (marks k n).length := by rw [marks_len]; exact hlt
      obtain ⟨b, o, rfl, hc⟩ := (hr.ext hE).map_ hjl
      rw [marks_at k n j hjl] at hc
      have hlt2 : (j : Int) < (n : Int) := by omega
      have hg := Gr.cell hc
      have hm := fun W => markText_any (k + j) W (by omega) (by omega)
      generalize mtext (k + j).toNat = T at hc hg hm
      have HM := Lib.hid hm
      clear hm
      go_wp2_with fail
      (refine wp_region_gr (by kernel_rfl) (by kernel_rfl) ?_; (repeat (first | go_big_quiet_skip | (go_big_quiet_want; go_big_quiet_op; first | go_big_quiet_on | (apply Exists.intro; refine ⟨fun _ => ?_, ?_⟩; (focus ((go_at_call 69; exact Calls.gr (HM.out _)))); go_big_quiet_on)))); refine wpQuiet_nil ?_)
      rintro ⟨w1, E1⟩
      clear hg
      go_wp2_with fail
      go_roundw
      case rel => exact ⟨j + 1, by omega, by go_num, by go_num, (by repeat (first | exact Ext.refl _ | assumption | refine Ext.alloc ?_ _ | refine Ext.drewN ?_ _ | refine Ext.drew ?_ | refine Ext.set ?_ (by dsimp only; omega) _ | refine Ext.trans ?_ (by assumption)))⟩
      case measure => simp [intOf]; omega
    · have hj4 : j = n := by omega
      subst hj4
      go_wp2_with fail
      go_ret
      exact ⟨rfl, hE⟩
end Go.Proofs.Yteaefjicpefgnaa
