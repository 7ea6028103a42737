/- The walks of the laws' helpers over Pending and slices of it (printed by gen_flat.py). -/
import Derived.Test.YtnbfjkebakaigaaFlat
import Derived.Test.YtnbfjkebakaigaaMark
import Derived.Test.YtnbfjkebakaigaaRg
namespace Go.Proofs.Ytnbfjkebakaigaa
open Go.RowKit Go.Deep
set_option linter.unusedVariables false
set_option maxRecDepth 100000
structure CPending where
  a : Int
  c : ByteArray
/-- its cells -/
def CPending.cs (x : CPending) : List Value := [.int .i64 x.a, .string x.c]
theorem CPending.len (x : CPending) : x.cs.length = 2 := rfl
theorem toPending_any (a : Int) (c : ByteArray) (w : World) : Calls Try.prog 135 #[.agg #[.int .i64 a, .string c]] w fun e w' => e = .returned (.agg #[.int .i64 a, .string c]) ∧ Ext w w' := by
  go_enter Try.func135, Try.ntmps135
  go_wp2
  refine bodyPost_ret (v := .agg #[.int .i64 a, .string c]) (by simp [results, Try.results135, go_sem]) rfl ⟨rfl, (((Ext.refl _).alloc _).alloc _).alloc _⟩
set_option maxHeartbeats 1000000 in
theorem eqPending_same (a : Int) (c : ByteArray) (w : World) : Calls Try.prog 133 #[.agg #[.int .i64 a, .string c], .agg #[.int .i64 a, .string c]] w fun e w' => e = .returned (.bool true) ∧ Ext w w' := by
  go_enter Try.func133, Try.ntmps133
  go_wp2
  go_ret
  exact ⟨rfl, (by repeat (first | exact Ext.refl _ | assumption | refine Ext.alloc ?_ _ | refine Ext.drewN ?_ _ | refine Ext.drew ?_ | refine Ext.set ?_ (by dsimp only; omega) _ | refine Ext.trans ?_ (by assumption)))⟩
theorem szPending_any (a : Int) (c : ByteArray) (left : Int) (w : World) (hs : c.size ≤ maxLen) (h0 : -1 ≤ left) (h1 : left ≤ 1048576) :
    Calls Try.prog 134 #[.agg #[.int .i64 a, .string c], .int .i64 left] w fun e w' => e = .returned (.int .i64 (if left < c.size then -1 else left - c.size)) ∧ Ext w w' := by
  unfold maxLen at hs
  by_cases h : left < c.size
  · rw [if_pos h]
    have d : decide (left - (c.size : Int) < 0) = true := decide_eq_true (by omega)
    go_enter Try.func134, Try.ntmps134
    go_wp2
    go_ret
    exact ⟨rfl, (Ext.refl _).alloc _⟩
  · rw [if_neg h]
    have d : decide (left - (c.size : Int) < 0) = false := decide_eq_false (by omega)
    go_enter Try.func134, Try.ntmps134
    go_wp2
    go_ret
    exact ⟨rfl, (Ext.refl _).alloc _⟩
theorem info_Pending : (Try.prog.info? 118).map (fun i => (i.zero, i.size, i.bytes)) = some (some (Value.agg #[.int .i64 0, .string ByteArray.empty]), 2, 24) := by kernel_rfl
set_option maxHeartbeats 2000000 in
/-- a copy in a block of its own -/
theorem toPendingS_any (A : Option Addr) (n cp : Nat) (l : List CPending) (w : World) (hl : l.length = n) (hn : n ≤ 1099511627776) (hr : Rd w A (l.flatMap CPending.cs)) :
    Calls Try.prog 76 #[.slice A n cp] w fun e w' => e = .returned (.slice (some ⟨w.heap.size, 0, none⟩) n n) ∧ Blk w' w.heap.size 118 (l.flatMap CPending.cs) ∧ Ext w w' := by
  have HL := Lib.hid hl
  clear hl
  have hmk := run_make_rowF (P := Try.prog) 23 118 (Value.agg #[.int .i64 0, .string ByteArray.empty]) #[.int .i64 0, .string ByteArray.empty] 2 24 rfl Try.underlying23 info_Pending n (by omega) (by omega)
  go_enter Try.func76, Try.ntmps76
  go_wp2_with fail
  clear hmk
  go_loopw [4] (fun i wr => ∃ k : Nat, k ≤ n ∧ i = .int .i64 k ∧ Blk wr w.heap.size 118 (fillF CPending.cs [.int .i64 0, .string ByteArray.empty] l k n) ∧ Ext w wr) (fun i _ => n - (intOf i).toNat)
  case atStart => exact ⟨0, Nat.zero_le _, rfl, (Blk.madeF w _ _ n _ rfl).of_eq (fillF_zero _ _ _).symm, (Ext.refl _).alloc _⟩
  case round =>
    obtain ⟨k, hk, rfl, hB, hE⟩ := hrel
    have HB := Lib.hid hB
    clear hB
    by_cases hlt : k < n
    · have hkl : k < l.length := by rw [HL.out]; exact hlt
      obtain ⟨b, o, rfl, hc⟩ := (hr.ext hE).flat CPending.len (by decide) hkl
      have c0 : wr.cell? ⟨b, o + k * 2, none⟩ = some (.int .i64 l[k].a) := by exact hc 0 _ rfl
      have c1 : wr.cell? ⟨b, o + k * 2 + 1, none⟩ = some (.string l[k].c) := by rw [Nat.add_assoc]; exact hc 1 _ rfl
      go_wp2_with fail
      refine (toPending_any _ _ wr).mono ?_
      rintro e w1 ⟨rfl, E1⟩
      have HB1 := Lib.hid ((HB.out.ext E1).of_eq (fillF_head _ l k n hlt))
      have HP := Lib.hid (fillF_pre CPending.len l k (by omega))
      have d0 : w1.cell? ⟨w.heap.size, k * 2, none⟩ = some (.int .i64 0) := Blk.mid HB1.out HP.out (j := 0) (by first | decide | (simp; done) | simp [CPending.cs])
      have d1 : w1.cell? ⟨w.heap.size, k * 2 + 1, none⟩ = some (.string ByteArray.empty) := Blk.mid HB1.out HP.out (j := 1) (by first | decide | (simp; done) | simp [CPending.cs])
      have f0 := HB1.out.frozen (k * 2)
      have f1 := HB1.out.frozen (k * 2 + 1)
      clear c0 c1
      go_wp2_with fail
      go_roundw
      case rel => exact ⟨k + 1, by omega, by go_num, (Blk.setMid (Blk.setMid HB1.out HP.out (j := 0) (by first | decide | (simp; done) | simp [CPending.cs]) _) HP.out (j := 1) (by first | decide | (simp; done) | simp [CPending.cs]) _).of_eq (fillF_step _ l k n hkl).symm, (Ext.set (Ext.set (hE.trans E1) (Nat.le_refl _) _) (Nat.le_refl _) _)⟩
      case measure => simp [intOf]; omega
    · have hk2 : k = n := by omega
      subst hk2
      go_wp2_with fail
      go_ret
      exact ⟨rfl, HB.out.of_eq (fillF_done _ _ _ HL.out), hE⟩
set_option maxHeartbeats 2000000 in
theorem eqPendingS_same (A A' : Option Addr) (n cp cp' : Nat) (l : List CPending) (w : World) (hl : l.length = n) (hn : n ≤ 1099511627776) (hr : Rd w A (l.flatMap CPending.cs)) (hr' : Rd w A' (l.flatMap CPending.cs)) :
    Calls Try.prog 67 #[.slice A n cp, .slice A' n cp'] w fun e w' => e = .returned (.bool true) ∧ Ext w w' := by
  have HL := Lib.hid hl
  clear hl
  go_enter Try.func67, Try.ntmps67
  go_wp2_with fail
  go_loopw [5] (fun i wr => ∃ k : Nat, k ≤ n ∧ i = .int .i64 k ∧ Ext w wr) (fun i _ => n - (intOf i).toNat)
  case atStart => exact ⟨0, Nat.zero_le _, rfl, Ext.refl _⟩
  case round =>
    obtain ⟨k, hk, rfl, hE⟩ := hrel
    by_cases hlt : k < n
    · have hkl : k < l.length := by rw [HL.out]; exact hlt
      obtain ⟨b, o, rfl, hc⟩ := (hr.ext hE).flat CPending.len (by decide) hkl
      have c0 : wr.cell? ⟨b, o + k * 2, none⟩ = some (.int .i64 l[k].a) := by exact hc 0 _ rfl
      have c1 : wr.cell? ⟨b, o + k * 2 + 1, none⟩ = some (.string l[k].c) := by rw [Nat.add_assoc]; exact hc 1 _ rfl
      obtain ⟨b', o', rfl, hc'⟩ := (hr'.ext hE).flat CPending.len (by decide) hkl
      have d0 : wr.cell? ⟨b', o' + k * 2, none⟩ = some (.int .i64 l[k].a) := by exact hc' 0 _ rfl
      have d1 : wr.cell? ⟨b', o' + k * 2 + 1, none⟩ = some (.string l[k].c) := by rw [Nat.add_assoc]; exact hc' 1 _ rfl
      have hlt2 : (k : Int) < (n : Int) := by omega
      have C0 := Gr.cell c0
      have C1 := Gr.cell c1
      have D0 := Gr.cell d0
      have D1 := Gr.cell d1
      go_wp2_with fail
      (refine wp_region_gr (by kernel_rfl) (by kernel_rfl) ?_; (repeat (first | go_big_quiet_skip | (go_big_quiet_want; go_big_quiet_op; first | go_big_quiet_on | (apply Exists.intro; refine ⟨fun _ => ?_, ?_⟩; (focus ((go_at_call 133; exact Calls.gr (eqPending_same _ _ _)))); go_big_quiet_on)))); refine wpQuiet_nil ?_)
      rintro ⟨w1, E1⟩
      clear C0 C1 D0 D1 c0 c1 d0 d1
      go_wp2_with fail
      go_roundw
      case rel => exact ⟨k + 1, by omega, by go_num, (by repeat (first | exact Ext.refl _ | assumption | refine Ext.alloc ?_ _ | refine Ext.drewN ?_ _ | refine Ext.drew ?_ | refine Ext.set ?_ (by dsimp only; omega) _ | refine Ext.trans ?_ (by assumption)))⟩
      case measure => simp [intOf]; omega
    · have hlt2 : ¬ (k : Int) < (n : Int) := by omega
      go_wp2_with fail
      go_ret
      exact ⟨rfl, hE⟩
set_option maxHeartbeats 2000000 in
theorem szPendingS_any (A : Option Addr) (n cp : Nat) (l : List CPending) (left : Int) (w : World) (hl : l.length = n) (hn : n ≤ 9223372036854775807) (h0 : 0 ≤ left) (h1 : left ≤ 1048576) (hx : ∀ x ∈ l, x.c.size ≤ maxLen) (hr : Rd w A (l.flatMap CPending.cs)) :
    Calls Try.prog 71 #[.slice A n cp, .int .i64 left] w (SzPost w left ((l.length : Int) ≤ left ∧ ∀ x ∈ l, (x.c.size : Int) ≤ left)) := by
  have HL := Lib.hid hl
  have HX := Lib.hid hx
  clear hl hx
  by_cases hb : left < (n : Int)
  · have d : decide (left - (n : Int) < 0) = true := decide_eq_true (by omega)
    go_enter Try.func71, Try.ntmps71
    go_wp2
    go_ret
    exact ⟨-1, rfl, by omega, by omega, fun h => by omega, Ext.refl _⟩
  · have d : decide (left - (n : Int) < 0) = false := decide_eq_false (by omega)
    go_enter Try.func71, Try.ntmps71
    go_wp2
    clear d
    go_loopw [5, 1] (fun i t wr => ∃ (k : Nat) (L : Int), k ≤ n ∧ i = .int .i64 k ∧ t = .int .i64 L ∧ 0 ≤ L ∧ L ≤ left ∧ (∀ q, (hq : q < l.length) → q < k → ((l[q]'hq).c.size : Int) ≤ left) ∧ Ext w wr) (fun i _ _ => n - (intOf i).toNat)
    case atStart => exact ⟨0, _, Nat.zero_le _, rfl, rfl, by omega, by omega, fun q _ h => absurd h (Nat.not_lt_zero _), Ext.refl _⟩
    case round =>
      obtain ⟨k, L, hk, rfl, rfl, hL0, hL1, hq, hE⟩ := hrel
      have HQ := Lib.hid hq
      clear hq
      by_cases hlt : k < n
      · have hkl : k < l.length := by rw [HL.out]; exact hlt
        obtain ⟨b, o, rfl, hc⟩ := (hr.ext hE).flat CPending.len (by decide) hkl
        have c0 : wr.cell? ⟨b, o + k * 2, none⟩ = some (.int .i64 l[k].a) := by exact hc 0 _ rfl
        have c1 : wr.cell? ⟨b, o + k * 2 + 1, none⟩ = some (.string l[k].c) := by rw [Nat.add_assoc]; exact hc 1 _ rfl
        have hm := HX.out _ (List.getElem_mem hkl)
        have HZ := Lib.hid (szPending_any l[k].a l[k].c L wr hm (by omega) (by omega))
        unfold maxLen at hm
        by_cases hb2 : L < (l[k].c.size : Int)
        · rw [if_pos hb2] at HZ
          go_wp2_with fail
          refine HZ.out.mono ?_
          rintro e w1 ⟨rfl, E1⟩
          go_wp2_with fail
          go_ret
          exact ⟨-1, rfl, by omega, by omega, fun h => by omega, hE.trans E1⟩
        · rw [if_neg hb2] at HZ
          have d : decide (L - (l[k].c.size : Int) < 0) = false := decide_eq_false (by omega)
          go_wp2_with fail
          refine HZ.out.mono ?_
          rintro e w1 ⟨rfl, E1⟩
          go_wp2_with fail
          go_roundw
          case rel => exact ⟨k + 1, _, by omega, by go_num, rfl, by omega, by omega, fun q hq hqk => by
            rcases Nat.lt_or_ge q k with h | h
            · exact HQ.out q hq h
            · have : q = k := by omega
              subst this; omega, hE.trans E1⟩
          case measure => simp [intOf]; omega
      · have hk2 : k = n := by omega
        subst hk2
        go_wp2_with fail
        go_ret
        exact ⟨L, rfl, by omega, hL1, fun _ => ⟨by rw [HL.out]; omega, fun x hx => by
          obtain ⟨q, hq, rfl⟩ := List.getElem_of_mem hx
          exact HQ.out q hq (by rw [HL.out] at hq; exact hq)⟩, hE⟩
/-- a marked one -/
def mkPending : Int → CPending := fun k => ⟨k, mtext (k + 1).toNat⟩
set_option maxHeartbeats 2000000 in
theorem markPendingS_any (b n cp : Nat) (k : Int) (l : List CPending) (cs : List Value) (w : World) (hn : n ≤ 1048576) (h1 : 1 ≤ k) (h2 : k ≤ 4000000) (hl : l.length = n) (hB : Blk w b 118 (l.flatMap CPending.cs ++ cs)) :
    Calls Try.prog 68 #[.slice (some ⟨b, 0, none⟩) n cp, .int .i64 k] w fun e w' => e = .returned (.int .i64 (k + 2 * n)) ∧ Blk w' b 118 ((marksF mkPending 2 k n).flatMap CPending.cs ++ cs) ∧ w.grownBy w' (some b) := by
  have HL := Lib.hid hl
  clear hl
  go_enter Try.func68, Try.ntmps68
  go_wp2_with fail
  go_loopw [5, 1] (fun i t wr => ∃ j : Nat, j ≤ n ∧ i = .int .i64 j ∧ t = .int .i64 (k + 2 * j) ∧ Blk wr b 118 ((marksF mkPending 2 k j ++ l.drop j).flatMap CPending.cs ++ cs) ∧ w.grownBy wr (some b)) (fun i _ _ => n - (intOf i).toNat)
  case atStart => exact ⟨0, Nat.zero_le _, rfl, by simp, by simpa [marksF] using hB, World.grownBy.refl _ _⟩
  case round =>
    obtain ⟨j, hj, rfl, rfl, hBr, hG⟩ := hrel
    have HG := Lib.hid hG
    clear hG
    by_cases hlt : j < n
    · have hjl : j < l.length := by rw [HL.out]; exact hlt
      have HB := Lib.hid (hBr.of_eq (markF_head mkPending 2 k l cs j hjl))
      have HP := Lib.hid (marksF_flat mkPending CPending.len 2 k j)
      clear hBr
      have c0 : wr.cell? ⟨b, j * 2, none⟩ = some (.int .i64 l[j].a) := Blk.mid HB.out HP.out (j := 0) (by first | decide | (simp; done) | simp [CPending.cs])
      have c1 : wr.cell? ⟨b, j * 2 + 1, none⟩ = some (.string l[j].c) := Blk.mid HB.out HP.out (j := 1) (by first | decide | (simp; done) | simp [CPending.cs])
      have f0 := HB.out.frozen (j * 2)
      have f1 := HB.out.frozen (j * 2 + 1)
      have HB1 := Lib.hid (show Blk (wr.setCell ⟨b, j * 2, none⟩ (.int .i64 (k + 2 * (j : Int)))) b 118 _ from (Blk.setMid HB.out HP.out (j := 0) (by first | decide | (simp; done) | simp [CPending.cs]) _))
      have HG1 := Lib.hid (show w.grownBy (wr.setCell ⟨b, j * 2, none⟩ (.int .i64 (k + 2 * (j : Int)))) (some b) from (grown_step HG.out (Ext.refl _) b _ _))
      go_wp2_with fail
      clear c0 f0 c1 f1
      generalize wr.setCell ⟨b, j * 2, none⟩ (.int .i64 (k + 2 * (j : Int))) = w1 at HB1 HG1 ⊢
      refine (markText_any (k + 2 * (j : Int) + 1) w1 (by omega) (by omega)).mono ?_
      rintro e w2 ⟨rfl, E2⟩
      have HB2 := Lib.hid (HB1.out.ext E2)
      have c1 : w2.cell? ⟨b, j * 2 + 1, none⟩ = some (.string l[j].c) := HB2.out.mid HP.out (j := 1) (by first | decide | (simp; done) | simp [CPending.cs])
      have f1 := HB2.out.frozen (j * 2 + 1)
      go_wp2_with fail
      go_roundw
      case rel => exact ⟨j + 1, by omega, by go_num, by go_num, (Blk.setMid HB2.out HP.out (j := 1) (by first | decide | (simp; done) | simp [CPending.cs]) _).of_eq (markF_step mkPending 2 k l cs j).symm, grown_step HG1.out E2 b _ _⟩
      case measure => simp [intOf]; omega
    · have hj4 : j = n := by omega
      subst hj4
      have HD := Lib.hid (hBr.of_eq (markF_done mkPending 2 k l cs j HL.out))
      clear hBr
      go_wp2_with fail
      go_ret
      exact ⟨rfl, HD.out, HG.out⟩
set_option maxHeartbeats 2000000 in
theorem heldPendingS_any (A : Option Addr) (n cp : Nat) (k : Int) (w : World) (hn : n ≤ 1048576) (h1 : 1 ≤ k) (h2 : k ≤ 4000000) (hr : Rd w A ((marksF mkPending 2 k n).flatMap CPending.cs)) :
    Calls Try.prog 69 #[.slice A n cp, .int .i64 k] w fun e w' => e = .returned (.int .i64 (k + 2 * n)) ∧ Ext w w' := by
  go_enter Try.func69, Try.ntmps69
  go_wp2_with fail
  go_loopw [5, 1] (fun i t wr => ∃ j : Nat, j ≤ n ∧ i = .int .i64 j ∧ t = .int .i64 (k + 2 * j) ∧ Ext w wr) (fun i _ _ => n - (intOf i).toNat)
  case atStart => exact ⟨0, Nat.zero_le _, rfl, by simp, Ext.refl _⟩
  case round =>
    obtain ⟨j, hj, rfl, rfl, hE⟩ := hrel
    by_cases hlt : j < n
    · have hjl : j < (marksF mkPending 2 k n).length := by rw [marksF_len]; exact hlt
      obtain ⟨b, o, rfl, hc⟩ := (hr.ext hE).flat CPending.len (by decide) hjl
      rw [marksF_at mkPending 2 k n j hjl] at hc
      have c0 : wr.cell? ⟨b, o + j * 2, none⟩ = some (.int .i64 (k + 2 * (j : Int))) := by exact hc 0 _ rfl
      have c1 : wr.cell? ⟨b, o + j * 2 + 1, none⟩ = some (.string (mtext (k + 2 * (j : Int) + 1).toNat)) := by rw [Nat.add_assoc]; exact hc 1 _ rfl
      have hlt2 : (j : Int) < (n : Int) := by omega
      clear hc
      have hm := fun W => markText_any (k + 2 * (j : Int) + 1) W (by omega) (by omega)
      generalize mtext (k + 2 * (j : Int) + 1).toNat = X at c1 hm
      have HM := Lib.hid hm
      clear hm
      have hg := Gr.cell c1
      go_wp2_with fail
      (refine wp_region_gr (by kernel_rfl) (by kernel_rfl) ?_; (repeat (first | go_big_quiet_skip | (go_big_quiet_want; go_big_quiet_op; first | go_big_quiet_on | (apply Exists.intro; refine ⟨fun _ => ?_, ?_⟩; (focus ((go_at_call 132; exact Calls.gr (HM.out _)))); go_big_quiet_on)))); refine wpQuiet_nil ?_)
      rintro ⟨w1, E1⟩
      clear hg c0 c1
      go_wp2_with fail
      go_roundw
      case rel => exact ⟨j + 1, by omega, by go_num, by go_num, (by repeat (first | exact Ext.refl _ | assumption | refine Ext.alloc ?_ _ | refine Ext.drewN ?_ _ | refine Ext.drew ?_ | refine Ext.set ?_ (by dsimp only; omega) _ | refine Ext.trans ?_ (by assumption)))⟩
      case measure => simp [intOf]; omega
    · have hj4 : j = n := by omega
      subst hj4
      go_wp2_with fail
      go_ret
      exact ⟨rfl, hE⟩
end Go.Proofs.Ytnbfjkebakaigaa
