/- The walk of the reference's text of a checkpoint, for none and for one entry of each list. -/
import Derived.Test.YteaefjicpefgnaaSrc2
import Derived.Test.YteaefjicpefgnaaRg
namespace Go.Proofs.Yteaefjicpefgnaa
open Go.RowKit Go.Deep
set_option linter.unusedVariables false
set_option maxRecDepth 100000
theorem rdw_join {w : World} {b o : Nat} {vs : List Value} {l : List UInt8} (h : Rd w (some ⟨b, o, none⟩) vs) (e : vs = l.map fun c => Value.int .u8 (c.toNat : Int)) : Rd w (some ⟨b, o, none⟩) (l.map fun c => Value.int .u8 (c.toNat : Int)) := e ▸ h
set_option maxHeartbeats 2000000 in
theorem spec_l04Check0 (A A2 : Option Addr) (c c2 : Nat) (w : World) :
    Calls Try.prog 113 #[.slice A 0 c, .slice A2 0 c2] w fun e w' => e = .returned (.string ⟨#[0, 0]⟩) ∧ Ext w w' := by
  have hinit := World.ownsRow_lit (base := w.heap.size) (e := 5) (size := 1) w #[Value.int .u8 0] 1 (Nat.le_refl _) (by unfold maxLen; omega) rfl
  have HI := Lib.hid hinit
  obtain ⟨i0, hi, hz0, hz1, hz2⟩ := info_parts info_ByteS
  clear hinit
  go_enter Try.func113, Try.ntmps113
  go_wp2_with fail
  go_loopw [6, 5] (fun i v wr => i = .int .i64 0 ∧ wr.ownsRow w.heap.size 5 1 v 1 [.int .u8 0] ∧ Ext w wr) (fun _ _ _ => 0)
  case atStart => exact ⟨rfl, HI.out, (Ext.refl _).alloc _⟩
  case round =>
    obtain ⟨rfl, ho, hE⟩ := hrel
    have HO := Lib.hid ho
    have HE := Lib.hid hE
    have hle := hE.le
    have hrow := own_ext ho ((Ext.refl wr).alloc (.cells #[.int .u8 0] 5))
    clear ho hE HI
    go_wp2_with (at_builtin; refine wpList_append_own _ rfl (.tmp 33) (.tmp 37) 22 rfl w.heap.size 5 i0 (.int .u8 0) 1 1 Try.underlying22 hi hz0 hz1 hz2 rfl (by decide) _ 1 _ rfl hrow ⟨wr.heap.size, 0, none⟩ 1 1 [.int .u8 0] rfl rfl (rd_add (Blk.new wr _ _).rd) (by intro u hu; simp at hu; subst hu; rfl) (by unfold maxLen; omega) (by omega) (by simp; omega) ?_)
    intro v4 w4 ho4 hg4 _
    have HO4 := Lib.hid ho4
    have HE4 := Lib.hid ((HE.out.alloc (.cells #[.int .u8 0] 5)).grown hg4 (own_blk hrow))
    clear ho4 hg4 hrow HO HE
    go_wp2_with fail
    obtain ⟨A4, cap4, rfl⟩ := own_slice HO4.out
    go_loopw [7, 5] (fun i v wr2 => i = .int .i64 0 ∧ v = .slice A4 2 cap4 ∧ Rd wr2 A4 [.int .u8 0, .int .u8 0] ∧ Ext w wr2) (fun _ _ _ => 0)
    case atStart => exact ⟨rfl, rfl, (own_rd' HO4.out).2, HE4.out⟩
    case round =>
      obtain ⟨rfl, rfl, hr4, hE4⟩ := hrel
      have cv := run_text (P := Try.prog) (src := 22) (dst := 9) Try.underlying22 Try.underlying5 Try.underlying9 _ A4 2 cap4 [0, 0] rfl hr4
      have HE5 := Lib.hid hE4
      clear hr4 hE4 HE4 HO4
      go_wp2_with fail
      go_ret
      exact ⟨rfl, HE5.out⟩
set_option maxHeartbeats 4000000 in
theorem spec_l04Check1 (d t q : Nat) (hq : q < 256) (w : World) (hD : Blk w d 132 [.int .i64 1, .int .i64 1]) (hT : Blk w t 132 [.int .i64 1, .int .i64 (q : Int)]) :
    Calls Try.prog 113 #[.slice (some ⟨d, 0, none⟩) 1 1, .slice (some ⟨t, 0, none⟩) 1 1] w fun e w' => e = .returned (.string ⟨#[1, 1, 1, 1, 1, UInt8.ofNat q]⟩) ∧ Ext w w' := by
  have hinit := World.ownsRow_lit (base := w.heap.size) (e := 5) (size := 1) w #[Value.int .u8 1] 1 (Nat.le_refl _) (by unfold maxLen; omega) rfl
  have HI := Lib.hid hinit
  have HD := Lib.hid hD
  have HT := Lib.hid hT
  obtain ⟨i0, hi, hz0, hz1, hz2⟩ := info_parts info_ByteS
  clear hinit hD hT
  go_enter Try.func113, Try.ntmps113
  go_wp2_with fail
  go_loopw [6, 5] (fun i v wr => ∃ j : Nat, i = .int .i64 (j : Int) ∧ j ≤ 1 ∧ wr.ownsRow w.heap.size 5 1 v (if j = 0 then 1 else 3) (if j = 0 then [.int .u8 1] else [.int .u8 1, .int .u8 1, .int .u8 1]) ∧ Ext w wr) (fun i _ _ => 1 - (intOf i).toNat)
  case atStart => exact ⟨0, rfl, by omega, HI.out, (Ext.refl _).alloc _⟩
  case round =>
    obtain ⟨j, rfl, hj, ho, hE⟩ := hrel
    have HE := Lib.hid hE
    have hle := hE.le
    by_cases hj0 : j = 0
    · subst hj0
      rw [if_pos rfl, if_pos rfl] at ho
      have HO := Lib.hid ho
      have HD1 := Lib.hid (HD.out.ext hE)
      obtain ⟨c0, c1⟩ := (HD.out.ext hE).cells2
      clear ho hE HI hj
      go_wp2_with fail
      refine rg_start (w0 := w) (by kernel_rfl) HE.out (fun hS0 => ?_)
      clear c0 c1
      (refine rg_take (v := ?_) 0 rfl (by kernel_rfl) (by kernel_rfl) (by kernel_rfl) (fun _ _ _ h => h) (by rfl) (by assumption) (fun W hW => ?_) ?_; rotate_left; (focus (go_simp; try with_reducible rfl)); (try simp only [List.setIfInBounds_toArray, List.set_cons_succ, List.set_cons_zero]))
      (refine rg_take (v := ?_) 1 rfl (by kernel_rfl) (by kernel_rfl) (by kernel_rfl) (fun _ _ _ h => h) (by rfl) (by assumption) (fun W hW => ?_) ?_; rotate_left; (focus (go_simp; try with_reducible rfl)); (try simp only [List.setIfInBounds_toArray, List.set_cons_succ, List.set_cons_zero]))
      (refine rg_take (v := ?_) 2 rfl (by kernel_rfl) (by kernel_rfl) (by kernel_rfl) (fun _ _ _ h => h) (by rfl) (by assumption) (fun W hW => ?_) ?_; rotate_left; (focus (go_simp; try with_reducible rfl)); (try simp only [List.setIfInBounds_toArray, List.set_cons_succ, List.set_cons_zero]))
      (refine rg_take (v := ?_) 3 rfl (by kernel_rfl) (by kernel_rfl) (by kernel_rfl) (fun _ _ _ h => h) (by rfl) (by assumption) (fun W hW => ?_) ?_; rotate_left; (focus (go_simp; try with_reducible rfl)); (try simp only [List.setIfInBounds_toArray, List.set_cons_succ, List.set_cons_zero]))
      (refine rg_take (v := ?_) 4 rfl (by kernel_rfl) (by kernel_rfl) (by kernel_rfl) (fun _ _ _ h => h) (by rfl) (by assumption) (fun W hW => ?_) ?_; rotate_left; (focus (go_simp; try with_reducible rfl)); (try simp only [List.setIfInBounds_toArray, List.set_cons_succ, List.set_cons_zero]))
      (refine rg_take (v := ?_) 5 rfl (by kernel_rfl) (by kernel_rfl) (by kernel_rfl) (fun _ _ _ h => h) (by rfl) (by assumption) (fun W hW => ?_) ?_; rotate_left; (focus (obtain ⟨p0, p1⟩ := (HD.out.ext hW).cells2; go_simp; try with_reducible rfl)); (try simp only [List.setIfInBounds_toArray, List.set_cons_succ, List.set_cons_zero]))
      (refine rg_take (v := ?_) 6 rfl (by kernel_rfl) (by kernel_rfl) (by kernel_rfl) (fun _ _ _ h => h) (by rfl) (by assumption) (fun W hW => ?_) ?_; rotate_left; (focus (go_simp; try with_reducible rfl)); (try simp only [List.setIfInBounds_toArray, List.set_cons_succ, List.set_cons_zero]))
      (refine rg_take (v := ?_) 7 rfl (by kernel_rfl) (by kernel_rfl) (by kernel_rfl) (fun _ _ _ h => h) (by rfl) (by assumption) (fun W hW => ?_) ?_; rotate_left; (focus (go_simp; try with_reducible rfl)); (try simp only [List.setIfInBounds_toArray, List.set_cons_succ, List.set_cons_zero]))
      (refine rg_take (v := ?_) 8 rfl (by kernel_rfl) (by kernel_rfl) (by kernel_rfl) (fun _ _ _ h => h) (by rfl) (by assumption) (fun W hW => ?_) ?_; rotate_left; (focus (go_simp; try with_reducible rfl)); (try simp only [List.setIfInBounds_toArray, List.set_cons_succ, List.set_cons_zero]))
      (refine rg_take (v := ?_) 9 rfl (by kernel_rfl) (by kernel_rfl) (by kernel_rfl) (fun _ _ _ h => h) (by rfl) (by assumption) (fun W hW => ?_) ?_; rotate_left; (focus (go_simp; try with_reducible rfl)); (try simp only [List.setIfInBounds_toArray, List.set_cons_succ, List.set_cons_zero]))
      (refine rg_take (v := ?_) 10 rfl (by kernel_rfl) (by kernel_rfl) (by kernel_rfl) (fun _ _ _ h => h) (by rfl) (by assumption) (fun W hW => ?_) ?_; rotate_left; (focus (go_simp; try with_reducible rfl)); (try simp only [List.setIfInBounds_toArray, List.set_cons_succ, List.set_cons_zero]))
      (refine rg_take (v := ?_) 11 rfl (by kernel_rfl) (by kernel_rfl) (by kernel_rfl) (fun _ _ _ h => h) (by rfl) (by assumption) (fun W hW => ?_) ?_; rotate_left; (focus (obtain ⟨p0, p1⟩ := (HD.out.ext hW).cells2; go_simp; try with_reducible rfl)); (try simp only [List.setIfInBounds_toArray, List.set_cons_succ, List.set_cons_zero]))
      (refine rg_take (v := ?_) 12 rfl (by kernel_rfl) (by kernel_rfl) (by kernel_rfl) (fun _ _ _ h => h) (by rfl) (by assumption) (fun W hW => ?_) ?_; rotate_left; (focus (go_simp; try with_reducible rfl)); (try simp only [List.setIfInBounds_toArray, List.set_cons_succ, List.set_cons_zero]))
      (refine rg_one 13 (by kernel_rfl) rfl (by rfl) (fun K hK => ?_); go_simp)
      refine hK _ _ ?_ (fun _ => ?_)
      focus exact (HE.out.alloc _).drew
      clear hK K
      try simp only [List.setIfInBounds_toArray, List.set_cons_succ, List.set_cons_zero]
      have hrow := own_ext HO.out (((Ext.refl wr).alloc (.cells #[.int .u8 1, .int .u8 1] 5)).drew)
      refine rg_one 14 (by kernel_rfl) rfl (by rfl) (fun K hK => ?_)
      refine wp_append_own (.tmp 18) (.tmp 31) 22 w.heap.size 5 i0 (.int .u8 0) 1 1 Try.underlying22 hi hz0 hz1 hz2 rfl (by decide) _ 1 _ rfl hrow ⟨wr.heap.size, 0, none⟩ 2 2 [.int .u8 1, .int .u8 1] rfl rfl (rd_add (Blk.new wr _ _).drew.rd) (by intro u hu; simp at hu; rcases hu with rfl | rfl <;> rfl) (by unfold maxLen; omega) (by omega) (by simp; omega) ?_
      intro v2 W2 O2 G2
      have E2 : Ext w W2 := ((HE.out.alloc (.cells #[.int .u8 1, .int .u8 1] 5)).drew).grown G2 (own_blk hrow)
      have HO2 := Lib.hid O2
      have HE2 := Lib.hid E2
      refine hK _ _ E2 (fun _ => ?_)
      clear hK K
      simp only [Act.put]
      try simp only [List.setIfInBounds_toArray, List.set_cons_succ, List.set_cons_zero]
      clear O2 G2 hrow E2 HO HD1 HE
      (refine rg_take (v := ?_) 15 rfl (by kernel_rfl) (by kernel_rfl) (by kernel_rfl) (fun _ _ _ h => h) (by rfl) (by assumption) (fun W hW => ?_) ?_; rotate_left; (focus (go_simp; try with_reducible rfl)); (try simp only [List.setIfInBounds_toArray, List.set_cons_succ, List.set_cons_zero]))
      refine rg_done (by kernel_rfl) ?_
      go_wp2_with fail
      go_roundw
      case rel => exact ⟨1, rfl, by omega, HO2.out, HE2.out⟩
      case measure => simp [intOf]
    obtain rfl : j = 1 := by omega
    rw [if_neg hj0, if_neg hj0] at ho
    have hrow := own_ext ho ((Ext.refl wr).alloc (.cells #[.int .u8 1] 5))
    clear ho hE HI hj hj0
    go_wp2_with (at_builtin; refine wpList_append_own _ rfl (.tmp 33) (.tmp 37) 22 rfl w.heap.size 5 i0 (.int .u8 0) 1 1 Try.underlying22 hi hz0 hz1 hz2 rfl (by decide) _ 3 _ rfl hrow ⟨wr.heap.size, 0, none⟩ 1 1 [.int .u8 1] rfl rfl (rd_add (Blk.new wr _ _).rd) (by intro u hu; simp at hu; subst hu; rfl) (by unfold maxLen; omega) (by omega) (by simp; omega) ?_)
    intro v4 w4 ho4 hg4 _
    have HO4 := Lib.hid ho4
    have HE4 := Lib.hid ((HE.out.alloc (.cells #[.int .u8 1] 5)).grown hg4 (own_blk hrow))
    clear ho4 hg4 hrow HE
    go_wp2_with fail
    go_loopw [7, 5] (fun i v wr => ∃ j : Nat, i = .int .i64 (j : Int) ∧ j ≤ 1 ∧ wr.ownsRow w.heap.size 5 1 v (if j = 0 then 4 else 6) (if j = 0 then [.int .u8 1, .int .u8 1, .int .u8 1, .int .u8 1] else [.int .u8 1, .int .u8 1, .int .u8 1, .int .u8 1, .int .u8 1, .int .u8 (q : Int)]) ∧ Ext w wr) (fun i _ _ => 1 - (intOf i).toNat)
    case atStart => exact ⟨0, rfl, by omega, HO4.out, HE4.out⟩
    case round =>
      obtain ⟨j, rfl, hj, ho, hE⟩ := hrel
      have HE := Lib.hid hE
      have hle := hE.le
      by_cases hj0 : j = 0
      · subst hj0
        rw [if_pos rfl, if_pos rfl] at ho
        have HO := Lib.hid ho
        have HT1 := Lib.hid (HT.out.ext hE)
        obtain ⟨c0, c1⟩ := (HT.out.ext hE).cells2
        clear ho hE hj HO4 HE4
        go_wp2_with fail
        refine rg_start (w0 := w) (by kernel_rfl) HE.out (fun hS0 => ?_)
        clear c0 c1
        (refine rg_take (v := ?_) 0 rfl (by kernel_rfl) (by kernel_rfl) (by kernel_rfl) (fun _ _ _ h => h) (by rfl) (by assumption) (fun W hW => ?_) ?_; rotate_left; (focus (go_simp; try with_reducible rfl)); (try simp only [List.setIfInBounds_toArray, List.set_cons_succ, List.set_cons_zero]))
        (refine rg_take (v := ?_) 1 rfl (by kernel_rfl) (by kernel_rfl) (by kernel_rfl) (fun _ _ _ h => h) (by rfl) (by assumption) (fun W hW => ?_) ?_; rotate_left; (focus (go_simp; try with_reducible rfl)); (try simp only [List.setIfInBounds_toArray, List.set_cons_succ, List.set_cons_zero]))
        (refine rg_take (v := ?_) 2 rfl (by kernel_rfl) (by kernel_rfl) (by kernel_rfl) (fun _ _ _ h => h) (by rfl) (by assumption) (fun W hW => ?_) ?_; rotate_left; (focus (go_simp; try with_reducible rfl)); (try simp only [List.setIfInBounds_toArray, List.set_cons_succ, List.set_cons_zero]))
        (refine rg_take (v := ?_) 3 rfl (by kernel_rfl) (by kernel_rfl) (by kernel_rfl) (fun _ _ _ h => h) (by rfl) (by assumption) (fun W hW => ?_) ?_; rotate_left; (focus (go_simp; try with_reducible rfl)); (try simp only [List.setIfInBounds_toArray, List.set_cons_succ, List.set_cons_zero]))
        (refine rg_take (v := ?_) 4 rfl (by kernel_rfl) (by kernel_rfl) (by kernel_rfl) (fun _ _ _ h => h) (by rfl) (by assumption) (fun W hW => ?_) ?_; rotate_left; (focus (go_simp; try with_reducible rfl)); (try simp only [List.setIfInBounds_toArray, List.set_cons_succ, List.set_cons_zero]))
        (refine rg_take (v := ?_) 5 rfl (by kernel_rfl) (by kernel_rfl) (by kernel_rfl) (fun _ _ _ h => h) (by rfl) (by assumption) (fun W hW => ?_) ?_; rotate_left; (focus (obtain ⟨p0, p1⟩ := (HT.out.ext hW).cells2; go_simp; try with_reducible rfl)); (try simp only [List.setIfInBounds_toArray, List.set_cons_succ, List.set_cons_zero]))
        (refine rg_take (v := ?_) 6 rfl (by kernel_rfl) (by kernel_rfl) (by kernel_rfl) (fun _ _ _ h => h) (by rfl) (by assumption) (fun W hW => ?_) ?_; rotate_left; (focus (go_simp; try with_reducible rfl)); (try simp only [List.setIfInBounds_toArray, List.set_cons_succ, List.set_cons_zero]))
        (refine rg_take (v := ?_) 7 rfl (by kernel_rfl) (by kernel_rfl) (by kernel_rfl) (fun _ _ _ h => h) (by rfl) (by assumption) (fun W hW => ?_) ?_; rotate_left; (focus (go_simp; try with_reducible rfl)); (try simp only [List.setIfInBounds_toArray, List.set_cons_succ, List.set_cons_zero]))
        (refine rg_take (v := ?_) 8 rfl (by kernel_rfl) (by kernel_rfl) (by kernel_rfl) (fun _ _ _ h => h) (by rfl) (by assumption) (fun W hW => ?_) ?_; rotate_left; (focus (go_simp; try with_reducible rfl)); (try simp only [List.setIfInBounds_toArray, List.set_cons_succ, List.set_cons_zero]))
        (refine rg_take (v := ?_) 9 rfl (by kernel_rfl) (by kernel_rfl) (by kernel_rfl) (fun _ _ _ h => h) (by rfl) (by assumption) (fun W hW => ?_) ?_; rotate_left; (focus (go_simp; try with_reducible rfl)); (try simp only [List.setIfInBounds_toArray, List.set_cons_succ, List.set_cons_zero]))
        (refine rg_take (v := ?_) 10 rfl (by kernel_rfl) (by kernel_rfl) (by kernel_rfl) (fun _ _ _ h => h) (by rfl) (by assumption) (fun W hW => ?_) ?_; rotate_left; (focus (go_simp; try with_reducible rfl)); (try simp only [List.setIfInBounds_toArray, List.set_cons_succ, List.set_cons_zero]))
        (refine rg_take (v := ?_) 11 rfl (by kernel_rfl) (by kernel_rfl) (by kernel_rfl) (fun _ _ _ h => h) (by rfl) (by assumption) (fun W hW => ?_) ?_; rotate_left; (focus (obtain ⟨p0, p1⟩ := (HT.out.ext hW).cells2; go_simp; try with_reducible rfl)); (try simp only [List.setIfInBounds_toArray, List.set_cons_succ, List.set_cons_zero]))
        (refine rg_take (v := ?_) 12 rfl (by kernel_rfl) (by kernel_rfl) (by kernel_rfl) (fun _ _ _ h => h) (by rfl) (by assumption) (fun W hW => ?_) ?_; rotate_left; (focus (go_simp; try with_reducible rfl)); (try simp only [List.setIfInBounds_toArray, List.set_cons_succ, List.set_cons_zero]))
        (refine rg_one 13 (by kernel_rfl) rfl (by rfl) (fun K hK => ?_); go_simp)
        refine hK _ _ ?_ (fun _ => ?_)
        focus exact (HE.out.alloc _).drew
        clear hK K
        try simp only [List.setIfInBounds_toArray, List.set_cons_succ, List.set_cons_zero]
        have hrow := own_ext HO.out (((Ext.refl wr).alloc (.cells #[.int .u8 (IntKind.u8.wrap 1), .int .u8 (IntKind.u8.wrap (q : Int))] 5)).drew)
        refine rg_one 14 (by kernel_rfl) rfl (by rfl) (fun K hK => ?_)
        refine wp_append_own (.tmp 45) (.tmp 58) 22 w.heap.size 5 i0 (.int .u8 0) 1 1 Try.underlying22 hi hz0 hz1 hz2 rfl (by decide) _ 4 _ rfl hrow ⟨wr.heap.size, 0, none⟩ 2 2 [.int .u8 (IntKind.u8.wrap 1), .int .u8 (IntKind.u8.wrap (q : Int))] rfl rfl (rd_add (Blk.new wr 5 [.int .u8 (IntKind.u8.wrap 1), .int .u8 (IntKind.u8.wrap (q : Int))]).drew.rd) (by intro u hu; simp at hu; rcases hu with rfl | rfl <;> rfl) (by unfold maxLen; omega) (by omega) (by simp; omega) ?_
        intro v2 W2 O2 G2
        rw [show IntKind.u8.wrap 1 = 1 from rfl, show IntKind.u8.wrap (q : Int) = (q : Int) by rw [IntKind.wrap_u8]; omega] at O2
        have E2 : Ext w W2 := ((HE.out.alloc (.cells #[.int .u8 (IntKind.u8.wrap 1), .int .u8 (IntKind.u8.wrap (q : Int))] 5)).drew).grown G2 (own_blk hrow)
        have HO2 := Lib.hid O2
        have HE2 := Lib.hid E2
        refine hK _ _ E2 (fun _ => ?_)
        clear hK K
        simp only [Act.put]
        try simp only [List.setIfInBounds_toArray, List.set_cons_succ, List.set_cons_zero]
        clear O2 G2 hrow E2 HO HT1 HE
        (refine rg_take (v := ?_) 15 rfl (by kernel_rfl) (by kernel_rfl) (by kernel_rfl) (fun _ _ _ h => h) (by rfl) (by assumption) (fun W hW => ?_) ?_; rotate_left; (focus (go_simp; try with_reducible rfl)); (try simp only [List.setIfInBounds_toArray, List.set_cons_succ, List.set_cons_zero]))
        refine rg_done (by kernel_rfl) ?_
        go_wp2_with fail
        go_roundw
        case rel => exact ⟨1, rfl, by omega, HO2.out, HE2.out⟩
        case measure => simp [intOf]
      obtain rfl : j = 1 := by omega
      rw [if_neg hj0, if_neg hj0] at ho
      obtain ⟨A4, cap4, rfl⟩ := own_slice ho
      have hbyte : ((UInt8.ofNat q).toNat : Int) = (q : Int) := by rw [UInt8.toNat_ofNat']; omega
      have hrd : Rd wr A4 (([1, 1, 1, 1, 1, UInt8.ofNat q] : List UInt8).map fun c => Value.int .u8 (c.toNat : Int)) := by
        simp only [List.map_cons, List.map_nil, hbyte]
        exact (own_rd' ho).2
      have cv := run_text (P := Try.prog) (src := 22) (dst := 9) Try.underlying22 Try.underlying5 Try.underlying9 wr A4 6 cap4 _ rfl hrd
      clear ho hE hj hj0 HO4 HE4 hrd hbyte
      go_wp2_with fail
      go_ret
      exact ⟨rfl, HE.out⟩
end Go.Proofs.Yteaefjicpefgnaa
