/- The walks over a tree of one leaf without keys. -/
import Derived.Test.YtnbfjkebakaigaaMarkS
import Derived.Test.YtnbfjkebakaigaaInts
import Derived.Test.YtnbfjkebakaigaaRg
import Derived.Test.YtnbfjkebakaigaaConv
namespace Go.Proofs.Ytnbfjkebakaigaa
open Go.RowKit Go.Deep
set_option linter.unusedVariables false
set_option maxRecDepth 100000
theorem grown_preN {w w1 w2 : World} {b : Nat} (e : Ext w w1) (h : w1.grownBy w2 (some b)) : w.grownBy w2 (some b) :=
  ⟨h.os.trans e.os, h.tape.trans e.tape, h.output.trans e.output, Nat.le_trans e.le h.size, fun k hk hne => (h.block k (Nat.lt_of_lt_of_le hk e.le) hne).trans (Below.block e k hk)⟩
theorem rd_none {w : World} {xs : List Value} (h : xs = []) : Rd w none xs := fun hx => absurd h hx
theorem markIntS_none (A : Option Addr) (cp : Nat) (k : Int) (w : World) :
    Calls Try.prog 31 #[.slice A 0 cp, .int .i64 k] w fun e w' => e = .returned (.int .i64 k) ∧ w = w' := by
  go_enter Try.func31, Try.ntmps31
  go_wp2
  go_loopw [5, 1] (fun i t wr => i = .int .i64 0 ∧ t = .int .i64 k ∧ wr = w) (fun i _ _ => 0)
  case atStart => exact ⟨rfl, rfl, rfl⟩
  case round =>
    obtain ⟨rfl, rfl, rfl⟩ := hrel
    go_wp2_with fail
    go_ret
    exact ⟨rfl, rfl⟩
theorem heldIntS_none (A : Option Addr) (cp : Nat) (k : Int) (w : World) :
    Calls Try.prog 32 #[.slice A 0 cp, .int .i64 k] w fun e w' => e = .returned (.int .i64 k) ∧ w = w' := by
  go_enter Try.func32, Try.ntmps32
  go_wp2
  go_loopw [5, 1] (fun i t wr => i = .int .i64 0 ∧ t = .int .i64 k ∧ wr = w) (fun i _ _ => 0)
  case atStart => exact ⟨rfl, rfl, rfl⟩
  case round =>
    obtain ⟨rfl, rfl, rfl⟩ := hrel
    go_wp2_with fail
    go_ret
    exact ⟨rfl, rfl⟩
theorem heldStringS_none (A : Option Addr) (cp : Nat) (k : Int) (w : World) :
    Calls Try.prog 63 #[.slice A 0 cp, .int .i64 k] w fun e w' => e = .returned (.int .i64 k) ∧ w = w' := by
  go_enter Try.func63, Try.ntmps63
  go_wp2
  go_loopw [5, 1] (fun i t wr => i = .int .i64 0 ∧ t = .int .i64 k ∧ wr = w) (fun i _ _ => 0)
  case atStart => exact ⟨rfl, rfl, rfl⟩
  case round =>
    obtain ⟨rfl, rfl, rfl⟩ := hrel
    go_wp2_with fail
    go_ret
    exact ⟨rfl, rfl⟩
theorem eqTreeNode_bare (x : Bool) (w : World) :
    Calls Try.prog 166 #[.agg #[.bool x, .slice none 0 0, .slice none 0 0], .agg #[.bool x, .slice none 0 0, .slice none 0 0]] w fun e w' => e = .returned (.bool true) ∧ Ext w w' := by
  have hS := fun W => eqStringS_same none none 0 0 0 [] W rfl (by omega) (rd_none rfl) (rd_none rfl)
  have hI := fun W => eqIntS_same none none 0 0 0 [] W rfl (by omega) (rd_none rfl) (rd_none rfl)
  have HS := Lib.hid hS
  have HI := Lib.hid hI
  have hx : (x != x) = false := by simp
  have E0 : Ext w ((w.alloc (.cells #[.bool x, .slice none 0 0, .slice none 0 0] 193)).alloc (.cells #[.bool x, .slice none 0 0, .slice none 0 0] 193)) := (by repeat (first | exact Ext.refl _ | assumption | refine Ext.alloc ?_ _ | refine Ext.drewN ?_ _ | refine Ext.drew ?_ | refine Ext.set ?_ (by dsimp only; omega) _ | refine Ext.trans ?_ (by assumption)))
  have HE := Lib.hid E0
  have HB1 := Lib.hid ((Blk.new w 193 [.bool x, .slice none 0 0, .slice none 0 0]).alloc (.cells #[.bool x, .slice none 0 0, .slice none 0 0] 193))
  have hB2 := Blk.new (w.alloc (.cells #[.bool x, .slice none 0 0, .slice none 0 0] 193)) 193 [.bool x, .slice none 0 0, .slice none 0 0]
  rw [show (w.alloc (.cells #[.bool x, .slice none 0 0, .slice none 0 0] 193)).heap.size = w.heap.size + 1 by simp] at hB2
  have HB2 := Lib.hid hB2
  clear hB2
  clear hS hI E0
  go_enter Try.func166, Try.ntmps166
  go_wp2_with fail
  refine (HS.out _).mono ?_
  rintro e w1 ⟨rfl, E1, -⟩
  have HE1 := Lib.hid (HE.out.trans E1)
  obtain ⟨p0, p1, p2⟩ := (HB1.out.ext E1).cells3
  obtain ⟨q0, q1, q2⟩ := (HB2.out.ext E1).cells3
  clear E1 HE
  go_wp2_with fail
  refine (HI.out _).mono ?_
  rintro e w2 ⟨rfl, E2, -⟩
  go_wp2_with fail
  go_ret
  exact ⟨rfl, HE1.out.trans E2⟩
set_option maxHeartbeats 1000000 in
theorem eqTreeNodeS_bare (b1 b2 : Nat) (x : Bool) (w : World) (h1 : Blk w b1 193 [.bool x, .slice none 0 0, .slice none 0 0]) (h2 : Blk w b2 193 [.bool x, .slice none 0 0, .slice none 0 0]) :
    Calls Try.prog 125 #[.slice (some ⟨b1, 0, none⟩) 1 1, .slice (some ⟨b2, 0, none⟩) 1 1] w fun e w' => e = .returned (.bool true) ∧ Ext w w' := by
  have HN := Lib.hid (fun W => eqTreeNode_bare x W)
  have H1 := Lib.hid h1
  have H2 := Lib.hid h2
  clear h1 h2
  go_enter Try.func125, Try.ntmps125
  go_wp2_with fail
  go_loopw [5] (fun i wr => (i = .int .i64 0 ∨ i = .int .i64 1) ∧ Ext w wr) (fun i _ => 1 - (intOf i).toNat)
  case atStart => exact ⟨.inl rfl, Ext.refl _⟩
  case round =>
    obtain ⟨h, hE⟩ := hrel
    rcases h with rfl | rfl
    · go_wp2_with fail
      refine rg_startS (fun W => Blk W b1 193 [.bool x, .slice none 0 0, .slice none 0 0] ∧ Blk W b2 193 [.bool x, .slice none 0 0, .slice none 0 0]) (by kernel_rfl) ⟨(H1.out.ext hE).drew, (H2.out.ext hE).drew⟩ (fun hS0 => ?_)
      (refine rg_take (v := ?_) 0 rfl (by kernel_rfl) (by kernel_rfl) (by kernel_rfl) (fun _ _ _ h => h) (by rfl) (by assumption) (fun W hW => ?_) ?_; rotate_left; (focus (go_simp; try with_reducible rfl)); (try simp only [List.setIfInBounds_toArray, List.set_cons_succ, List.set_cons_zero]))
      (refine rg_take (v := ?_) 1 rfl (by kernel_rfl) (by kernel_rfl) (by kernel_rfl) (fun _ _ _ h => h) (by rfl) (by assumption) (fun W hW => ?_) ?_; rotate_left; (focus (go_simp; try with_reducible rfl)); (try simp only [List.setIfInBounds_toArray, List.set_cons_succ, List.set_cons_zero]))
      (refine rg_take (v := ?_) 2 rfl (by kernel_rfl) (by kernel_rfl) (by kernel_rfl) (fun _ _ _ h => h) (by rfl) (by assumption) (fun W hW => ?_) ?_; rotate_left; (focus (go_simp; try with_reducible rfl)); (try simp only [List.setIfInBounds_toArray, List.set_cons_succ, List.set_cons_zero]))
      (refine rg_take (v := ?_) 3 rfl (by kernel_rfl) (by kernel_rfl) (by kernel_rfl) (fun _ _ _ h => h) (by rfl) (by assumption) (fun W hW => ?_) ?_; rotate_left; (focus (obtain ⟨p0, p1, p2⟩ := hW.1.cells3; go_simp; try with_reducible rfl)); (try simp only [List.setIfInBounds_toArray, List.set_cons_succ, List.set_cons_zero]))
      (refine rg_take (v := ?_) 4 rfl (by kernel_rfl) (by kernel_rfl) (by kernel_rfl) (fun _ _ _ h => h) (by rfl) (by assumption) (fun W hW => ?_) ?_; rotate_left; (focus (go_simp; try with_reducible rfl)); (try simp only [List.setIfInBounds_toArray, List.set_cons_succ, List.set_cons_zero]))
      (refine rg_take (v := ?_) 5 rfl (by kernel_rfl) (by kernel_rfl) (by kernel_rfl) (fun _ _ _ h => h) (by rfl) (by assumption) (fun W hW => ?_) ?_; rotate_left; (focus (go_simp; try with_reducible rfl)); (try simp only [List.setIfInBounds_toArray, List.set_cons_succ, List.set_cons_zero]))
      (refine rg_take (v := ?_) 6 rfl (by kernel_rfl) (by kernel_rfl) (by kernel_rfl) (fun _ _ _ h => h) (by rfl) (by assumption) (fun W hW => ?_) ?_; rotate_left; (focus (go_simp; try with_reducible rfl)); (try simp only [List.setIfInBounds_toArray, List.set_cons_succ, List.set_cons_zero]))
      (refine rg_take (v := ?_) 7 rfl (by kernel_rfl) (by kernel_rfl) (by kernel_rfl) (fun _ _ _ h => h) (by rfl) (by assumption) (fun W hW => ?_) ?_; rotate_left; (focus (obtain ⟨p0, p1, p2⟩ := hW.2.cells3; go_simp; try with_reducible rfl)); (try simp only [List.setIfInBounds_toArray, List.set_cons_succ, List.set_cons_zero]))
      (refine rg_one 8 (by kernel_rfl) rfl (by rfl) (fun K hK => ?_); go_simp)
      refine (HN.out _).mono ?_
      rintro e w5 ⟨rfl, E5⟩
      refine hK _ _ ⟨hS0.1.ext E5, hS0.2.ext E5⟩ (fun hS1 => ?_)
      clear hK K
      try simp only [List.setIfInBounds_toArray, List.set_cons_succ, List.set_cons_zero]
      (refine rg_take (v := ?_) 9 rfl (by kernel_rfl) (by kernel_rfl) (by kernel_rfl) (fun _ _ _ h => h) (by rfl) (by assumption) (fun W hW => ?_) ?_; rotate_left; (focus (go_simp; try with_reducible rfl)); (try simp only [List.setIfInBounds_toArray, List.set_cons_succ, List.set_cons_zero]))
      refine rg_done (by kernel_rfl) ?_
      have hE5 := hE.drew.trans E5
      clear hS0 hS1 E5
      go_wp2_with fail
      go_roundw
      case rel => exact ⟨.inr rfl, hE5⟩
      case measure => simp [intOf]
    · go_wp2_with fail
      go_ret
      exact ⟨rfl, hE⟩
theorem eqTree_bare (b1 b2 : Nat) (x : Bool) (w : World) (h1 : Blk w b1 193 [.bool x, .slice none 0 0, .slice none 0 0]) (h2 : Blk w b2 193 [.bool x, .slice none 0 0, .slice none 0 0]) :
    Calls Try.prog 57 #[.agg #[.int .i64 0, .slice (some ⟨b1, 0, none⟩) 1 1], .agg #[.int .i64 0, .slice (some ⟨b2, 0, none⟩) 1 1]] w fun e w' => e = .returned (.bool true) ∧ Ext w w' := by
  have E0 : Ext w ((w.alloc (.cells #[.int .i64 0, .slice (some ⟨b1, 0, none⟩) 1 1] 89)).alloc (.cells #[.int .i64 0, .slice (some ⟨b2, 0, none⟩) 1 1] 89)) := (by repeat (first | exact Ext.refl _ | assumption | refine Ext.alloc ?_ _ | refine Ext.drewN ?_ _ | refine Ext.drew ?_ | refine Ext.set ?_ (by dsimp only; omega) _ | refine Ext.trans ?_ (by assumption)))
  have HN := Lib.hid (eqTreeNodeS_bare b1 b2 x _ (h1.ext E0) (h2.ext E0))
  have HE := Lib.hid E0
  clear h1 h2 E0
  go_enter Try.func57, Try.ntmps57
  go_wp2_with fail
  refine HN.out.mono ?_
  rintro e w1 ⟨rfl, E1⟩
  go_wp2_with fail
  go_ret
  exact ⟨rfl, HE.out.trans E1⟩
set_option maxHeartbeats 1000000 in
theorem markTreeNodeS_bare (b : Nat) (w : World) (h1 : Blk w b 193 [.bool true, .slice none 0 0, .slice none 0 0]) :
    Calls Try.prog 131 #[.slice (some ⟨b, 0, none⟩) 1 1, .int .i64 1] w fun e w' => e = .returned (.int .i64 2) ∧ Blk w' b 193 [.bool false, .slice none 0 0, .slice none 0 0] ∧ w.grownBy w' (some b) := by
  have HB := Lib.hid (show Blk (w.setCell ⟨b, 0, none⟩ (.bool false)) b 193 [.bool false, .slice none 0 0, .slice none 0 0] from h1.set 0 _)
  have HG := Lib.hid (grown_step (World.grownBy.refl w (some b)) (Ext.refl w) b 0 (.bool false))
  have H1 := Lib.hid h1
  clear h1
  go_enter Try.func131, Try.ntmps131
  go_wp2_with fail
  go_loopw [5, 1] (fun i k wr => (i = .int .i64 0 ∧ k = .int .i64 1 ∧ wr = w) ∨ (i = .int .i64 1 ∧ k = .int .i64 2 ∧ Blk wr b 193 [.bool false, .slice none 0 0, .slice none 0 0] ∧ w.grownBy wr (some b))) (fun i _ _ => 1 - (intOf i).toNat)
  case atStart => exact .inl ⟨rfl, rfl, rfl⟩
  case round =>
    rcases hrel with ⟨rfl, rfl, rfl⟩ | ⟨rfl, rfl, hB, hG⟩
    · obtain ⟨c0, c1, c2⟩ := H1.out.cells3
      have f0 := H1.out.frozen 0
      go_wp2_with fail
      generalize hgw : wr.setCell ⟨b, 0, none⟩ (.bool false) = w1 at HB HG ⊢
      clear c0 c1 c2 f0
      obtain ⟨c0, c1, c2⟩ := HB.out.cells3
      go_wp2_with fail
      refine (markStringS_none none 0 2 w1).mono ?_
      rintro e w2 ⟨rfl, rfl⟩
      go_wp2_with fail
      refine (markIntS_none none 0 2 w1).mono ?_
      rintro e w2 ⟨rfl, rfl⟩
      have HB1 := HB.out
      have HG1 := HG.out
      clear c0 c1 c2 hgw
      go_wp2_with fail
      go_roundw
      case rel => exact .inr ⟨rfl, rfl, HB1, HG1⟩
      case measure => simp [intOf]
    · go_wp2_with fail
      go_ret
      exact ⟨rfl, hB, hG⟩
theorem markTree_bare (b : Nat) (w : World) (h1 : Blk w b 193 [.bool true, .slice none 0 0, .slice none 0 0]) :
    Calls Try.prog 61 #[.agg #[.int .i64 0, .slice (some ⟨b, 0, none⟩) 1 1], .int .i64 1] w fun e w' => e = .returned (.int .i64 2) ∧ Blk w' b 193 [.bool false, .slice none 0 0, .slice none 0 0] ∧ w.grownBy w' (some b) := by
  have E0 : Ext w (w.alloc (.cells #[.int .i64 0, .slice (some ⟨b, 0, none⟩) 1 1] 89)) := (by repeat (first | exact Ext.refl _ | assumption | refine Ext.alloc ?_ _ | refine Ext.drewN ?_ _ | refine Ext.drew ?_ | refine Ext.set ?_ (by dsimp only; omega) _ | refine Ext.trans ?_ (by assumption)))
  have HN := Lib.hid (markTreeNodeS_bare b _ (h1.ext E0))
  have HE := Lib.hid E0
  clear h1 E0
  go_enter Try.func61, Try.ntmps61
  go_wp2_with fail
  refine HN.out.mono ?_
  rintro e w1 ⟨rfl, B1, G1⟩
  go_wp2_with fail
  go_ret
  exact ⟨rfl, B1, grown_preN HE.out G1⟩
end Go.Proofs.Ytnbfjkebakaigaa
