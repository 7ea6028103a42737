/- The walk of the program's look at a sector: a range over the library's Backward. -/
import Derived.Test.YtnbfjkebakaigaaDRead
import Derived.RangeFuncNested
import Derived.RangeFuncBound
import Derived.RangeFuncCalls
import Derived.RangeFuncLeaves
import Derived.RangeFuncBox
import Derived.Shelf.Abstract
import Derived.Shelf.RegionOpen
import Derived.WalkKit
import Derived.OwnWalkIn
import Derived.TacticsInMore
import Derived.LoopNIn
import Derived.LoopIn
namespace Go.Proofs.Ytnbfjkebakaigaa
open Go.RowKit Go.Shelf
attribute [local go_sem] Oper.semAt_some
set_option linter.unusedVariables false
set_option maxRecDepth 100000
def bk (l : List CPending) (j : Nat) : Nat × CPending := (l.length - 1 - j, l.getD (l.length - 1 - j) ⟨0, ⟨#[]⟩⟩)
def bkUp (l : List CPending) (k : Nat) : List (Nat × CPending) := (List.range k).map (bk l)
theorem bkUp_succ (l : List CPending) (k : Nat) : bkUp l (k + 1) = bkUp l k ++ [bk l k] := by simp [bkUp, List.range_succ]
theorem bkUp_length (l : List CPending) (k : Nat) : (bkUp l k).length = k := by simp [bkUp]
/-- the cells of the writes from an address on -/
def PCells (W : World) (b off : Nat) (l : List CPending) : Prop := ∀ j, (hj : j < l.length) → W.cell? ⟨b, off + j * 2, none⟩ = some (.int .i64 (l[j]'hj).a) ∧ W.cell? ⟨b, off + j * 2 + 1, none⟩ = some (.string (l[j]'hj).c)
set_option maxRecDepth 100000 in
set_option maxHeartbeats 4000000 in
theorem back1_in (F : Fence) (n : Nat) (hf : F.fn 173) (hro : F.round = none) (hn : 1 ≤ n) (l Bs n₀ b off len cap : Nat) (lc : List CPending) (hlen : lc.length = len) (hreach : len ≤ 1000) (hb : b < n₀) (hBn : Bs < n₀) (J Jx : List (Nat × CPending) → World → Prop)
    (hY : ∀ pre x W, J pre W → pre.length < len → YieldAt F (n - 1) Try.prog l #[.int .i64 (x.1 : Int), .agg #[.int .i64 x.2.a, .string x.2.c]] W fun e W' =>
      (e = .returned (.bool true) ∧ J (pre ++ [x]) W' ∧ Below n₀ W W') ∨ (e = .returned (.bool false) ∧ Jx (pre ++ [x]) W'))
    (W : World) (hBs : W.cell? ⟨Bs, 0, none⟩ = some (.slice (some ⟨b, off, none⟩) len cap)) (hc : PCells W b off lc) (h0 : J [] W) :
    CallsIn F n Try.prog 173 #[.func (.yield l) #[] #[], .pointer (some ⟨Bs, 0, none⟩)] W fun e W' => (∃ v, e = .returned v) ∧
      ((∃ ys, ys = bkUp lc len ∧ J ys W') ∨ (∃ pre, (∃ k, k ≤ len ∧ pre = bkUp lc k) ∧ Jx pre W')) := by
  refine callsIn_of_wp Try.func173 rfl hf ?_ hro
  simp only [Try.ntmps173, List.size_toArray, List.length_cons, List.length_nil, Nat.reduceAdd, Nat.reduceSub, Array.replicate_succ, Array.replicate_zero, List.push_toArray, List.append_toArray, List.nil_append, List.cons_append]
  gi_wp2
  gi_loopw [3] (fun i wr => ∃ k : Nat, k ≤ len ∧ i = .int .i64 ((len : Int) - 1 - (k : Int)) ∧ J (bkUp lc k) wr ∧ Below n₀ W wr)
    (fun i _ => (intOf i + 1).toNat)
  case atStart => exact ⟨0, Nat.zero_le _, by simp, h0, Below.refl _ _⟩
  case round =>
    obtain ⟨k, hk, rfl, hJs, hnx⟩ := hrel
    have hbs := (hnx.cell (p := ⟨Bs, 0, none⟩) hBn).trans hBs
    by_cases hlt : k < len
    · obtain ⟨m, hm⟩ : ∃ m, m = len - 1 - k := ⟨_, rfl⟩
      have hml : m < lc.length := by omega
      have hmI : (len : Int) - 1 - (k : Int) = (m : Int) := by omega
      have hbk : bk lc k = (m, lc[m]) := by unfold bk; rw [hlen, ← hm]; simp [hml]
      have hcx := hc m hml
      have c0 := (hnx.cell (p := ⟨b, off + m * 2, none⟩) hb).trans hcx.1
      have c1 := (hnx.cell (p := ⟨b, off + m * 2 + 1, none⟩) hb).trans hcx.2
      have hmn : (m : Int) < (len : Int) := by omega
      have hmN : m < len := by omega
      have hm0 : (0 : Int) ≤ (m : Int) := by omega
      rw [hmI]
      obtain ⟨fn, tmps, assign, body, hy, hR⟩ := hY _ (m, lc[m]) wr hJs (by rw [bkUp_length]; exact hlt)
      dsimp only at hy
      have HMI := Lib.hid hmI
      have HBK := Lib.hid hbk
      have HM := Lib.hid hm
      clear hmI hbk hm hcx
      generalize lc[m] = x at c0 c1 hy hR HBK
      gi_wp2
      refine hR.mono ?_
      rintro e W3 (⟨rfl, hJ3, hk3⟩ | ⟨rfl, hJx3⟩)
      · gi_wp2
        go_roundw
        case rel => exact ⟨k + 1, by omega, by have := HMI.out; congr 1; omega, by rw [bkUp_succ, HBK.out]; exact hJ3, hnx.trans hk3⟩
        case measure => simp [intOf]
      · gi_wp2
        refine bodyPost_ret (results_none rfl _ _ _) rfl ?_
        exact ⟨⟨_, rfl⟩, .inr ⟨_, ⟨k + 1, by omega, by rw [bkUp_succ, HBK.out]⟩, hJx3⟩⟩
    · obtain rfl : k = len := by omega
      have hneg : ¬ (0 : Int) ≤ (k : Int) - 1 - (k : Int) := by omega
      gi_wp2
      go_end0
      exact ⟨⟨_, rfl⟩, .inl hJs⟩
set_option maxHeartbeats 1000000 in
theorem back_in (F : Fence) (n : Nat) (hf : F.fn 140) (hro : F.round = none) (a : Option Addr) (len cap : Nat) (w : World) :
    CallsIn F n Try.prog 140 #[.slice a len cap] w fun e w' => e = .returned (.func (.func 173) #[] #[.pointer (some ⟨w.heap.size, 0, none⟩)]) ∧ w' = w.alloc (.cells #[.slice a len cap] 23) := by
  refine callsIn_of_wp Try.func140 rfl hf ?_ hro
  simp only [Try.ntmps140, List.size_toArray, List.length_cons, List.length_nil, Nat.reduceAdd, Nat.reduceSub, Array.replicate_succ, Array.replicate_zero, List.push_toArray, List.append_toArray, List.nil_append, List.cons_append]
  gi_wp2
  go_ret
  exact ⟨rfl, rfl⟩
theorem back_stops (F : Fence) (n : Nat) (hf : F.fn 173) (hro : F.round = none) (hn : 1 ≤ n) (Bs n₀ b off len cap : Nat) (lc : List CPending) (hlen : lc.length = len) (hreach : len ≤ 1000) (hb : b < n₀) (hBn : Bs < n₀) (w : World) (hn₀ : n₀ ≤ w.heap.size)
    (hBs : w.cell? ⟨Bs, 0, none⟩ = some (.slice (some ⟨b, off, none⟩) len cap)) (hc : PCells w b off lc) :
    SeqStopsK F n Try.prog 173 #[.pointer (some ⟨Bs, 0, none⟩)] (fun x : Nat × CPending => #[Value.int .i64 (x.1 : Int), .agg #[.int .i64 x.2.a, .string x.2.c]]) (Below n₀) (fun ys => ys = bkUp lc len) (fun pre => ∃ k, k ≤ len ∧ pre = bkUp lc k) len w := fun l J Jx W hW _ _ hY h0 => by
  have hbs : W.cell? ⟨Bs, 0, none⟩ = some (.slice (some ⟨b, off, none⟩) len cap) := (hW.cell (p := ⟨Bs, 0, none⟩) (by show Bs < w.heap.size; omega)).trans hBs
  have hcs : PCells W b off lc := fun j hj => ⟨(hW.cell (p := ⟨b, off + j * 2, none⟩) (by show b < w.heap.size; omega)).trans (hc j hj).1, (hW.cell (p := ⟨b, off + j * 2 + 1, none⟩) (by show b < w.heap.size; omega)).trans (hc j hj).2⟩
  exact back1_in F n hf hro hn l Bs n₀ b off len cap lc hlen hreach hb hBn J Jx hY W hbs hcs h0
end Go.Proofs.Ytnbfjkebakaigaa
