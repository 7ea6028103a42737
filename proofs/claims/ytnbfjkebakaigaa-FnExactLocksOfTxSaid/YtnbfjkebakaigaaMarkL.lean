/- Marks over locks: slices of Lock that the laws own, and what marks a value of Locks. -/
import Derived.Test.YtnbfjkebakaigaaOfTx
import Derived.Test.YtnbfjkebakaigaaCompLocks
namespace Go.Proofs.Ytnbfjkebakaigaa
open Go.RowKit Go.Deep
set_option linter.unusedVariables false
set_option maxRecDepth 100000
theorem own_rdL {w : World} {B n size : Nat} {e : TypeId} {v : Value} {xs : List Value} (h : w.ownsRow B e size v n xs) : ∃ A cap, v = .slice A n cap ∧ Rd w A xs := by
  obtain ⟨hlen, h⟩ := h
  rcases h with ⟨rfl, rfl⟩ | ⟨g, cap, cur, rfl, hb, hh, h1, h2, h3, h4⟩
  · have : xs = [] := by cases xs with
      | nil => rfl
      | cons a r => simp at hlen
    subst this; exact ⟨none, 0, rfl, Rd.nil _ _⟩
  · exact ⟨_, cap, rfl, Rd.take_ (t := e) (cs := cur.toList) (by simpa [Blk] using hh) h4⟩
/-- a slice of locks that reads as these -/
def LkS (w : World) (v : Value) (l : List CLock) : Prop := ∃ A cap, v = .slice A l.length cap ∧ Rd w A (l.flatMap CLock.cs)
theorem LkS.own {w : World} {B : Nat} {e : TypeId} {v : Value} {l : List CLock} (h : w.ownsRow B e 4 v l.length (l.flatMap CLock.cs)) : LkS w v l := by
  obtain ⟨A, cap, rfl, hr⟩ := own_rdL h
  exact ⟨A, cap, rfl, hr⟩
theorem LkS.ext {w w' : World} {v : Value} {l : List CLock} (h : LkS w v l) (E : Ext w w') : LkS w' v l := by
  obtain ⟨A, cap, e, hr⟩ := h
  exact ⟨A, cap, e, hr.ext E⟩
theorem otL_len (lh : List CLock) (lq : List CWait) (tx : Int) : (otL lh lq tx).length ≤ lh.length := by
  unfold otL; split
  · exact List.length_filter_le _ _
  · simp
theorem eqLockS_lk {v v' : Value} {l : List CLock} {w : World} (h : LkS w v l) (h' : LkS w v' l) (hn : l.length ≤ 1099511627776) :
    Calls Try.prog 49 #[v, v'] w fun e w' => e = .returned (.bool true) ∧ Ext w w' := by
  obtain ⟨A, cap, rfl, hr⟩ := h
  obtain ⟨A', cap', rfl, hr'⟩ := h'
  exact eqLockS_same A A' l.length cap cap' l w rfl hn hr hr'
theorem markLockS_none (A : Option Addr) (cp : Nat) (k : Int) (w : World) :
    Calls Try.prog 51 #[.slice A 0 cp, .int .i64 k] w fun e w' => e = .returned (.int .i64 k) ∧ w = w' := by
  go_enter Try.func51, Try.ntmps51
  go_wp2
  go_loopw [5, 1] (fun i t wr => i = .int .i64 0 ∧ t = .int .i64 k ∧ wr = w) (fun i _ _ => 0)
  case atStart => exact ⟨rfl, rfl, rfl⟩
  case round =>
    obtain ⟨rfl, rfl, rfl⟩ := hrel
    go_wp2_with fail
    go_ret
    exact ⟨rfl, rfl⟩
theorem markLockS_own (B : Nat) (v : Value) (k : Int) (l : List CLock) (w : World) (hn : l.length ≤ 1048576) (h1 : 1 ≤ k) (h2 : k ≤ 4000000) (h : w.ownsRow B 125 4 v l.length (l.flatMap CLock.cs)) :
    Calls Try.prog 51 #[v, .int .i64 k] w fun e w' => e = .returned (.int .i64 (k + 4 * l.length)) ∧ w'.ownsRow B 125 4 v l.length ((marksF mkLock 4 k l.length).flatMap CLock.cs) ∧ w.grownBy w' v.ownBlock := by
  by_cases h0 : l.length = 0
  · have hl : l = [] := List.eq_nil_of_length_eq_zero h0
    subst hl
    obtain ⟨A, cap, rfl⟩ := own_sliceL h
    refine (markLockS_none A cap k w).mono ?_
    rintro e w' ⟨rfl, rfl⟩
    exact ⟨by simp, h, gr_ext (Ext.refl _)⟩
  obtain ⟨g, cap, cs, rfl, hB, hc1, hc2, hblk, hlen⟩ := own_some h (by rintro rfl; obtain ⟨g, cap, cs, e, _⟩ := own_form h (by omega); cases e)
  refine (markLockS_any g l.length cap k l cs w hn h1 (by omega) rfl hblk).mono ?_
  rintro e w' ⟨rfl, hb', hg⟩
  have hml := marksF_flat mkLock CLock.len 4 k l.length
  refine ⟨rfl, own_of hB hc1 hc2 hb' ?_ hml, hg⟩
  rw [List.length_append, hml, ← hlen, List.length_append, flat_len CLock.len]
set_option maxHeartbeats 1000000 in
theorem markLocks_any (bh nh ph bq nq pq : Nat) (lh : List CLock) (lq : List CWait) (k : Int) (w : World) (hlh : lh.length = nh) (hlq : lq.length = nq) (hnh : nh ≤ 1048576) (hnq : nq ≤ 1048576) (h1 : 1 ≤ k) (h2 : k ≤ 1000) (hne : bh ≠ bq)
    (Bh : Blk w bh 125 (lh.flatMap CLock.cs)) (Bq : Blk w bq 128 (lq.flatMap CWait.cs)) :
    Calls Try.prog 50 #[.agg #[.slice (some ⟨bh, 0, none⟩) nh ph, .slice (some ⟨bq, 0, none⟩) nq pq], .int .i64 k] w fun e w' => e = .returned (.int .i64 (k + 4 * nh + 2 * nq)) ∧ ∃ w1 w2, Ext w w1 ∧ w1.grownBy w2 (some bh) ∧ w2.grownBy w' (some bq) := by
  have HX := Lib.hid (Blk.new w 57 [.slice (some ⟨bh, 0, none⟩) nh ph, .slice (some ⟨bq, 0, none⟩) nq pq])
  have E0 : Ext w (w.alloc (.cells #[.slice (some ⟨bh, 0, none⟩) nh ph, .slice (some ⟨bq, 0, none⟩) nq pq] 57)) := (by repeat (first | exact Ext.refl _ | assumption | refine Ext.alloc ?_ _ | refine Ext.drewN ?_ _ | refine Ext.drew ?_ | refine Ext.set ?_ (by dsimp only; omega) _ | refine Ext.trans ?_ (by assumption)))
  have HBq := Lib.hid (Bq.ext E0)
  have HE0 := Lib.hid E0
  have hlt1 := Bh.lt
  have HM := Lib.hid (markLockS_any bh nh ph k lh [] _ hnh h1 (by omega) hlh (by rw [List.append_nil]; exact Bh.ext E0))
  have HLq := Lib.hid hlq
  clear Bh Bq E0 hlh hlq
  go_enter Try.func50, Try.ntmps50
  go_wp2_with fail
  refine HM.out.mono ?_
  rintro e w2 ⟨rfl, -, G1⟩
  have HG1 := Lib.hid G1
  have HB2 := Lib.hid (HBq.out.grown G1 hne.symm)
  have HX2 := HX.out.grown G1 (by omega)
  obtain ⟨x0, x1⟩ := HX2.cells2
  clear G1 HX2 HM
  have HM2 := Lib.hid (fun k' (hk : k' = k + 4 * (nh : Int)) => markWaitS_any bq nq pq k' lq [] w2 hnq (by omega) (by omega) HLq.out (by rw [List.append_nil]; exact HB2.out))
  go_wp2_with fail
  refine (HM2.out _ rfl).mono ?_
  rintro e w3 ⟨rfl, -, G2⟩
  have HG2 := Lib.hid G2
  clear G2 HM2 x0 x1
  go_wp2_with fail
  go_ret
  exact ⟨rfl, _, _, HE0.out, HG1.out, HG2.out⟩
end Go.Proofs.Ytnbfjkebakaigaa
