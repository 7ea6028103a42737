/- The walk of the reference's l09Walk: a tree's keys, its depth, whether it is right (printed by gen_treew.py). -/
import Derived.Test.YtnbfjkebakaigaaTreeS
namespace Go.Proofs.Ytnbfjkebakaigaa
open Go.RowKit Go.Deep
set_option linter.unusedVariables false
set_option maxRecDepth 100000
/-- a statement that no tactic takes for another -/
structure Cov (p : Prop) : Prop where
  out : p
def seenUp (s : List Bool) (i : Nat) : Bool := (s.take i).all id
theorem seenUp_succ {s : List Bool} {i : Nat} {b : Bool} (h : s[i]? = some b) : seenUp s (i + 1) = (seenUp s i && b) := by
  obtain ⟨hl, rfl⟩ := List.getElem?_eq_some_iff.1 h
  unfold seenUp
  rw [List.take_succ_eq_append_getElem hl, List.all_append]
  simp
theorem seenUp_end {s : List Bool} {n : Nat} (h : s.length ≤ n) : seenUp s n = !s.contains false := by
  unfold seenUp
  rw [List.take_of_length_le h]
  clear h
  induction s with
  | nil => rfl
  | cons b s ih => rw [List.all_cons, ih, List.contains_cons]; cases b <;> simp
theorem treeV_big {N : List CNode} {rt : Int} (h : 200 < N.length) : treeV N rt = none := by unfold treeV; rw [if_pos h]
theorem treeV_none {N : List CNode} {rt : Int} (h : ¬ 200 < N.length) (hv : visit N 201 true rt (List.replicate N.length false) [] = none) : treeV N rt = none := by unfold treeV; rw [if_neg h, hv]
theorem treeV_some {N : List CNode} {rt : Int} {d : Nat} {s : List Bool} {q : List ByteArray} (h : ¬ 200 < N.length) (hv : visit N 201 true rt (List.replicate N.length false) [] = some (d, s, q)) :
    treeV N rt = if (!s.contains false) && (decide (q.length ≤ 60) && keysUp q q.length) then some (d, q) else none := by unfold treeV; rw [if_neg h, hv]
theorem keyAt_zero {q : List ByteArray} {x : ByteArray} (h : q[0]? = some x) : keyAt q 0 = inB (x.size : Int) 1 30 := by unfold keyAt; rw [h]; simp
theorem keyAt_bad {q : List ByteArray} {i : Nat} {x : ByteArray} (h : q[i]? = some x) (hb : inB (x.size : Int) 1 30 = false) : keyAt q i = false := by unfold keyAt; rw [h]; dsimp only; rw [hb]; rfl
theorem keyAt_succ {q : List ByteArray} {i : Nat} {x y : ByteArray} (h : q[i + 1]? = some x) (hy : q[i]? = some y) (hb : inB (x.size : Int) 1 30 = true) : keyAt q (i + 1) = Op.bytesLess y.toList x.toList := by
  unfold keyAt; rw [h]; dsimp only; rw [hb, Nat.add_sub_cancel, hy]; simp
theorem seenUp_no {s : List Bool} {i : Nat} (h : seenUp s i = false) : seenUp s (i + 1) = false := by
  rcases hb : s[i]? with _ | b
  · have hl := List.getElem?_eq_none_iff.1 hb
    unfold seenUp at h ⊢
    rw [List.take_of_length_le hl] at h
    rw [List.take_of_length_le (by omega)]
    exact h
  · rw [seenUp_succ hb, h]; rfl
theorem wk_seen {ok2 : Bool} {s : List Bool} {i : Nat} (h : false = (ok2 && seenUp s i)) : false = (ok2 && seenUp s (i + 1)) := by
  rcases ok2 with _ | _
  · rfl
  · rw [Bool.true_and] at h ⊢; exact (seenUp_no h.symm).symm
theorem wk_keys {ok3 : Bool} {q : List ByteArray} {i : Nat} (h : false = (ok3 && keysUp q i)) : false = (ok3 && keysUp q (i + 1)) := by
  rw [keysUp_succ, ← Bool.and_assoc, ← h]; rfl
theorem wk_step {ok3 b : Bool} {q : List ByteArray} {i : Nat} (h : true = (ok3 && keysUp q i)) (hb : keyAt q i = b) : b = (ok3 && keysUp q (i + 1)) := by
  rw [keysUp_succ, ← Bool.and_assoc, ← h, hb]; rfl
theorem wk_step1 {ok2 b : Bool} {s : List Bool} {i : Nat} (h : true = (ok2 && seenUp s i)) (hb : s[i]? = some b) : b = (ok2 && seenUp s (i + 1)) := by
  rw [seenUp_succ hb, ← Bool.and_assoc, ← h]; rfl
theorem wk_res {N : List CNode} {rt : Int} {nn d : Nat} {s : List Bool} {q : List ByteArray} {ok2 okr : Bool} {R : Option VSt} (hN : N.length = nn) (h : ¬ 200 < nn) (hR : visit N 201 true rt (List.replicate nn false) [] = R) (hs : ok2 = true → s.length = nn)
    (hP : (ok2 = true ∧ R = some (d, s, q)) ∨ (ok2 = false ∧ R = none)) (ho : okr = (((ok2 && seenUp s nn) && keysUp q q.length) && decide (q.length ≤ 60))) : (okr = true ∧ treeV N rt = some (d, q)) ∨ (okr = false ∧ treeV N rt = none) := by
  subst hN
  rcases hP with ⟨rfl, hv⟩ | ⟨rfl, hv⟩
  · rw [treeV_some h (hR.trans hv)]
    rw [seenUp_end (Nat.le_of_eq (hs rfl))] at ho
    rcases okr with _ | _
    · refine .inr ⟨rfl, if_neg ?_⟩
      intro hc
      rw [Bool.and_eq_true, Bool.and_eq_true] at hc
      rw [hc.1, hc.2.1, hc.2.2] at ho
      cases ho
    · have ho := ho.symm
      rw [Bool.and_eq_true, Bool.and_eq_true, Bool.true_and] at ho
      refine .inl ⟨rfl, if_pos ?_⟩
      rw [ho.1.1, ho.1.2, ho.2]; rfl
  · refine .inr ⟨ho.trans (by simp), treeV_none h (hR.trans hv)⟩
/-- what l09Walk answers -/
def WkPost (w : World) (T : TypeId) (R : Option (Nat × List ByteArray)) (e : Ending) (w' : World) : Prop :=
  ∃ (d : Int) (v : Value) (q : List ByteArray) (ok : Bool), e = .returned (.tuple #[v, .int .i64 d, .bool ok]) ∧ w'.ownsRow w.heap.size T 1 v q.length (q.map fun c => Value.string c) ∧ Ext w w' ∧ q.length ≤ 4000 ∧ 0 ≤ d ∧ d ≤ 300 ∧
    ((ok = true ∧ R = some (d.toNat, q)) ∨ (ok = false ∧ R = none))
theorem info_BoolS : (Try.prog.info? 4).map (fun i => (i.zero, i.size, i.bytes)) = some (some (Value.bool false), 1, 1) := by kernel_rfl
theorem spec_l09Key (x : ByteArray) (w : World) : Calls Try.prog 161 #[.string x] w fun e w' => e = .returned (.bool (inB (x.size : Int) 1 30)) ∧ w = w' := by
  have HIN := Lib.hid (fun W => spec_l01In (x.size : Int) 1 30 W)
  go_enter Try.func161, Try.ntmps161
  go_wp2_with fail
  refine (HIN.out _).mono ?_
  rintro e w' ⟨rfl, rfl⟩
  go_wp2_with fail
  go_ret
  exact ⟨rfl, rfl⟩
set_option maxRecDepth 100000 in
set_option maxHeartbeats 20000000 in
theorem spec_l09Walk (rt : Int) (An : Option Addr) (nn pn : Nat) (l : List XNode) (N : List CNode) (w : World) (hl : l.length = nn) (hN : l.map XNode.c = N) (hns : nn ≤ 1099511627776) (hx : XSm l) (hr : NsR w An l) :
    Calls Try.prog 126 #[.agg #[.int .i64 rt, .slice An nn pn]] w (WkPost w 9 (treeV N rt)) := by
  have hNl : N.length = nn := by rw [← hN, List.length_map, hl]
  have hB := Blk.new w 89 [.int .i64 rt, .slice An nn pn]
  have hE0 : Ext w (w.alloc (.cells #[.int .i64 rt, .slice An nn pn] 89)) := (by repeat (first | exact Ext.refl _ | assumption | refine Ext.alloc ?_ _ | refine Ext.drewN ?_ _ | refine Ext.drew ?_ | refine Ext.set ?_ (by dsimp only; omega) _ | refine Ext.trans ?_ (by assumption)))
  have HB := Lib.hid hB
  have HE0 := Lib.hid hE0
  by_cases hbig : (200 : Int) < (nn : Int)
  · rw [treeV_big (by omega)]
    go_enter Try.func126, Try.ntmps126
    go_wp2_with fail
    refine bodyPost_ret (v := .tuple #[.slice (some ⟨w.heap.size + 1, 0, none⟩) 0 0, .int .i64 0, .bool false]) (by simp [results, Try.results126, go_sem]; try rfl) rfl ?_
    have ho := World.ownsRow_lit (base := w.heap.size) (e := 9) (size := 1) (w.alloc (.cells #[.int .i64 rt, .slice An nn pn] 89)) #[] 0 (by rw [World.size_alloc]; omega) (by unfold maxLen; omega) rfl
    rw [World.size_alloc] at ho
    exact ⟨0, _, [], false, rfl, ho, hE0.alloc _, by simp, by omega, by omega, .inr ⟨rfl, rfl⟩⟩
  have HL := Lib.hid hl
  have HN := Lib.hid hN
  have HNl := Lib.hid hNl
  have HX := Lib.hid hx
  have HR := Lib.hid (hr.ext hE0)
  have HRW := Lib.hid hr
  clear hl hN hNl hx hr hB hE0
  have hmk := fun W => run_make_row' (P := Try.prog) 198 4 (Value.bool false) 1 Try.underlying198 info_BoolS rfl .i64 .i64 nn (by omega) (by omega) W
  have HMK := Lib.hid hmk
  clear hmk
  obtain ⟨b0, b1⟩ := HB.out.cells2
  go_enter Try.func126, Try.ntmps126
  go_wp2_with fail
  generalize hw1 : w.alloc (.cells #[.int .i64 rt, .slice An nn pn] 89) = w1 at HB HE0 HR b0 b1 ⊢
  refine rg_start (by kernel_rfl) (Ext.refl w1) (fun hE1 => ?_)
  (refine rg_take (v := ?_) 0 rfl (by kernel_rfl) (by kernel_rfl) (by kernel_rfl) (fun _ _ _ h => h) (by rfl) (by assumption) (fun W hW => ?_) ?_; rotate_left; (focus (have z0 := hW.cell b0; have z1 := hW.cell b1; go_simp; try with_reducible rfl)); (try simp only [List.setIfInBounds_toArray, List.set_cons_succ, List.set_cons_zero]))
  (refine rg_take (v := ?_) 1 rfl (by kernel_rfl) (by kernel_rfl) (by kernel_rfl) (fun _ _ _ h => h) (by rfl) (by assumption) (fun W hW => ?_) ?_; rotate_left; (focus (go_simp; try with_reducible rfl)); (try simp only [List.setIfInBounds_toArray, List.set_cons_succ, List.set_cons_zero]))
  (refine rg_take (v := ?_) 2 rfl (by kernel_rfl) (by kernel_rfl) (by kernel_rfl) (fun _ _ _ h => h) (by rfl) (by assumption) (fun W hW => ?_) ?_; rotate_left; (focus (have z0 := hW.cell b0; have z1 := hW.cell b1; go_simp; try with_reducible rfl)); (try simp only [List.setIfInBounds_toArray, List.set_cons_succ, List.set_cons_zero]))
  (refine rg_take (v := ?_) 3 rfl (by kernel_rfl) (by kernel_rfl) (by kernel_rfl) (fun _ _ _ h => h) (by rfl) (by assumption) (fun W hW => ?_) ?_; rotate_left; (focus (go_simp; try with_reducible rfl)); (try simp only [List.setIfInBounds_toArray, List.set_cons_succ, List.set_cons_zero]))
  have hd1 := hE1
  generalize w1.drew = w2 at hE1 hd1 ⊢
  have HD := Lib.hid hd1
  clear hd1
  have HB2 := Lib.hid (HB.out.ext HD.out)
  have HE2 := Lib.hid (HE0.out.trans HD.out)
  have HR2 := Lib.hid (HR.out.ext HD.out)
  have hsz : w.heap.size + 1 ≤ w2.heap.size := by have h1 := HD.out.le; rw [← hw1, World.size_alloc] at h1; exact h1
  clear b0 b1 HB HE0 HR
  refine (fun hk : Cov (?HK : Prop) => rg_two 4 5 (by kernel_rfl) rfl (by rfl) rfl (by rfl) (fun K hK => ?_) (fun K hK => ?_)) ?_
  rotate_left
  · go_simp
    simp only [HMK.out]
    go_simp
    refine hK _ _ (hE1.alloc _) (fun hE2 => ?_)
    clear hK K
    try simp only [List.setIfInBounds_toArray, List.set_cons_succ, List.set_cons_zero]
    (refine rg_one 5 (by kernel_rfl) rfl (by rfl) (fun K hK => ?_); go_simp)
    refine hK _ _ (hE2.alloc _) (fun hE3 => ?_)
    clear hK K
    try simp only [List.setIfInBounds_toArray, List.set_cons_succ, List.set_cons_zero]
    (refine rg_take (v := ?_) 6 rfl (by kernel_rfl) (by kernel_rfl) (by kernel_rfl) (fun _ _ _ h => h) (by rfl) (by assumption) (fun W hW => ?_) ?_; rotate_left; (focus (go_simp; try with_reducible rfl)); (try simp only [List.setIfInBounds_toArray, List.set_cons_succ, List.set_cons_zero]))
    (refine rg_one 7 (by kernel_rfl) rfl (by rfl) (fun K hK => ?_); go_simp)
    refine hK _ _ (hE3.alloc _) (fun hE4 => ?_)
    clear hK K
    try simp only [List.setIfInBounds_toArray, List.set_cons_succ, List.set_cons_zero]
    (refine rg_take (v := ?_) 8 rfl (by kernel_rfl) (by kernel_rfl) (by kernel_rfl) (fun _ _ _ h => h) (by rfl) (by assumption) (fun W hW => ?_) ?_; rotate_left; (focus (go_simp; try with_reducible rfl)); (try simp only [List.setIfInBounds_toArray, List.set_cons_succ, List.set_cons_zero]))
    refine rg_done (by kernel_rfl) ?_
    have hbs := ((Blk.made w2 4 (.bool false) nn).alloc (.cells #[] 9)).alloc (.cells #[.int .i64 rt, .slice An nn pn, .slice (some ⟨w2.heap.size, 0, none⟩) nn nn, .bool true, .slice (some ⟨w2.heap.size + 1, 0, none⟩) 0 0] 200)
    have hrow := World.ownsRow_lit (base := w.heap.size) (e := 9) (size := 1) (w2.alloc (.cells (madeCells #[.bool false] nn) 4)) #[] 0 (by rw [World.size_alloc]; omega) (by unfold maxLen; omega) rfl
    rw [World.size_alloc] at hrow
    have hrow2 := own_ext hrow ((Ext.refl _).alloc (.cells #[.int .i64 rt, .slice An nn pn, .slice (some ⟨w2.heap.size, 0, none⟩) nn nn, .bool true, .slice (some ⟨w2.heap.size + 1, 0, none⟩) 0 0] 200))
    have hbx := Blk.new ((w2.alloc (.cells (madeCells #[.bool false] nn) 4)).alloc (.cells #[] 9)) 200 [.int .i64 rt, .slice An nn pn, .slice (some ⟨w2.heap.size, 0, none⟩) nn nn, .bool true, .slice (some ⟨w2.heap.size + 1, 0, none⟩) 0 0]
    rw [World.size_alloc, World.size_alloc] at hbx
    have hEw := HE2.out.trans (show Ext w2 (((w2.alloc (.cells (madeCells #[.bool false] nn) 4)).alloc (.cells #[] 9)).alloc (.cells #[.int .i64 rt, .slice An nn pn, .slice (some ⟨w2.heap.size, 0, none⟩) nn nn, .bool true, .slice (some ⟨w2.heap.size + 1, 0, none⟩) 0 0] 200)) from (by repeat (first | exact Ext.refl _ | assumption | refine Ext.alloc ?_ _ | refine Ext.drewN ?_ _ | refine Ext.drew ?_ | refine Ext.set ?_ (by dsimp only; omega) _ | refine Ext.trans ?_ (by assumption))))
    have HT5 := Lib.hid (show TSt 200 4 9 w.heap.size (w2.heap.size + 1 + 1) (w2.heap.size) w w (lkHd rt An nn pn (w2.heap.size) true (.slice (some ⟨w2.heap.size + 1, 0, none⟩) 0 0)) (.slice (some ⟨w2.heap.size + 1, 0, none⟩) 0 0) (List.replicate nn false) [] (((w2.alloc (.cells (madeCells #[.bool false] nn) 4)).alloc (.cells #[] 9)).alloc (.cells #[.int .i64 rt, .slice An nn pn, .slice (some ⟨w2.heap.size, 0, none⟩) nn nn, .bool true, .slice (some ⟨w2.heap.size + 1, 0, none⟩) 0 0] 200)) from
      ⟨by decide, by decide, by decide, Nat.le_refl _, by omega, by omega, hbx, hbs.of_eq (by rw [List.map_replicate]), hrow2, hEw, (TFr.refl _ _ _ _).ext hEw, hEw.le⟩)
    have HBB := Lib.hid (HB2.out.ext (show Ext w2 (((w2.alloc (.cells (madeCells #[.bool false] nn) 4)).alloc (.cells #[] 9)).alloc (.cells #[.int .i64 rt, .slice An nn pn, .slice (some ⟨w2.heap.size, 0, none⟩) nn nn, .bool true, .slice (some ⟨w2.heap.size + 1, 0, none⟩) 0 0] 200)) from (by repeat (first | exact Ext.refl _ | assumption | refine Ext.alloc ?_ _ | refine Ext.drewN ?_ _ | refine Ext.drew ?_ | refine Ext.set ?_ (by dsimp only; omega) _ | refine Ext.trans ?_ (by assumption)))))
    clear hbs hrow hrow2 hbx hEw hE2 hE3 hE4
    generalize (((w2.alloc (.cells (madeCells #[.bool false] nn) 4)).alloc (.cells #[] 9)).alloc (.cells #[.int .i64 rt, .slice An nn pn, .slice (some ⟨w2.heap.size, 0, none⟩) nn nn, .bool true, .slice (some ⟨w2.heap.size + 1, 0, none⟩) 0 0] 200)) = W5 at HT5 HBB ⊢
    generalize w2.heap.size + 1 + 1 = xb at HT5 HBB ⊢
    generalize w2.heap.size + 1 = kb at HT5 HBB ⊢
    generalize w2.heap.size = sb at HT5 HBB ⊢
    revert HT5
    revert HBB
    revert sb
    revert kb
    revert xb
    revert W5
    exact hk.out
  · go_simp
    refine hK _ _ (hE1.alloc _) (fun hE2 => ?_)
    clear hK K
    try simp only [List.setIfInBounds_toArray, List.set_cons_succ, List.set_cons_zero]
    (refine rg_one 4 (by kernel_rfl) rfl (by rfl) (fun K hK => ?_); go_simp)
    simp only [HMK.out]
    go_simp
    refine hK _ _ (hE2.alloc _) (fun hE3 => ?_)
    clear hK K
    try simp only [List.setIfInBounds_toArray, List.set_cons_succ, List.set_cons_zero]
    (refine rg_take (v := ?_) 6 rfl (by kernel_rfl) (by kernel_rfl) (by kernel_rfl) (fun _ _ _ h => h) (by rfl) (by assumption) (fun W hW => ?_) ?_; rotate_left; (focus (go_simp; try with_reducible rfl)); (try simp only [List.setIfInBounds_toArray, List.set_cons_succ, List.set_cons_zero]))
    (refine rg_one 7 (by kernel_rfl) rfl (by rfl) (fun K hK => ?_); go_simp)
    refine hK _ _ (hE3.alloc _) (fun hE4 => ?_)
    clear hK K
    try simp only [List.setIfInBounds_toArray, List.set_cons_succ, List.set_cons_zero]
    (refine rg_take (v := ?_) 8 rfl (by kernel_rfl) (by kernel_rfl) (by kernel_rfl) (fun _ _ _ h => h) (by rfl) (by assumption) (fun W hW => ?_) ?_; rotate_left; (focus (go_simp; try with_reducible rfl)); (try simp only [List.setIfInBounds_toArray, List.set_cons_succ, List.set_cons_zero]))
    refine rg_done (by kernel_rfl) ?_
    have hbs := (Blk.made (w2.alloc (.cells #[] 9)) 4 (.bool false) nn).alloc (.cells #[.int .i64 rt, .slice An nn pn, .slice (some ⟨w2.heap.size + 1, 0, none⟩) nn nn, .bool true, .slice (some ⟨w2.heap.size, 0, none⟩) 0 0] 200)
    rw [World.size_alloc] at hbs
    have hrow := World.ownsRow_lit (base := w.heap.size) (e := 9) (size := 1) w2 #[] 0 (by omega) (by unfold maxLen; omega) rfl
    have hrow2 := own_ext hrow (((Ext.refl _).alloc (.cells (madeCells #[.bool false] nn) 4)).alloc (.cells #[.int .i64 rt, .slice An nn pn, .slice (some ⟨w2.heap.size + 1, 0, none⟩) nn nn, .bool true, .slice (some ⟨w2.heap.size, 0, none⟩) 0 0] 200))
    have hbx := Blk.new ((w2.alloc (.cells #[] 9)).alloc (.cells (madeCells #[.bool false] nn) 4)) 200 [.int .i64 rt, .slice An nn pn, .slice (some ⟨w2.heap.size + 1, 0, none⟩) nn nn, .bool true, .slice (some ⟨w2.heap.size, 0, none⟩) 0 0]
    rw [World.size_alloc, World.size_alloc] at hbx
    have hEw := HE2.out.trans (show Ext w2 (((w2.alloc (.cells #[] 9)).alloc (.cells (madeCells #[.bool false] nn) 4)).alloc (.cells #[.int .i64 rt, .slice An nn pn, .slice (some ⟨w2.heap.size + 1, 0, none⟩) nn nn, .bool true, .slice (some ⟨w2.heap.size, 0, none⟩) 0 0] 200)) from (by repeat (first | exact Ext.refl _ | assumption | refine Ext.alloc ?_ _ | refine Ext.drewN ?_ _ | refine Ext.drew ?_ | refine Ext.set ?_ (by dsimp only; omega) _ | refine Ext.trans ?_ (by assumption))))
    have HT5 := Lib.hid (show TSt 200 4 9 w.heap.size (w2.heap.size + 1 + 1) (w2.heap.size + 1) w w (lkHd rt An nn pn (w2.heap.size + 1) true (.slice (some ⟨w2.heap.size, 0, none⟩) 0 0)) (.slice (some ⟨w2.heap.size, 0, none⟩) 0 0) (List.replicate nn false) [] (((w2.alloc (.cells #[] 9)).alloc (.cells (madeCells #[.bool false] nn) 4)).alloc (.cells #[.int .i64 rt, .slice An nn pn, .slice (some ⟨w2.heap.size + 1, 0, none⟩) nn nn, .bool true, .slice (some ⟨w2.heap.size, 0, none⟩) 0 0] 200)) from
      ⟨by decide, by decide, by decide, Nat.le_refl _, by omega, by omega, hbx, hbs.of_eq (by rw [List.map_replicate]), hrow2, hEw, (TFr.refl _ _ _ _).ext hEw, hEw.le⟩)
    have HBB := Lib.hid (HB2.out.ext (show Ext w2 (((w2.alloc (.cells #[] 9)).alloc (.cells (madeCells #[.bool false] nn) 4)).alloc (.cells #[.int .i64 rt, .slice An nn pn, .slice (some ⟨w2.heap.size + 1, 0, none⟩) nn nn, .bool true, .slice (some ⟨w2.heap.size, 0, none⟩) 0 0] 200)) from (by repeat (first | exact Ext.refl _ | assumption | refine Ext.alloc ?_ _ | refine Ext.drewN ?_ _ | refine Ext.drew ?_ | refine Ext.set ?_ (by dsimp only; omega) _ | refine Ext.trans ?_ (by assumption)))))
    clear hbs hrow hrow2 hbx hEw hE2 hE3 hE4
    generalize (((w2.alloc (.cells #[] 9)).alloc (.cells (madeCells #[.bool false] nn) 4)).alloc (.cells #[.int .i64 rt, .slice An nn pn, .slice (some ⟨w2.heap.size + 1, 0, none⟩) nn nn, .bool true, .slice (some ⟨w2.heap.size, 0, none⟩) 0 0] 200)) = W5 at HT5 HBB ⊢
    generalize w2.heap.size + 1 + 1 = xb at HT5 HBB ⊢
    generalize w2.heap.size + 1 = sb at HT5 HBB ⊢
    generalize w2.heap.size = kb at HT5 HBB ⊢
    revert HT5
    revert HBB
    revert sb
    revert kb
    revert xb
    revert W5
    exact hk.out
  refine Cov.mk ?_
  intro W5 xb kb sb HBB HT5
  obtain ⟨b0, b1⟩ := HBB.out.cells2
  have hC := spec_walk w.heap.size xb sb w rt An nn pn l HL.out (by omega) HX.out HRW.out 201 true rt (List.replicate nn false) [] (.slice (some ⟨kb, 0, none⟩) 0 0) W5 (by rw [unseen_rep]; omega) (by omega) (by simp) (by rw [unseen_rep]; simp; omega) (.inl ⟨rfl, rfl⟩) HT5.out.here
  rw [unseen_rep, HN.out] at hC
  have hlen : ∀ d s q, visit N 201 true rt (List.replicate nn false) [] = some (d, s, q) → s.length = nn := fun d s q h => by have h1 := (visit_gr N 201 true rt _ _ d s q h).len; rw [List.length_replicate] at h1; exact h1
  have HV := Lib.hid (fun (d : Nat) (s : List Bool) (q : List ByteArray) (ok2 okr : Bool) => wk_res (rt := rt) (d := d) (s := s) (q := q) (ok2 := ok2) (okr := okr) HNl.out (by omega) rfl)
  generalize visit N 201 true rt (List.replicate nn false) [] = R at hC hlen HV
  have HC := Lib.hid hC
  have HLEN := Lib.hid hlen
  clear hC hlen
  go_wp2_with fail
  refine HC.out.mono ?_
  rintro e w6 ⟨d, ok2, v2, s2, q2, rfl, hT6, hq3, hq4, hd1, hd2, hP⟩
  obtain ⟨dn, rfl⟩ : ∃ dn : Nat, d = (dn : Int) := ⟨d.toNat, by omega⟩
  rw [Int.toNat_natCast] at hP
  obtain ⟨Av, cav, hv⟩ := hT6.form
  subst hv
  have HT6 := Lib.hid hT6
  have HP := Lib.hid hP
  have HSL := Lib.hid (show ok2 = true → s2.length = nn by
    intro h
    rcases hP with ⟨-, hv⟩ | ⟨h', -⟩
    · exact HLEN.out _ _ _ hv
    · rw [h] at h'; cases h')
  have hq : q2.length ≤ 4000 := by simp at hq4; omega
  have hqI : (q2.length : Int) ≤ 4000 := by omega
  have hnI : (nn : Int) ≤ 200 := by omega
  clear hT6 hq3 hq4 hP b0 b1 hbig
  go_wp2_with fail
  go_loopw [7] (fun iv wr => ∃ (i : Nat) (ok : Bool), i ≤ nn ∧ iv = .int .i64 i ∧ TSt 200 4 9 w.heap.size xb sb w W5 (lkHd rt An nn pn sb ok (.slice Av q2.length cav)) (.slice Av q2.length cav) s2 q2 wr ∧ ok = (ok2 && seenUp s2 i)) (fun iv _ => nn - (intOf iv).toNat)
  case atStart => exact ⟨0, ok2, Nat.zero_le _, rfl, HT6.out, by unfold seenUp; simp⟩
  case round =>
    obtain ⟨i, ok3, hi, rfl, hT, hok⟩ := hrel
    have HT := Lib.hid hT
    have HOK := Lib.hid hok
    obtain ⟨k0, k1, k2, k3, k4⟩ := lk5 hT.bx
    have kf := hT.bx.frozen 3
    by_cases hin : i < nn
    · have hinI : (i : Int) < (nn : Int) := by omega
      rcases ok3 with _ | _
      · clear hT hok
        go_wp2_with fail
        go_roundw
        case rel => exact ⟨i + 1, false, hin, by go_num, HT.out.setV 3 (.bool false) rfl, wk_seen HOK.out⟩
        case measure => simp [intOf]; omega
      · have hok2 : ok2 = true := by rcases ok2 with _ | _; cases hok; rfl
        have hsl := HSL.out hok2
        obtain ⟨b, hb⟩ : ∃ b, s2[i]? = some b := ⟨_, List.getElem?_eq_getElem (by omega)⟩
        have hcell := hT.seen hb
        have HBI := Lib.hid hb
        clear hT hok hsl hb hok2
        go_wp2_with fail
        go_roundw
        case rel => exact ⟨i + 1, b, hin, by go_num, HT.out.setV 3 (.bool b) rfl, wk_step1 HOK.out HBI.out⟩
        case measure => simp [intOf]; omega
    · obtain rfl : nn = i := by omega
      have hin0 : ¬ (nn : Int) < (nn : Int) := by omega
      clear hT hok hi hin kf
      go_wp2_with fail
      rename World => wr1
      clear k0 k1 k2 k3 k4
      go_loopw [8] (fun iv wr => ∃ (i : Nat) (ok : Bool), i ≤ q2.length ∧ iv = .int .i64 i ∧ TSt 200 4 9 w.heap.size xb sb w W5 (lkHd rt An nn pn sb ok (.slice Av q2.length cav)) (.slice Av q2.length cav) s2 q2 wr ∧ ok = (ok3 && keysUp q2 i)) (fun iv _ => q2.length - (intOf iv).toNat)
      case atStart => exact ⟨0, ok3, Nat.zero_le _, rfl, HT.out, by unfold keysUp; simp⟩
      case round =>
        obtain ⟨i, ok, hi, rfl, hT2, hok⟩ := hrel
        have HT2 := Lib.hid hT2
        have HOK2 := Lib.hid hok
        obtain ⟨k0, k1, k2, k3, k4⟩ := lk5 hT2.bx
        have kf := hT2.bx.frozen 3
        by_cases hin : i < q2.length
        · have hinI : (i : Int) < (q2.length : Int) := by omega
          have HIN := Lib.hid hin
          obtain ⟨x, hx⟩ : ∃ x, q2[i]? = some x := ⟨_, List.getElem?_eq_getElem hin⟩
          obtain ⟨g, cg, hv, hcx⟩ := hT2.key hx
          have HXX := Lib.hid hx
          have HKEY := Lib.hid (fun W => spec_l09Key x W)
          have HTG := Lib.hid hT2
          injection hv with hv1 _ hv2
          rcases ok with _ | _
          · clear hT2 hok hv1 hv2 hx
            go_wp2_with fail
            refine rx_start (fun W => Ext wr W) 39 (by kernel_rfl) (Ext.refl wr).drew (fun hS0 => ?_)
            (refine rx_take (v := ?_) 0 rfl (by kernel_rfl) (by kernel_rfl) (by kernel_rfl) (by kernel_rfl) (fun _ _ _ h => h) (by rfl) (by assumption) (fun W hW => ?_) ?_; rotate_left; (focus (go_simp; try with_reducible rfl)); (try simp only [List.setIfInBounds_toArray, List.set_cons_succ, List.set_cons_zero]))
            (refine rx_take (v := ?_) 1 rfl (by kernel_rfl) (by kernel_rfl) (by kernel_rfl) (by kernel_rfl) (fun _ _ _ h => h) (by rfl) (by assumption) (fun W hW => ?_) ?_; rotate_left; (focus (go_simp; try with_reducible rfl)); (try simp only [List.setIfInBounds_toArray, List.set_cons_succ, List.set_cons_zero]))
            (refine rx_take (v := ?_) 2 rfl (by kernel_rfl) (by kernel_rfl) (by kernel_rfl) (by kernel_rfl) (fun _ _ _ h => h) (by rfl) (by assumption) (fun W hW => ?_) ?_; rotate_left; (focus (go_simp; try with_reducible rfl)); (try simp only [List.setIfInBounds_toArray, List.set_cons_succ, List.set_cons_zero]))
            (refine rx_take (v := ?_) 3 rfl (by kernel_rfl) (by kernel_rfl) (by kernel_rfl) (by kernel_rfl) (fun _ _ _ h => h) (by rfl) (by assumption) (fun W hW => ?_) ?_; rotate_left; (focus (go_simp; try with_reducible rfl)); (try simp only [List.setIfInBounds_toArray, List.set_cons_succ, List.set_cons_zero]))
            (refine rx_take (v := ?_) 4 rfl (by kernel_rfl) (by kernel_rfl) (by kernel_rfl) (by kernel_rfl) (fun _ _ _ h => h) (by rfl) (by assumption) (fun W hW => ?_) ?_; rotate_left; (focus (have z0 := hW.cell k3; go_simp; try with_reducible rfl)); (try simp only [List.setIfInBounds_toArray, List.set_cons_succ, List.set_cons_zero]))
            (refine rx_take (v := ?_) 5 rfl (by kernel_rfl) (by kernel_rfl) (by kernel_rfl) (by kernel_rfl) (fun _ _ _ h => h) (by rfl) (by assumption) (fun W hW => ?_) ?_; rotate_left; (focus (go_simp; try with_reducible rfl)); (try simp only [List.setIfInBounds_toArray, List.set_cons_succ, List.set_cons_zero]))
            (refine rx_skip 6 rfl (by kernel_rfl) (by kernel_rfl) (by kernel_rfl) (by kernel_rfl) (fun _ _ _ h => h) (by rfl) (by assumption) ?_; (try simp only [List.setIfInBounds_toArray, List.set_cons_succ, List.set_cons_zero]))
            (refine rx_skip 7 rfl (by kernel_rfl) (by kernel_rfl) (by kernel_rfl) (by kernel_rfl) (fun _ _ _ h => h) (by rfl) (by assumption) ?_; (try simp only [List.setIfInBounds_toArray, List.set_cons_succ, List.set_cons_zero]))
            (refine rx_skip 8 rfl (by kernel_rfl) (by kernel_rfl) (by kernel_rfl) (by kernel_rfl) (fun _ _ _ h => h) (by rfl) (by assumption) ?_; (try simp only [List.setIfInBounds_toArray, List.set_cons_succ, List.set_cons_zero]))
            (refine rx_skip 9 rfl (by kernel_rfl) (by kernel_rfl) (by kernel_rfl) (by kernel_rfl) (fun _ _ _ h => h) (by rfl) (by assumption) ?_; (try simp only [List.setIfInBounds_toArray, List.set_cons_succ, List.set_cons_zero]))
            (refine rx_skip 10 rfl (by kernel_rfl) (by kernel_rfl) (by kernel_rfl) (by kernel_rfl) (fun _ _ _ h => h) (by rfl) (by assumption) ?_; (try simp only [List.setIfInBounds_toArray, List.set_cons_succ, List.set_cons_zero]))
            (refine rx_skip 11 rfl (by kernel_rfl) (by kernel_rfl) (by kernel_rfl) (by kernel_rfl) (fun _ _ _ h => h) (by rfl) (by assumption) ?_; (try simp only [List.setIfInBounds_toArray, List.set_cons_succ, List.set_cons_zero]))
            (refine rx_skip 12 rfl (by kernel_rfl) (by kernel_rfl) (by kernel_rfl) (by kernel_rfl) (fun _ _ _ h => h) (by rfl) (by assumption) ?_; (try simp only [List.setIfInBounds_toArray, List.set_cons_succ, List.set_cons_zero]))
            (refine rx_skip 13 rfl (by kernel_rfl) (by kernel_rfl) (by kernel_rfl) (by kernel_rfl) (fun _ _ _ h => h) (by rfl) (by assumption) ?_; (try simp only [List.setIfInBounds_toArray, List.set_cons_succ, List.set_cons_zero]))
            (refine rx_take (v := ?_) 14 rfl (by kernel_rfl) (by kernel_rfl) (by kernel_rfl) (by kernel_rfl) (fun _ _ _ h => h) (by rfl) (by assumption) (fun W hW => ?_) ?_; rotate_left; (focus (go_simp; try with_reducible rfl)); (try simp only [List.setIfInBounds_toArray, List.set_cons_succ, List.set_cons_zero]))
            (refine rx_take (v := ?_) 15 rfl (by kernel_rfl) (by kernel_rfl) (by kernel_rfl) (by kernel_rfl) (fun _ _ _ h => h) (by rfl) (by assumption) (fun W hW => ?_) ?_; rotate_left; (focus (go_simp; try with_reducible rfl)); (try simp only [List.setIfInBounds_toArray, List.set_cons_succ, List.set_cons_zero]))
            (refine rx_skip 16 rfl (by kernel_rfl) (by kernel_rfl) (by kernel_rfl) (by kernel_rfl) (fun _ _ _ h => h) (by rfl) (by assumption) ?_; (try simp only [List.setIfInBounds_toArray, List.set_cons_succ, List.set_cons_zero]))
            (refine rx_skip 17 rfl (by kernel_rfl) (by kernel_rfl) (by kernel_rfl) (by kernel_rfl) (fun _ _ _ h => h) (by rfl) (by assumption) ?_; (try simp only [List.setIfInBounds_toArray, List.set_cons_succ, List.set_cons_zero]))
            (refine rx_skip 18 rfl (by kernel_rfl) (by kernel_rfl) (by kernel_rfl) (by kernel_rfl) (fun _ _ _ h => h) (by rfl) (by assumption) ?_; (try simp only [List.setIfInBounds_toArray, List.set_cons_succ, List.set_cons_zero]))
            (refine rx_skip 19 rfl (by kernel_rfl) (by kernel_rfl) (by kernel_rfl) (by kernel_rfl) (fun _ _ _ h => h) (by rfl) (by assumption) ?_; (try simp only [List.setIfInBounds_toArray, List.set_cons_succ, List.set_cons_zero]))
            (refine rx_skip 20 rfl (by kernel_rfl) (by kernel_rfl) (by kernel_rfl) (by kernel_rfl) (fun _ _ _ h => h) (by rfl) (by assumption) ?_; (try simp only [List.setIfInBounds_toArray, List.set_cons_succ, List.set_cons_zero]))
            (refine rx_skip 21 rfl (by kernel_rfl) (by kernel_rfl) (by kernel_rfl) (by kernel_rfl) (fun _ _ _ h => h) (by rfl) (by assumption) ?_; (try simp only [List.setIfInBounds_toArray, List.set_cons_succ, List.set_cons_zero]))
            (refine rx_skip 22 rfl (by kernel_rfl) (by kernel_rfl) (by kernel_rfl) (by kernel_rfl) (fun _ _ _ h => h) (by rfl) (by assumption) ?_; (try simp only [List.setIfInBounds_toArray, List.set_cons_succ, List.set_cons_zero]))
            (refine rx_skip 23 rfl (by kernel_rfl) (by kernel_rfl) (by kernel_rfl) (by kernel_rfl) (fun _ _ _ h => h) (by rfl) (by assumption) ?_; (try simp only [List.setIfInBounds_toArray, List.set_cons_succ, List.set_cons_zero]))
            (refine rx_skip 24 rfl (by kernel_rfl) (by kernel_rfl) (by kernel_rfl) (by kernel_rfl) (fun _ _ _ h => h) (by rfl) (by assumption) ?_; (try simp only [List.setIfInBounds_toArray, List.set_cons_succ, List.set_cons_zero]))
            (refine rx_skip 25 rfl (by kernel_rfl) (by kernel_rfl) (by kernel_rfl) (by kernel_rfl) (fun _ _ _ h => h) (by rfl) (by assumption) ?_; (try simp only [List.setIfInBounds_toArray, List.set_cons_succ, List.set_cons_zero]))
            (refine rx_skip 26 rfl (by kernel_rfl) (by kernel_rfl) (by kernel_rfl) (by kernel_rfl) (fun _ _ _ h => h) (by rfl) (by assumption) ?_; (try simp only [List.setIfInBounds_toArray, List.set_cons_succ, List.set_cons_zero]))
            (refine rx_skip 27 rfl (by kernel_rfl) (by kernel_rfl) (by kernel_rfl) (by kernel_rfl) (fun _ _ _ h => h) (by rfl) (by assumption) ?_; (try simp only [List.setIfInBounds_toArray, List.set_cons_succ, List.set_cons_zero]))
            (refine rx_skip 28 rfl (by kernel_rfl) (by kernel_rfl) (by kernel_rfl) (by kernel_rfl) (fun _ _ _ h => h) (by rfl) (by assumption) ?_; (try simp only [List.setIfInBounds_toArray, List.set_cons_succ, List.set_cons_zero]))
            (refine rx_skip 29 rfl (by kernel_rfl) (by kernel_rfl) (by kernel_rfl) (by kernel_rfl) (fun _ _ _ h => h) (by rfl) (by assumption) ?_; (try simp only [List.setIfInBounds_toArray, List.set_cons_succ, List.set_cons_zero]))
            (refine rx_skip 30 rfl (by kernel_rfl) (by kernel_rfl) (by kernel_rfl) (by kernel_rfl) (fun _ _ _ h => h) (by rfl) (by assumption) ?_; (try simp only [List.setIfInBounds_toArray, List.set_cons_succ, List.set_cons_zero]))
            (refine rx_skip 31 rfl (by kernel_rfl) (by kernel_rfl) (by kernel_rfl) (by kernel_rfl) (fun _ _ _ h => h) (by rfl) (by assumption) ?_; (try simp only [List.setIfInBounds_toArray, List.set_cons_succ, List.set_cons_zero]))
            (refine rx_skip 32 rfl (by kernel_rfl) (by kernel_rfl) (by kernel_rfl) (by kernel_rfl) (fun _ _ _ h => h) (by rfl) (by assumption) ?_; (try simp only [List.setIfInBounds_toArray, List.set_cons_succ, List.set_cons_zero]))
            (refine rx_skip 33 rfl (by kernel_rfl) (by kernel_rfl) (by kernel_rfl) (by kernel_rfl) (fun _ _ _ h => h) (by rfl) (by assumption) ?_; (try simp only [List.setIfInBounds_toArray, List.set_cons_succ, List.set_cons_zero]))
            (refine rx_skip 34 rfl (by kernel_rfl) (by kernel_rfl) (by kernel_rfl) (by kernel_rfl) (fun _ _ _ h => h) (by rfl) (by assumption) ?_; (try simp only [List.setIfInBounds_toArray, List.set_cons_succ, List.set_cons_zero]))
            (refine rx_skip 35 rfl (by kernel_rfl) (by kernel_rfl) (by kernel_rfl) (by kernel_rfl) (fun _ _ _ h => h) (by rfl) (by assumption) ?_; (try simp only [List.setIfInBounds_toArray, List.set_cons_succ, List.set_cons_zero]))
            (refine rx_take (v := ?_) 36 rfl (by kernel_rfl) (by kernel_rfl) (by kernel_rfl) (by kernel_rfl) (fun _ _ _ h => h) (by rfl) (by assumption) (fun W hW => ?_) ?_; rotate_left; (focus (go_simp; try with_reducible rfl)); (try simp only [List.setIfInBounds_toArray, List.set_cons_succ, List.set_cons_zero]))
            (refine rx_take2 (v := ?_) 37 38 rfl (by kernel_rfl) (by kernel_rfl) (by kernel_rfl) (by kernel_rfl) (by kernel_rfl) (by kernel_rfl) (fun _ _ _ h => h) (by rfl) (by assumption) (fun W hW => ?_) ?_; rotate_left; (focus (go_simp; try with_reducible rfl)); (try simp only [List.setIfInBounds_toArray, List.set_cons_succ, List.set_cons_zero]))
            (refine rx_take (v := ?_) 38 rfl (by kernel_rfl) (by kernel_rfl) (by kernel_rfl) (by kernel_rfl) (fun _ _ _ h => h) (by rfl) (by assumption) (fun W hW => ?_) ?_; rotate_left; (focus (go_simp; try with_reducible rfl)); (try simp only [List.setIfInBounds_toArray, List.set_cons_succ, List.set_cons_zero]))
            (refine rx_one 39 (by kernel_rfl) rfl (by rfl) (fun K hK => ?_); go_simp)
            refine hK _ _ (.inl rfl) (fun _ => ?_)
            clear hK K
            try simp only [List.setIfInBounds_toArray, List.set_cons_succ, List.set_cons_zero]
            refine rx_done (by kernel_rfl) ?_
            go_wp2_with fail
            go_roundw
            case rel => exact ⟨i + 1, false, HIN.out, by go_num, (HT2.out.setV 3 (.bool false) rfl).ext (Ext.refl _).drew, wk_keys HOK2.out⟩
            case measure => simp [intOf]; have := HIN.out; omega
          · subst hv1; subst hv2
            clear hT2 hok hx
            go_wp2_with fail
            rcases hkb : inB (x.size : Int) 1 30 with _ | _
            · rw [hkb] at HKEY
              have HKB := Lib.hid hkb
              clear hkb
              refine rx_start (fun W => Ext wr W) 39 (by kernel_rfl) (Ext.refl wr).drew (fun hS0 => ?_)
              (refine rx_take (v := ?_) 0 rfl (by kernel_rfl) (by kernel_rfl) (by kernel_rfl) (by kernel_rfl) (fun _ _ _ h => h) (by rfl) (by assumption) (fun W hW => ?_) ?_; rotate_left; (focus (go_simp; try with_reducible rfl)); (try simp only [List.setIfInBounds_toArray, List.set_cons_succ, List.set_cons_zero]))
              (refine rx_take (v := ?_) 1 rfl (by kernel_rfl) (by kernel_rfl) (by kernel_rfl) (by kernel_rfl) (fun _ _ _ h => h) (by rfl) (by assumption) (fun W hW => ?_) ?_; rotate_left; (focus (go_simp; try with_reducible rfl)); (try simp only [List.setIfInBounds_toArray, List.set_cons_succ, List.set_cons_zero]))
              (refine rx_take (v := ?_) 2 rfl (by kernel_rfl) (by kernel_rfl) (by kernel_rfl) (by kernel_rfl) (fun _ _ _ h => h) (by rfl) (by assumption) (fun W hW => ?_) ?_; rotate_left; (focus (go_simp; try with_reducible rfl)); (try simp only [List.setIfInBounds_toArray, List.set_cons_succ, List.set_cons_zero]))
              (refine rx_take (v := ?_) 3 rfl (by kernel_rfl) (by kernel_rfl) (by kernel_rfl) (by kernel_rfl) (fun _ _ _ h => h) (by rfl) (by assumption) (fun W hW => ?_) ?_; rotate_left; (focus (go_simp; try with_reducible rfl)); (try simp only [List.setIfInBounds_toArray, List.set_cons_succ, List.set_cons_zero]))
              (refine rx_take (v := ?_) 4 rfl (by kernel_rfl) (by kernel_rfl) (by kernel_rfl) (by kernel_rfl) (fun _ _ _ h => h) (by rfl) (by assumption) (fun W hW => ?_) ?_; rotate_left; (focus (have z0 := hW.cell k3; have z1 := hW.cell k4; have z2 := hW.cell hcx; go_simp; try with_reducible rfl)); (try simp only [List.setIfInBounds_toArray, List.set_cons_succ, List.set_cons_zero]))
              (refine rx_take (v := ?_) 5 rfl (by kernel_rfl) (by kernel_rfl) (by kernel_rfl) (by kernel_rfl) (fun _ _ _ h => h) (by rfl) (by assumption) (fun W hW => ?_) ?_; rotate_left; (focus (go_simp; try with_reducible rfl)); (try simp only [List.setIfInBounds_toArray, List.set_cons_succ, List.set_cons_zero]))
              (refine rx_take (v := ?_) 6 rfl (by kernel_rfl) (by kernel_rfl) (by kernel_rfl) (by kernel_rfl) (fun _ _ _ h => h) (by rfl) (by assumption) (fun W hW => ?_) ?_; rotate_left; (focus (go_simp; try with_reducible rfl)); (try simp only [List.setIfInBounds_toArray, List.set_cons_succ, List.set_cons_zero]))
              (refine rx_take (v := ?_) 7 rfl (by kernel_rfl) (by kernel_rfl) (by kernel_rfl) (by kernel_rfl) (fun _ _ _ h => h) (by rfl) (by assumption) (fun W hW => ?_) ?_; rotate_left; (focus (go_simp; try with_reducible rfl)); (try simp only [List.setIfInBounds_toArray, List.set_cons_succ, List.set_cons_zero]))
              (refine rx_take (v := ?_) 8 rfl (by kernel_rfl) (by kernel_rfl) (by kernel_rfl) (by kernel_rfl) (fun _ _ _ h => h) (by rfl) (by assumption) (fun W hW => ?_) ?_; rotate_left; (focus (go_simp; try with_reducible rfl)); (try simp only [List.setIfInBounds_toArray, List.set_cons_succ, List.set_cons_zero]))
              (refine rx_take (v := ?_) 9 rfl (by kernel_rfl) (by kernel_rfl) (by kernel_rfl) (by kernel_rfl) (fun _ _ _ h => h) (by rfl) (by assumption) (fun W hW => ?_) ?_; rotate_left; (focus (have z0 := hW.cell k3; have z1 := hW.cell k4; have z2 := hW.cell hcx; go_simp; try with_reducible rfl)); (try simp only [List.setIfInBounds_toArray, List.set_cons_succ, List.set_cons_zero]))
              (refine rx_take (v := ?_) 10 rfl (by kernel_rfl) (by kernel_rfl) (by kernel_rfl) (by kernel_rfl) (fun _ _ _ h => h) (by rfl) (by assumption) (fun W hW => ?_) ?_; rotate_left; (focus (go_simp; try with_reducible rfl)); (try simp only [List.setIfInBounds_toArray, List.set_cons_succ, List.set_cons_zero]))
              (refine rx_take (v := ?_) 11 rfl (by kernel_rfl) (by kernel_rfl) (by kernel_rfl) (by kernel_rfl) (fun _ _ _ h => h) (by rfl) (by assumption) (fun W hW => ?_) ?_; rotate_left; (focus (go_simp; try with_reducible rfl)); (try simp only [List.setIfInBounds_toArray, List.set_cons_succ, List.set_cons_zero]))
              (refine rx_take (v := ?_) 12 rfl (by kernel_rfl) (by kernel_rfl) (by kernel_rfl) (by kernel_rfl) (fun _ _ _ h => h) (by rfl) (by assumption) (fun W hW => ?_) ?_; rotate_left; (focus (have z0 := hW.cell k3; have z1 := hW.cell k4; have z2 := hW.cell hcx; go_simp; try with_reducible rfl)); (try simp only [List.setIfInBounds_toArray, List.set_cons_succ, List.set_cons_zero]))
              (refine rx_one 13 (by kernel_rfl) rfl (by rfl) (fun K hK => ?_); go_simp)
              refine (HKEY.out _).mono ?_
              rintro e w9 ⟨rfl, rfl⟩
              refine hK _ _ (.inr hS0) (fun _ => ?_)
              clear hK K
              try simp only [List.setIfInBounds_toArray, List.set_cons_succ, List.set_cons_zero]
              (refine rx_take (v := ?_) 14 rfl (by kernel_rfl) (by kernel_rfl) (by kernel_rfl) (by kernel_rfl) (fun _ _ _ h => h) (by rfl) (by assumption) (fun W hW => ?_) ?_; rotate_left; (focus (go_simp; try with_reducible rfl)); (try simp only [List.setIfInBounds_toArray, List.set_cons_succ, List.set_cons_zero]))
              (refine rx_take (v := ?_) 15 rfl (by kernel_rfl) (by kernel_rfl) (by kernel_rfl) (by kernel_rfl) (fun _ _ _ h => h) (by rfl) (by assumption) (fun W hW => ?_) ?_; rotate_left; (focus (go_simp; try with_reducible rfl)); (try simp only [List.setIfInBounds_toArray, List.set_cons_succ, List.set_cons_zero]))
              (refine rx_skip 16 rfl (by kernel_rfl) (by kernel_rfl) (by kernel_rfl) (by kernel_rfl) (fun _ _ _ h => h) (by rfl) (by assumption) ?_; (try simp only [List.setIfInBounds_toArray, List.set_cons_succ, List.set_cons_zero]))
              (refine rx_skip 17 rfl (by kernel_rfl) (by kernel_rfl) (by kernel_rfl) (by kernel_rfl) (fun _ _ _ h => h) (by rfl) (by assumption) ?_; (try simp only [List.setIfInBounds_toArray, List.set_cons_succ, List.set_cons_zero]))
              (refine rx_skip 18 rfl (by kernel_rfl) (by kernel_rfl) (by kernel_rfl) (by kernel_rfl) (fun _ _ _ h => h) (by rfl) (by assumption) ?_; (try simp only [List.setIfInBounds_toArray, List.set_cons_succ, List.set_cons_zero]))
              (refine rx_skip 19 rfl (by kernel_rfl) (by kernel_rfl) (by kernel_rfl) (by kernel_rfl) (fun _ _ _ h => h) (by rfl) (by assumption) ?_; (try simp only [List.setIfInBounds_toArray, List.set_cons_succ, List.set_cons_zero]))
              (refine rx_skip 20 rfl (by kernel_rfl) (by kernel_rfl) (by kernel_rfl) (by kernel_rfl) (fun _ _ _ h => h) (by rfl) (by assumption) ?_; (try simp only [List.setIfInBounds_toArray, List.set_cons_succ, List.set_cons_zero]))
              (refine rx_skip 21 rfl (by kernel_rfl) (by kernel_rfl) (by kernel_rfl) (by kernel_rfl) (fun _ _ _ h => h) (by rfl) (by assumption) ?_; (try simp only [List.setIfInBounds_toArray, List.set_cons_succ, List.set_cons_zero]))
              (refine rx_skip 22 rfl (by kernel_rfl) (by kernel_rfl) (by kernel_rfl) (by kernel_rfl) (fun _ _ _ h => h) (by rfl) (by assumption) ?_; (try simp only [List.setIfInBounds_toArray, List.set_cons_succ, List.set_cons_zero]))
              (refine rx_skip 23 rfl (by kernel_rfl) (by kernel_rfl) (by kernel_rfl) (by kernel_rfl) (fun _ _ _ h => h) (by rfl) (by assumption) ?_; (try simp only [List.setIfInBounds_toArray, List.set_cons_succ, List.set_cons_zero]))
              (refine rx_skip 24 rfl (by kernel_rfl) (by kernel_rfl) (by kernel_rfl) (by kernel_rfl) (fun _ _ _ h => h) (by rfl) (by assumption) ?_; (try simp only [List.setIfInBounds_toArray, List.set_cons_succ, List.set_cons_zero]))
              (refine rx_skip 25 rfl (by kernel_rfl) (by kernel_rfl) (by kernel_rfl) (by kernel_rfl) (fun _ _ _ h => h) (by rfl) (by assumption) ?_; (try simp only [List.setIfInBounds_toArray, List.set_cons_succ, List.set_cons_zero]))
              (refine rx_skip 26 rfl (by kernel_rfl) (by kernel_rfl) (by kernel_rfl) (by kernel_rfl) (fun _ _ _ h => h) (by rfl) (by assumption) ?_; (try simp only [List.setIfInBounds_toArray, List.set_cons_succ, List.set_cons_zero]))
              (refine rx_skip 27 rfl (by kernel_rfl) (by kernel_rfl) (by kernel_rfl) (by kernel_rfl) (fun _ _ _ h => h) (by rfl) (by assumption) ?_; (try simp only [List.setIfInBounds_toArray, List.set_cons_succ, List.set_cons_zero]))
              (refine rx_skip 28 rfl (by kernel_rfl) (by kernel_rfl) (by kernel_rfl) (by kernel_rfl) (fun _ _ _ h => h) (by rfl) (by assumption) ?_; (try simp only [List.setIfInBounds_toArray, List.set_cons_succ, List.set_cons_zero]))
              (refine rx_skip 29 rfl (by kernel_rfl) (by kernel_rfl) (by kernel_rfl) (by kernel_rfl) (fun _ _ _ h => h) (by rfl) (by assumption) ?_; (try simp only [List.setIfInBounds_toArray, List.set_cons_succ, List.set_cons_zero]))
              (refine rx_skip 30 rfl (by kernel_rfl) (by kernel_rfl) (by kernel_rfl) (by kernel_rfl) (fun _ _ _ h => h) (by rfl) (by assumption) ?_; (try simp only [List.setIfInBounds_toArray, List.set_cons_succ, List.set_cons_zero]))
              (refine rx_skip 31 rfl (by kernel_rfl) (by kernel_rfl) (by kernel_rfl) (by kernel_rfl) (fun _ _ _ h => h) (by rfl) (by assumption) ?_; (try simp only [List.setIfInBounds_toArray, List.set_cons_succ, List.set_cons_zero]))
              (refine rx_skip 32 rfl (by kernel_rfl) (by kernel_rfl) (by kernel_rfl) (by kernel_rfl) (fun _ _ _ h => h) (by rfl) (by assumption) ?_; (try simp only [List.setIfInBounds_toArray, List.set_cons_succ, List.set_cons_zero]))
              (refine rx_skip 33 rfl (by kernel_rfl) (by kernel_rfl) (by kernel_rfl) (by kernel_rfl) (fun _ _ _ h => h) (by rfl) (by assumption) ?_; (try simp only [List.setIfInBounds_toArray, List.set_cons_succ, List.set_cons_zero]))
              (refine rx_skip 34 rfl (by kernel_rfl) (by kernel_rfl) (by kernel_rfl) (by kernel_rfl) (fun _ _ _ h => h) (by rfl) (by assumption) ?_; (try simp only [List.setIfInBounds_toArray, List.set_cons_succ, List.set_cons_zero]))
              (refine rx_skip 35 rfl (by kernel_rfl) (by kernel_rfl) (by kernel_rfl) (by kernel_rfl) (fun _ _ _ h => h) (by rfl) (by assumption) ?_; (try simp only [List.setIfInBounds_toArray, List.set_cons_succ, List.set_cons_zero]))
              (refine rx_take (v := ?_) 36 rfl (by kernel_rfl) (by kernel_rfl) (by kernel_rfl) (by kernel_rfl) (fun _ _ _ h => h) (by rfl) (by assumption) (fun W hW => ?_) ?_; rotate_left; (focus (go_simp; try with_reducible rfl)); (try simp only [List.setIfInBounds_toArray, List.set_cons_succ, List.set_cons_zero]))
              (refine rx_take2 (v := ?_) 37 38 rfl (by kernel_rfl) (by kernel_rfl) (by kernel_rfl) (by kernel_rfl) (by kernel_rfl) (by kernel_rfl) (fun _ _ _ h => h) (by rfl) (by assumption) (fun W hW => ?_) ?_; rotate_left; (focus (go_simp; try with_reducible rfl)); (try simp only [List.setIfInBounds_toArray, List.set_cons_succ, List.set_cons_zero]))
              (refine rx_take (v := ?_) 38 rfl (by kernel_rfl) (by kernel_rfl) (by kernel_rfl) (by kernel_rfl) (fun _ _ _ h => h) (by rfl) (by assumption) (fun W hW => ?_) ?_; rotate_left; (focus (go_simp; try with_reducible rfl)); (try simp only [List.setIfInBounds_toArray, List.set_cons_succ, List.set_cons_zero]))
              (refine rx_one 39 (by kernel_rfl) rfl (by rfl) (fun K hK => ?_); go_simp)
              refine hK _ _ (.inl rfl) (fun _ => ?_)
              clear hK K
              try simp only [List.setIfInBounds_toArray, List.set_cons_succ, List.set_cons_zero]
              refine rx_done (by kernel_rfl) ?_
              go_wp2_with fail
              go_roundw
              case rel => exact ⟨i + 1, false, HIN.out, by go_num, (HT2.out.setV 3 (.bool false) rfl).ext (Ext.refl _).drew, wk_step HOK2.out (keyAt_bad HXX.out HKB.out)⟩
              case measure => simp [intOf]; have := HIN.out; omega
            · rw [hkb] at HKEY
              have HKB := Lib.hid hkb
              clear hkb
              rcases Nat.eq_zero_or_pos i with hi0 | hi0
              · subst hi0
                refine rx_start (fun W => Ext wr W) 39 (by kernel_rfl) (Ext.refl wr).drew (fun hS0 => ?_)
                (refine rx_take (v := ?_) 0 rfl (by kernel_rfl) (by kernel_rfl) (by kernel_rfl) (by kernel_rfl) (fun _ _ _ h => h) (by rfl) (by assumption) (fun W hW => ?_) ?_; rotate_left; (focus (go_simp; try with_reducible rfl)); (try simp only [List.setIfInBounds_toArray, List.set_cons_succ, List.set_cons_zero]))
                (refine rx_take (v := ?_) 1 rfl (by kernel_rfl) (by kernel_rfl) (by kernel_rfl) (by kernel_rfl) (fun _ _ _ h => h) (by rfl) (by assumption) (fun W hW => ?_) ?_; rotate_left; (focus (go_simp; try with_reducible rfl)); (try simp only [List.setIfInBounds_toArray, List.set_cons_succ, List.set_cons_zero]))
                (refine rx_take (v := ?_) 2 rfl (by kernel_rfl) (by kernel_rfl) (by kernel_rfl) (by kernel_rfl) (fun _ _ _ h => h) (by rfl) (by assumption) (fun W hW => ?_) ?_; rotate_left; (focus (go_simp; try with_reducible rfl)); (try simp only [List.setIfInBounds_toArray, List.set_cons_succ, List.set_cons_zero]))
                (refine rx_take (v := ?_) 3 rfl (by kernel_rfl) (by kernel_rfl) (by kernel_rfl) (by kernel_rfl) (fun _ _ _ h => h) (by rfl) (by assumption) (fun W hW => ?_) ?_; rotate_left; (focus (go_simp; try with_reducible rfl)); (try simp only [List.setIfInBounds_toArray, List.set_cons_succ, List.set_cons_zero]))
                (refine rx_take (v := ?_) 4 rfl (by kernel_rfl) (by kernel_rfl) (by kernel_rfl) (by kernel_rfl) (fun _ _ _ h => h) (by rfl) (by assumption) (fun W hW => ?_) ?_; rotate_left; (focus (have z0 := hW.cell k3; have z1 := hW.cell k4; have z2 := hW.cell hcx; go_simp; try with_reducible rfl)); (try simp only [List.setIfInBounds_toArray, List.set_cons_succ, List.set_cons_zero]))
                (refine rx_take (v := ?_) 5 rfl (by kernel_rfl) (by kernel_rfl) (by kernel_rfl) (by kernel_rfl) (fun _ _ _ h => h) (by rfl) (by assumption) (fun W hW => ?_) ?_; rotate_left; (focus (go_simp; try with_reducible rfl)); (try simp only [List.setIfInBounds_toArray, List.set_cons_succ, List.set_cons_zero]))
                (refine rx_take (v := ?_) 6 rfl (by kernel_rfl) (by kernel_rfl) (by kernel_rfl) (by kernel_rfl) (fun _ _ _ h => h) (by rfl) (by assumption) (fun W hW => ?_) ?_; rotate_left; (focus (go_simp; try with_reducible rfl)); (try simp only [List.setIfInBounds_toArray, List.set_cons_succ, List.set_cons_zero]))
                (refine rx_take (v := ?_) 7 rfl (by kernel_rfl) (by kernel_rfl) (by kernel_rfl) (by kernel_rfl) (fun _ _ _ h => h) (by rfl) (by assumption) (fun W hW => ?_) ?_; rotate_left; (focus (go_simp; try with_reducible rfl)); (try simp only [List.setIfInBounds_toArray, List.set_cons_succ, List.set_cons_zero]))
                (refine rx_take (v := ?_) 8 rfl (by kernel_rfl) (by kernel_rfl) (by kernel_rfl) (by kernel_rfl) (fun _ _ _ h => h) (by rfl) (by assumption) (fun W hW => ?_) ?_; rotate_left; (focus (go_simp; try with_reducible rfl)); (try simp only [List.setIfInBounds_toArray, List.set_cons_succ, List.set_cons_zero]))
                (refine rx_take (v := ?_) 9 rfl (by kernel_rfl) (by kernel_rfl) (by kernel_rfl) (by kernel_rfl) (fun _ _ _ h => h) (by rfl) (by assumption) (fun W hW => ?_) ?_; rotate_left; (focus (have z0 := hW.cell k3; have z1 := hW.cell k4; have z2 := hW.cell hcx; go_simp; try with_reducible rfl)); (try simp only [List.setIfInBounds_toArray, List.set_cons_succ, List.set_cons_zero]))
                (refine rx_take (v := ?_) 10 rfl (by kernel_rfl) (by kernel_rfl) (by kernel_rfl) (by kernel_rfl) (fun _ _ _ h => h) (by rfl) (by assumption) (fun W hW => ?_) ?_; rotate_left; (focus (go_simp; try with_reducible rfl)); (try simp only [List.setIfInBounds_toArray, List.set_cons_succ, List.set_cons_zero]))
                (refine rx_take (v := ?_) 11 rfl (by kernel_rfl) (by kernel_rfl) (by kernel_rfl) (by kernel_rfl) (fun _ _ _ h => h) (by rfl) (by assumption) (fun W hW => ?_) ?_; rotate_left; (focus (go_simp; try with_reducible rfl)); (try simp only [List.setIfInBounds_toArray, List.set_cons_succ, List.set_cons_zero]))
                (refine rx_take (v := ?_) 12 rfl (by kernel_rfl) (by kernel_rfl) (by kernel_rfl) (by kernel_rfl) (fun _ _ _ h => h) (by rfl) (by assumption) (fun W hW => ?_) ?_; rotate_left; (focus (have z0 := hW.cell k3; have z1 := hW.cell k4; have z2 := hW.cell hcx; go_simp; try with_reducible rfl)); (try simp only [List.setIfInBounds_toArray, List.set_cons_succ, List.set_cons_zero]))
                (refine rx_one 13 (by kernel_rfl) rfl (by rfl) (fun K hK => ?_); go_simp)
                refine (HKEY.out _).mono ?_
                rintro e w9 ⟨rfl, rfl⟩
                refine hK _ _ (.inr hS0) (fun _ => ?_)
                clear hK K
                try simp only [List.setIfInBounds_toArray, List.set_cons_succ, List.set_cons_zero]
                (refine rx_take (v := ?_) 14 rfl (by kernel_rfl) (by kernel_rfl) (by kernel_rfl) (by kernel_rfl) (fun _ _ _ h => h) (by rfl) (by assumption) (fun W hW => ?_) ?_; rotate_left; (focus (go_simp; try with_reducible rfl)); (try simp only [List.setIfInBounds_toArray, List.set_cons_succ, List.set_cons_zero]))
                (refine rx_take (v := ?_) 15 rfl (by kernel_rfl) (by kernel_rfl) (by kernel_rfl) (by kernel_rfl) (fun _ _ _ h => h) (by rfl) (by assumption) (fun W hW => ?_) ?_; rotate_left; (focus (go_simp; try with_reducible rfl)); (try simp only [List.setIfInBounds_toArray, List.set_cons_succ, List.set_cons_zero]))
                (refine rx_take (v := ?_) 16 rfl (by kernel_rfl) (by kernel_rfl) (by kernel_rfl) (by kernel_rfl) (fun _ _ _ h => h) (by rfl) (by assumption) (fun W hW => ?_) ?_; rotate_left; (focus (go_simp; try with_reducible rfl)); (try simp only [List.setIfInBounds_toArray, List.set_cons_succ, List.set_cons_zero]))
                (refine rx_take (v := ?_) 17 rfl (by kernel_rfl) (by kernel_rfl) (by kernel_rfl) (by kernel_rfl) (fun _ _ _ h => h) (by rfl) (by assumption) (fun W hW => ?_) ?_; rotate_left; (focus (go_simp; try with_reducible rfl)); (try simp only [List.setIfInBounds_toArray, List.set_cons_succ, List.set_cons_zero]))
                (refine rx_take (v := ?_) 18 rfl (by kernel_rfl) (by kernel_rfl) (by kernel_rfl) (by kernel_rfl) (fun _ _ _ h => h) (by rfl) (by assumption) (fun W hW => ?_) ?_; rotate_left; (focus (go_simp; try with_reducible rfl)); (try simp only [List.setIfInBounds_toArray, List.set_cons_succ, List.set_cons_zero]))
                (refine rx_skip 19 rfl (by kernel_rfl) (by kernel_rfl) (by kernel_rfl) (by kernel_rfl) (fun _ _ _ h => h) (by rfl) (by assumption) ?_; (try simp only [List.setIfInBounds_toArray, List.set_cons_succ, List.set_cons_zero]))
                (refine rx_skip 20 rfl (by kernel_rfl) (by kernel_rfl) (by kernel_rfl) (by kernel_rfl) (fun _ _ _ h => h) (by rfl) (by assumption) ?_; (try simp only [List.setIfInBounds_toArray, List.set_cons_succ, List.set_cons_zero]))
                (refine rx_skip 21 rfl (by kernel_rfl) (by kernel_rfl) (by kernel_rfl) (by kernel_rfl) (fun _ _ _ h => h) (by rfl) (by assumption) ?_; (try simp only [List.setIfInBounds_toArray, List.set_cons_succ, List.set_cons_zero]))
                (refine rx_skip 22 rfl (by kernel_rfl) (by kernel_rfl) (by kernel_rfl) (by kernel_rfl) (fun _ _ _ h => h) (by rfl) (by assumption) ?_; (try simp only [List.setIfInBounds_toArray, List.set_cons_succ, List.set_cons_zero]))
                (refine rx_skip 23 rfl (by kernel_rfl) (by kernel_rfl) (by kernel_rfl) (by kernel_rfl) (fun _ _ _ h => h) (by rfl) (by assumption) ?_; (try simp only [List.setIfInBounds_toArray, List.set_cons_succ, List.set_cons_zero]))
                (refine rx_skip 24 rfl (by kernel_rfl) (by kernel_rfl) (by kernel_rfl) (by kernel_rfl) (fun _ _ _ h => h) (by rfl) (by assumption) ?_; (try simp only [List.setIfInBounds_toArray, List.set_cons_succ, List.set_cons_zero]))
                (refine rx_skip 25 rfl (by kernel_rfl) (by kernel_rfl) (by kernel_rfl) (by kernel_rfl) (fun _ _ _ h => h) (by rfl) (by assumption) ?_; (try simp only [List.setIfInBounds_toArray, List.set_cons_succ, List.set_cons_zero]))
                (refine rx_skip 26 rfl (by kernel_rfl) (by kernel_rfl) (by kernel_rfl) (by kernel_rfl) (fun _ _ _ h => h) (by rfl) (by assumption) ?_; (try simp only [List.setIfInBounds_toArray, List.set_cons_succ, List.set_cons_zero]))
                (refine rx_skip 27 rfl (by kernel_rfl) (by kernel_rfl) (by kernel_rfl) (by kernel_rfl) (fun _ _ _ h => h) (by rfl) (by assumption) ?_; (try simp only [List.setIfInBounds_toArray, List.set_cons_succ, List.set_cons_zero]))
                (refine rx_skip 28 rfl (by kernel_rfl) (by kernel_rfl) (by kernel_rfl) (by kernel_rfl) (fun _ _ _ h => h) (by rfl) (by assumption) ?_; (try simp only [List.setIfInBounds_toArray, List.set_cons_succ, List.set_cons_zero]))
                (refine rx_skip 29 rfl (by kernel_rfl) (by kernel_rfl) (by kernel_rfl) (by kernel_rfl) (fun _ _ _ h => h) (by rfl) (by assumption) ?_; (try simp only [List.setIfInBounds_toArray, List.set_cons_succ, List.set_cons_zero]))
                (refine rx_skip 30 rfl (by kernel_rfl) (by kernel_rfl) (by kernel_rfl) (by kernel_rfl) (fun _ _ _ h => h) (by rfl) (by assumption) ?_; (try simp only [List.setIfInBounds_toArray, List.set_cons_succ, List.set_cons_zero]))
                (refine rx_skip 31 rfl (by kernel_rfl) (by kernel_rfl) (by kernel_rfl) (by kernel_rfl) (fun _ _ _ h => h) (by rfl) (by assumption) ?_; (try simp only [List.setIfInBounds_toArray, List.set_cons_succ, List.set_cons_zero]))
                (refine rx_skip 32 rfl (by kernel_rfl) (by kernel_rfl) (by kernel_rfl) (by kernel_rfl) (fun _ _ _ h => h) (by rfl) (by assumption) ?_; (try simp only [List.setIfInBounds_toArray, List.set_cons_succ, List.set_cons_zero]))
                (refine rx_skip 33 rfl (by kernel_rfl) (by kernel_rfl) (by kernel_rfl) (by kernel_rfl) (fun _ _ _ h => h) (by rfl) (by assumption) ?_; (try simp only [List.setIfInBounds_toArray, List.set_cons_succ, List.set_cons_zero]))
                (refine rx_skip 34 rfl (by kernel_rfl) (by kernel_rfl) (by kernel_rfl) (by kernel_rfl) (fun _ _ _ h => h) (by rfl) (by assumption) ?_; (try simp only [List.setIfInBounds_toArray, List.set_cons_succ, List.set_cons_zero]))
                (refine rx_take (v := ?_) 35 rfl (by kernel_rfl) (by kernel_rfl) (by kernel_rfl) (by kernel_rfl) (fun _ _ _ h => h) (by rfl) (by assumption) (fun W hW => ?_) ?_; rotate_left; (focus (go_simp; try with_reducible rfl)); (try simp only [List.setIfInBounds_toArray, List.set_cons_succ, List.set_cons_zero]))
                (refine rx_take (v := ?_) 36 rfl (by kernel_rfl) (by kernel_rfl) (by kernel_rfl) (by kernel_rfl) (fun _ _ _ h => h) (by rfl) (by assumption) (fun W hW => ?_) ?_; rotate_left; (focus (go_simp; try with_reducible rfl)); (try simp only [List.setIfInBounds_toArray, List.set_cons_succ, List.set_cons_zero]))
                (refine rx_take2 (v := ?_) 37 38 rfl (by kernel_rfl) (by kernel_rfl) (by kernel_rfl) (by kernel_rfl) (by kernel_rfl) (by kernel_rfl) (fun _ _ _ h => h) (by rfl) (by assumption) (fun W hW => ?_) ?_; rotate_left; (focus (go_simp; try with_reducible rfl)); (try simp only [List.setIfInBounds_toArray, List.set_cons_succ, List.set_cons_zero]))
                (refine rx_take (v := ?_) 38 rfl (by kernel_rfl) (by kernel_rfl) (by kernel_rfl) (by kernel_rfl) (fun _ _ _ h => h) (by rfl) (by assumption) (fun W hW => ?_) ?_; rotate_left; (focus (go_simp; try with_reducible rfl)); (try simp only [List.setIfInBounds_toArray, List.set_cons_succ, List.set_cons_zero]))
                (refine rx_one 39 (by kernel_rfl) rfl (by rfl) (fun K hK => ?_); go_simp)
                refine hK _ _ (.inl rfl) (fun _ => ?_)
                clear hK K
                try simp only [List.setIfInBounds_toArray, List.set_cons_succ, List.set_cons_zero]
                refine rx_done (by kernel_rfl) ?_
                go_wp2_with fail
                go_roundw
                case rel => exact ⟨1, true, HIN.out, by go_num, (HT2.out.setV 3 (.bool true) rfl).ext (Ext.refl _).drew, wk_step HOK2.out ((keyAt_zero HXX.out).trans HKB.out)⟩
                case measure => simp [intOf]; have := HIN.out; omega
              · obtain ⟨j, hj⟩ : ∃ j, i = j + 1 := ⟨i - 1, by omega⟩
                have HJ := Lib.hid hj
                have hgt : ((i : Int) == 0) = false := by rw [beq_eq_false_iff_ne]; omega
                have hjn : j < q2.length := by omega
                have hjI : (j : Int) < (q2.length : Int) := by omega
                have hw1 : IntKind.i64.wrap ((i : Int) - 1) = (j : Int) := by
                  have he : (i : Int) - 1 = (j : Int) := by omega
                  rw [he]; exact IntWalk.i64_in _ (by omega)
                obtain ⟨y, hy⟩ : ∃ y, q2[j]? = some y := ⟨_, List.getElem?_eq_getElem hjn⟩
                obtain ⟨g2, cg2, hv3, hcy⟩ := HT2.out.key hy
                injection hv3 with hv3 _ _
                injection hv3 with hv3
                injection hv3 with hv3 _ _
                subst hv3
                have HY := Lib.hid hy
                have HKA := Lib.hid (show keyAt q2 i = Op.bytesLess y.toList x.toList by have h1 := HXX.out; rw [hj] at h1 ⊢; exact keyAt_succ h1 hy HKB.out)
                clear hj hy hi0
                refine rx_start (fun W => Ext wr W) 39 (by kernel_rfl) (Ext.refl wr).drew (fun hS0 => ?_)
                (refine rx_take (v := ?_) 0 rfl (by kernel_rfl) (by kernel_rfl) (by kernel_rfl) (by kernel_rfl) (fun _ _ _ h => h) (by rfl) (by assumption) (fun W hW => ?_) ?_; rotate_left; (focus (go_simp; try with_reducible rfl)); (try simp only [List.setIfInBounds_toArray, List.set_cons_succ, List.set_cons_zero]))
                (refine rx_take (v := ?_) 1 rfl (by kernel_rfl) (by kernel_rfl) (by kernel_rfl) (by kernel_rfl) (fun _ _ _ h => h) (by rfl) (by assumption) (fun W hW => ?_) ?_; rotate_left; (focus (go_simp; try with_reducible rfl)); (try simp only [List.setIfInBounds_toArray, List.set_cons_succ, List.set_cons_zero]))
                (refine rx_take (v := ?_) 2 rfl (by kernel_rfl) (by kernel_rfl) (by kernel_rfl) (by kernel_rfl) (fun _ _ _ h => h) (by rfl) (by assumption) (fun W hW => ?_) ?_; rotate_left; (focus (go_simp; try with_reducible rfl)); (try simp only [List.setIfInBounds_toArray, List.set_cons_succ, List.set_cons_zero]))
                (refine rx_take (v := ?_) 3 rfl (by kernel_rfl) (by kernel_rfl) (by kernel_rfl) (by kernel_rfl) (fun _ _ _ h => h) (by rfl) (by assumption) (fun W hW => ?_) ?_; rotate_left; (focus (go_simp; try with_reducible rfl)); (try simp only [List.setIfInBounds_toArray, List.set_cons_succ, List.set_cons_zero]))
                (refine rx_take (v := ?_) 4 rfl (by kernel_rfl) (by kernel_rfl) (by kernel_rfl) (by kernel_rfl) (fun _ _ _ h => h) (by rfl) (by assumption) (fun W hW => ?_) ?_; rotate_left; (focus (have z0 := hW.cell k3; have z1 := hW.cell k4; have z2 := hW.cell hcx; go_simp; try with_reducible rfl)); (try simp only [List.setIfInBounds_toArray, List.set_cons_succ, List.set_cons_zero]))
                (refine rx_take (v := ?_) 5 rfl (by kernel_rfl) (by kernel_rfl) (by kernel_rfl) (by kernel_rfl) (fun _ _ _ h => h) (by rfl) (by assumption) (fun W hW => ?_) ?_; rotate_left; (focus (go_simp; try with_reducible rfl)); (try simp only [List.setIfInBounds_toArray, List.set_cons_succ, List.set_cons_zero]))
                (refine rx_take (v := ?_) 6 rfl (by kernel_rfl) (by kernel_rfl) (by kernel_rfl) (by kernel_rfl) (fun _ _ _ h => h) (by rfl) (by assumption) (fun W hW => ?_) ?_; rotate_left; (focus (go_simp; try with_reducible rfl)); (try simp only [List.setIfInBounds_toArray, List.set_cons_succ, List.set_cons_zero]))
                (refine rx_take (v := ?_) 7 rfl (by kernel_rfl) (by kernel_rfl) (by kernel_rfl) (by kernel_rfl) (fun _ _ _ h => h) (by rfl) (by assumption) (fun W hW => ?_) ?_; rotate_left; (focus (go_simp; try with_reducible rfl)); (try simp only [List.setIfInBounds_toArray, List.set_cons_succ, List.set_cons_zero]))
                (refine rx_take (v := ?_) 8 rfl (by kernel_rfl) (by kernel_rfl) (by kernel_rfl) (by kernel_rfl) (fun _ _ _ h => h) (by rfl) (by assumption) (fun W hW => ?_) ?_; rotate_left; (focus (go_simp; try with_reducible rfl)); (try simp only [List.setIfInBounds_toArray, List.set_cons_succ, List.set_cons_zero]))
                (refine rx_take (v := ?_) 9 rfl (by kernel_rfl) (by kernel_rfl) (by kernel_rfl) (by kernel_rfl) (fun _ _ _ h => h) (by rfl) (by assumption) (fun W hW => ?_) ?_; rotate_left; (focus (have z0 := hW.cell k3; have z1 := hW.cell k4; have z2 := hW.cell hcx; go_simp; try with_reducible rfl)); (try simp only [List.setIfInBounds_toArray, List.set_cons_succ, List.set_cons_zero]))
                (refine rx_take (v := ?_) 10 rfl (by kernel_rfl) (by kernel_rfl) (by kernel_rfl) (by kernel_rfl) (fun _ _ _ h => h) (by rfl) (by assumption) (fun W hW => ?_) ?_; rotate_left; (focus (go_simp; try with_reducible rfl)); (try simp only [List.setIfInBounds_toArray, List.set_cons_succ, List.set_cons_zero]))
                (refine rx_take (v := ?_) 11 rfl (by kernel_rfl) (by kernel_rfl) (by kernel_rfl) (by kernel_rfl) (fun _ _ _ h => h) (by rfl) (by assumption) (fun W hW => ?_) ?_; rotate_left; (focus (go_simp; try with_reducible rfl)); (try simp only [List.setIfInBounds_toArray, List.set_cons_succ, List.set_cons_zero]))
                (refine rx_take (v := ?_) 12 rfl (by kernel_rfl) (by kernel_rfl) (by kernel_rfl) (by kernel_rfl) (fun _ _ _ h => h) (by rfl) (by assumption) (fun W hW => ?_) ?_; rotate_left; (focus (have z0 := hW.cell k3; have z1 := hW.cell k4; have z2 := hW.cell hcx; go_simp; try with_reducible rfl)); (try simp only [List.setIfInBounds_toArray, List.set_cons_succ, List.set_cons_zero]))
                (refine rx_one 13 (by kernel_rfl) rfl (by rfl) (fun K hK => ?_); go_simp)
                refine (HKEY.out _).mono ?_
                rintro e w9 ⟨rfl, rfl⟩
                refine hK _ _ (.inr hS0) (fun _ => ?_)
                clear hK K
                try simp only [List.setIfInBounds_toArray, List.set_cons_succ, List.set_cons_zero]
                (refine rx_take (v := ?_) 14 rfl (by kernel_rfl) (by kernel_rfl) (by kernel_rfl) (by kernel_rfl) (fun _ _ _ h => h) (by rfl) (by assumption) (fun W hW => ?_) ?_; rotate_left; (focus (go_simp; try with_reducible rfl)); (try simp only [List.setIfInBounds_toArray, List.set_cons_succ, List.set_cons_zero]))
                (refine rx_take (v := ?_) 15 rfl (by kernel_rfl) (by kernel_rfl) (by kernel_rfl) (by kernel_rfl) (fun _ _ _ h => h) (by rfl) (by assumption) (fun W hW => ?_) ?_; rotate_left; (focus (go_simp; try with_reducible rfl)); (try simp only [List.setIfInBounds_toArray, List.set_cons_succ, List.set_cons_zero]))
                (refine rx_take (v := ?_) 16 rfl (by kernel_rfl) (by kernel_rfl) (by kernel_rfl) (by kernel_rfl) (fun _ _ _ h => h) (by rfl) (by assumption) (fun W hW => ?_) ?_; rotate_left; (focus (go_simp; try with_reducible rfl)); (try simp only [List.setIfInBounds_toArray, List.set_cons_succ, List.set_cons_zero]))
                (refine rx_take (v := ?_) 17 rfl (by kernel_rfl) (by kernel_rfl) (by kernel_rfl) (by kernel_rfl) (fun _ _ _ h => h) (by rfl) (by assumption) (fun W hW => ?_) ?_; rotate_left; (focus (go_simp; try with_reducible rfl)); (try simp only [List.setIfInBounds_toArray, List.set_cons_succ, List.set_cons_zero]))
                (refine rx_take (v := ?_) 18 rfl (by kernel_rfl) (by kernel_rfl) (by kernel_rfl) (by kernel_rfl) (fun _ _ _ h => h) (by rfl) (by assumption) (fun W hW => ?_) ?_; rotate_left; (focus (go_simp; try with_reducible rfl)); (try simp only [List.setIfInBounds_toArray, List.set_cons_succ, List.set_cons_zero]))
                (refine rx_take (v := ?_) 19 rfl (by kernel_rfl) (by kernel_rfl) (by kernel_rfl) (by kernel_rfl) (fun _ _ _ h => h) (by rfl) (by assumption) (fun W hW => ?_) ?_; rotate_left; (focus (go_simp; try with_reducible rfl)); (try simp only [List.setIfInBounds_toArray, List.set_cons_succ, List.set_cons_zero]))
                (refine rx_take (v := ?_) 20 rfl (by kernel_rfl) (by kernel_rfl) (by kernel_rfl) (by kernel_rfl) (fun _ _ _ h => h) (by rfl) (by assumption) (fun W hW => ?_) ?_; rotate_left; (focus (go_simp; try with_reducible rfl)); (try simp only [List.setIfInBounds_toArray, List.set_cons_succ, List.set_cons_zero]))
                (refine rx_take (v := ?_) 21 rfl (by kernel_rfl) (by kernel_rfl) (by kernel_rfl) (by kernel_rfl) (fun _ _ _ h => h) (by rfl) (by assumption) (fun W hW => ?_) ?_; rotate_left; (focus (go_simp; try with_reducible rfl)); (try simp only [List.setIfInBounds_toArray, List.set_cons_succ, List.set_cons_zero]))
                (refine rx_take (v := ?_) 22 rfl (by kernel_rfl) (by kernel_rfl) (by kernel_rfl) (by kernel_rfl) (fun _ _ _ h => h) (by rfl) (by assumption) (fun W hW => ?_) ?_; rotate_left; (focus (have z0 := hW.cell k3; have z1 := hW.cell k4; have z2 := hW.cell hcx; have z3 := hW.cell hcy; go_simp; try with_reducible rfl)); (try simp only [List.setIfInBounds_toArray, List.set_cons_succ, List.set_cons_zero]))
                (refine rx_take (v := ?_) 23 rfl (by kernel_rfl) (by kernel_rfl) (by kernel_rfl) (by kernel_rfl) (fun _ _ _ h => h) (by rfl) (by assumption) (fun W hW => ?_) ?_; rotate_left; (focus (go_simp; try with_reducible rfl)); (try simp only [List.setIfInBounds_toArray, List.set_cons_succ, List.set_cons_zero]))
                (refine rx_take (v := ?_) 24 rfl (by kernel_rfl) (by kernel_rfl) (by kernel_rfl) (by kernel_rfl) (fun _ _ _ h => h) (by rfl) (by assumption) (fun W hW => ?_) ?_; rotate_left; (focus (go_simp; try with_reducible rfl)); (try simp only [List.setIfInBounds_toArray, List.set_cons_succ, List.set_cons_zero]))
                (refine rx_take (v := ?_) 25 rfl (by kernel_rfl) (by kernel_rfl) (by kernel_rfl) (by kernel_rfl) (fun _ _ _ h => h) (by rfl) (by assumption) (fun W hW => ?_) ?_; rotate_left; (focus (go_simp; try with_reducible rfl)); (try simp only [List.setIfInBounds_toArray, List.set_cons_succ, List.set_cons_zero]))
                (refine rx_take (v := ?_) 26 rfl (by kernel_rfl) (by kernel_rfl) (by kernel_rfl) (by kernel_rfl) (fun _ _ _ h => h) (by rfl) (by assumption) (fun W hW => ?_) ?_; rotate_left; (focus (have z0 := hW.cell k3; have z1 := hW.cell k4; have z2 := hW.cell hcx; have z3 := hW.cell hcy; go_simp; try with_reducible rfl)); (try simp only [List.setIfInBounds_toArray, List.set_cons_succ, List.set_cons_zero]))
                (refine rx_take (v := ?_) 27 rfl (by kernel_rfl) (by kernel_rfl) (by kernel_rfl) (by kernel_rfl) (fun _ _ _ h => h) (by rfl) (by assumption) (fun W hW => ?_) ?_; rotate_left; (focus (go_simp; try with_reducible rfl)); (try simp only [List.setIfInBounds_toArray, List.set_cons_succ, List.set_cons_zero]))
                (refine rx_take (v := ?_) 28 rfl (by kernel_rfl) (by kernel_rfl) (by kernel_rfl) (by kernel_rfl) (fun _ _ _ h => h) (by rfl) (by assumption) (fun W hW => ?_) ?_; rotate_left; (focus (go_simp; try with_reducible rfl)); (try simp only [List.setIfInBounds_toArray, List.set_cons_succ, List.set_cons_zero]))
                (refine rx_take (v := ?_) 29 rfl (by kernel_rfl) (by kernel_rfl) (by kernel_rfl) (by kernel_rfl) (fun _ _ _ h => h) (by rfl) (by assumption) (fun W hW => ?_) ?_; rotate_left; (focus (go_simp; try with_reducible rfl)); (try simp only [List.setIfInBounds_toArray, List.set_cons_succ, List.set_cons_zero]))
                (refine rx_take (v := ?_) 30 rfl (by kernel_rfl) (by kernel_rfl) (by kernel_rfl) (by kernel_rfl) (fun _ _ _ h => h) (by rfl) (by assumption) (fun W hW => ?_) ?_; rotate_left; (focus (have z0 := hW.cell k3; have z1 := hW.cell k4; have z2 := hW.cell hcx; have z3 := hW.cell hcy; go_simp; try with_reducible rfl)); (try simp only [List.setIfInBounds_toArray, List.set_cons_succ, List.set_cons_zero]))
                (refine rx_take (v := ?_) 31 rfl (by kernel_rfl) (by kernel_rfl) (by kernel_rfl) (by kernel_rfl) (fun _ _ _ h => h) (by rfl) (by assumption) (fun W hW => ?_) ?_; rotate_left; (focus (go_simp; try with_reducible rfl)); (try simp only [List.setIfInBounds_toArray, List.set_cons_succ, List.set_cons_zero]))
                (refine rx_take (v := ?_) 32 rfl (by kernel_rfl) (by kernel_rfl) (by kernel_rfl) (by kernel_rfl) (fun _ _ _ h => h) (by rfl) (by assumption) (fun W hW => ?_) ?_; rotate_left; (focus (go_simp; try with_reducible rfl)); (try simp only [List.setIfInBounds_toArray, List.set_cons_succ, List.set_cons_zero]))
                (refine rx_take (v := ?_) 33 rfl (by kernel_rfl) (by kernel_rfl) (by kernel_rfl) (by kernel_rfl) (fun _ _ _ h => h) (by rfl) (by assumption) (fun W hW => ?_) ?_; rotate_left; (focus (have z0 := hW.cell k3; have z1 := hW.cell k4; have z2 := hW.cell hcx; have z3 := hW.cell hcy; go_simp; try with_reducible rfl)); (try simp only [List.setIfInBounds_toArray, List.set_cons_succ, List.set_cons_zero]))
                (refine rx_take (v := ?_) 34 rfl (by kernel_rfl) (by kernel_rfl) (by kernel_rfl) (by kernel_rfl) (fun _ _ _ h => h) (by rfl) (by assumption) (fun W hW => ?_) ?_; rotate_left; (focus (go_simp; try with_reducible rfl)); (try simp only [List.setIfInBounds_toArray, List.set_cons_succ, List.set_cons_zero]))
                (refine rx_take (v := ?_) 35 rfl (by kernel_rfl) (by kernel_rfl) (by kernel_rfl) (by kernel_rfl) (fun _ _ _ h => h) (by rfl) (by assumption) (fun W hW => ?_) ?_; rotate_left; (focus (go_simp; try with_reducible rfl)); (try simp only [List.setIfInBounds_toArray, List.set_cons_succ, List.set_cons_zero]))
                (refine rx_take (v := ?_) 36 rfl (by kernel_rfl) (by kernel_rfl) (by kernel_rfl) (by kernel_rfl) (fun _ _ _ h => h) (by rfl) (by assumption) (fun W hW => ?_) ?_; rotate_left; (focus (go_simp; try with_reducible rfl)); (try simp only [List.setIfInBounds_toArray, List.set_cons_succ, List.set_cons_zero]))
                (refine rx_take2 (v := ?_) 37 38 rfl (by kernel_rfl) (by kernel_rfl) (by kernel_rfl) (by kernel_rfl) (by kernel_rfl) (by kernel_rfl) (fun _ _ _ h => h) (by rfl) (by assumption) (fun W hW => ?_) ?_; rotate_left; (focus (go_simp; try with_reducible rfl)); (try simp only [List.setIfInBounds_toArray, List.set_cons_succ, List.set_cons_zero]))
                (refine rx_take (v := ?_) 38 rfl (by kernel_rfl) (by kernel_rfl) (by kernel_rfl) (by kernel_rfl) (fun _ _ _ h => h) (by rfl) (by assumption) (fun W hW => ?_) ?_; rotate_left; (focus (go_simp; try with_reducible rfl)); (try simp only [List.setIfInBounds_toArray, List.set_cons_succ, List.set_cons_zero]))
                (refine rx_one 39 (by kernel_rfl) rfl (by rfl) (fun K hK => ?_); go_simp)
                refine hK _ _ (.inl rfl) (fun _ => ?_)
                clear hK K
                try simp only [List.setIfInBounds_toArray, List.set_cons_succ, List.set_cons_zero]
                refine rx_done (by kernel_rfl) ?_
                go_wp2_with fail
                go_roundw
                case rel => exact ⟨i + 1, _, HIN.out, by go_num, (HT2.out.setV 3 (.bool (Op.bytesLess y.toList x.toList)) rfl).ext (Ext.refl _).drew, wk_step HOK2.out HKA.out⟩
                case measure => simp [intOf]; have := HIN.out; omega
        · obtain rfl : i = q2.length := by omega
          have hin0 : ¬ (q2.length : Int) < (q2.length : Int) := by omega
          clear hT2 hok hi hin kf
          go_wp2_with fail
          rcases ok with _ | _
          · refine rg_start (by kernel_rfl) (Ext.refl wr) (fun hE8 => ?_)
            (refine rg_take (v := ?_) 0 rfl (by kernel_rfl) (by kernel_rfl) (by kernel_rfl) (fun _ _ _ h => h) (by rfl) (by assumption) (fun W hW => ?_) ?_; rotate_left; (focus (go_simp; try with_reducible rfl)); (try simp only [List.setIfInBounds_toArray, List.set_cons_succ, List.set_cons_zero]))
            (refine rg_take (v := ?_) 1 rfl (by kernel_rfl) (by kernel_rfl) (by kernel_rfl) (fun _ _ _ h => h) (by rfl) (by assumption) (fun W hW => ?_) ?_; rotate_left; (focus (go_simp; try with_reducible rfl)); (try simp only [List.setIfInBounds_toArray, List.set_cons_succ, List.set_cons_zero]))
            (refine rg_take (v := ?_) 2 rfl (by kernel_rfl) (by kernel_rfl) (by kernel_rfl) (fun _ _ _ h => h) (by rfl) (by assumption) (fun W hW => ?_) ?_; rotate_left; (focus (go_simp; try with_reducible rfl)); (try simp only [List.setIfInBounds_toArray, List.set_cons_succ, List.set_cons_zero]))
            (refine rg_take (v := ?_) 3 rfl (by kernel_rfl) (by kernel_rfl) (by kernel_rfl) (fun _ _ _ h => h) (by rfl) (by assumption) (fun W hW => ?_) ?_; rotate_left; (focus (have z0 := hW.cell k3; have z1 := hW.cell k4; go_simp; try with_reducible rfl)); (try simp only [List.setIfInBounds_toArray, List.set_cons_succ, List.set_cons_zero]))
            (refine rg_take (v := ?_) 4 rfl (by kernel_rfl) (by kernel_rfl) (by kernel_rfl) (fun _ _ _ h => h) (by rfl) (by assumption) (fun W hW => ?_) ?_; rotate_left; (focus (go_simp; try with_reducible rfl)); (try simp only [List.setIfInBounds_toArray, List.set_cons_succ, List.set_cons_zero]))
            (refine rg_take (v := ?_) 5 rfl (by kernel_rfl) (by kernel_rfl) (by kernel_rfl) (fun _ _ _ h => h) (by rfl) (by assumption) (fun W hW => ?_) ?_; rotate_left; (focus (go_simp; try with_reducible rfl)); (try simp only [List.setIfInBounds_toArray, List.set_cons_succ, List.set_cons_zero]))
            (refine rg_take (v := ?_) 6 rfl (by kernel_rfl) (by kernel_rfl) (by kernel_rfl) (fun _ _ _ h => h) (by rfl) (by assumption) (fun W hW => ?_) ?_; rotate_left; (focus (go_simp; try with_reducible rfl)); (try simp only [List.setIfInBounds_toArray, List.set_cons_succ, List.set_cons_zero]))
            (refine rg_take (v := ?_) 7 rfl (by kernel_rfl) (by kernel_rfl) (by kernel_rfl) (fun _ _ _ h => h) (by rfl) (by assumption) (fun W hW => ?_) ?_; rotate_left; (focus (go_simp; try with_reducible rfl)); (try simp only [List.setIfInBounds_toArray, List.set_cons_succ, List.set_cons_zero]))
            (refine rg_take (v := ?_) 8 rfl (by kernel_rfl) (by kernel_rfl) (by kernel_rfl) (fun _ _ _ h => h) (by rfl) (by assumption) (fun W hW => ?_) ?_; rotate_left; (focus (have z0 := hW.cell k3; have z1 := hW.cell k4; go_simp; try with_reducible rfl)); (try simp only [List.setIfInBounds_toArray, List.set_cons_succ, List.set_cons_zero]))
            (refine rg_take (v := ?_) 9 rfl (by kernel_rfl) (by kernel_rfl) (by kernel_rfl) (fun _ _ _ h => h) (by rfl) (by assumption) (fun W hW => ?_) ?_; rotate_left; (focus (go_simp; try with_reducible rfl)); (try simp only [List.setIfInBounds_toArray, List.set_cons_succ, List.set_cons_zero]))
            (refine rg_skip 10 rfl (by kernel_rfl) (by kernel_rfl) (by kernel_rfl) (fun _ _ _ h => h) (by rfl) (by assumption) ?_; (try simp only [List.setIfInBounds_toArray, List.set_cons_succ, List.set_cons_zero]))
            (refine rg_skip 11 rfl (by kernel_rfl) (by kernel_rfl) (by kernel_rfl) (fun _ _ _ h => h) (by rfl) (by assumption) ?_; (try simp only [List.setIfInBounds_toArray, List.set_cons_succ, List.set_cons_zero]))
            (refine rg_skip 12 rfl (by kernel_rfl) (by kernel_rfl) (by kernel_rfl) (fun _ _ _ h => h) (by rfl) (by assumption) ?_; (try simp only [List.setIfInBounds_toArray, List.set_cons_succ, List.set_cons_zero]))
            (refine rg_skip 13 rfl (by kernel_rfl) (by kernel_rfl) (by kernel_rfl) (fun _ _ _ h => h) (by rfl) (by assumption) ?_; (try simp only [List.setIfInBounds_toArray, List.set_cons_succ, List.set_cons_zero]))
            (refine rg_skip 14 rfl (by kernel_rfl) (by kernel_rfl) (by kernel_rfl) (fun _ _ _ h => h) (by rfl) (by assumption) ?_; (try simp only [List.setIfInBounds_toArray, List.set_cons_succ, List.set_cons_zero]))
            (refine rg_skip 15 rfl (by kernel_rfl) (by kernel_rfl) (by kernel_rfl) (fun _ _ _ h => h) (by rfl) (by assumption) ?_; (try simp only [List.setIfInBounds_toArray, List.set_cons_succ, List.set_cons_zero]))
            (refine rg_take (v := ?_) 16 rfl (by kernel_rfl) (by kernel_rfl) (by kernel_rfl) (fun _ _ _ h => h) (by rfl) (by assumption) (fun W hW => ?_) ?_; rotate_left; (focus (go_simp; try with_reducible rfl)); (try simp only [List.setIfInBounds_toArray, List.set_cons_succ, List.set_cons_zero]))
            (refine rg_take (v := ?_) 17 rfl (by kernel_rfl) (by kernel_rfl) (by kernel_rfl) (fun _ _ _ h => h) (by rfl) (by assumption) (fun W hW => ?_) ?_; rotate_left; (focus (go_simp; try with_reducible rfl)); (try simp only [List.setIfInBounds_toArray, List.set_cons_succ, List.set_cons_zero]))
            (refine rg_take (v := ?_) 18 rfl (by kernel_rfl) (by kernel_rfl) (by kernel_rfl) (fun _ _ _ h => h) (by rfl) (by assumption) (fun W hW => ?_) ?_; rotate_left; (focus (go_simp; try with_reducible rfl)); (try simp only [List.setIfInBounds_toArray, List.set_cons_succ, List.set_cons_zero]))
            (refine rg_take (v := ?_) 19 rfl (by kernel_rfl) (by kernel_rfl) (by kernel_rfl) (fun _ _ _ h => h) (by rfl) (by assumption) (fun W hW => ?_) ?_; rotate_left; (focus (go_simp; try with_reducible rfl)); (try simp only [List.setIfInBounds_toArray, List.set_cons_succ, List.set_cons_zero]))
            refine rg_done (by kernel_rfl) ?_
            go_wp2_with fail
            refine bodyPost_ret (v := .tuple #[.slice Av q2.length cav, .int .i64 (dn : Int), .bool false]) (by simp [results, Try.results126, go_sem]; try rfl) rfl ?_
            exact ⟨(dn : Int), _, q2, false, rfl, own_ext HT2.out.row hE8, HT2.out.ex.trans hE8, hq, hd1, by omega, by rw [Int.toNat_natCast]; exact HV.out dn s2 q2 ok2 false HSL.out HP.out (by rw [← HOK.out, ← HOK2.out]; rfl)⟩
          rcases h60 : decide (q2.length ≤ 60) with _ | _
          · have h60' : decide ((q2.length : Int) ≤ 60) = false := by rw [decide_eq_false_iff_not] at h60 ⊢; omega
            have H60 := Lib.hid h60
            clear h60
            refine rg_start (by kernel_rfl) (Ext.refl wr) (fun hE8 => ?_)
            (refine rg_take (v := ?_) 0 rfl (by kernel_rfl) (by kernel_rfl) (by kernel_rfl) (fun _ _ _ h => h) (by rfl) (by assumption) (fun W hW => ?_) ?_; rotate_left; (focus (go_simp; try with_reducible rfl)); (try simp only [List.setIfInBounds_toArray, List.set_cons_succ, List.set_cons_zero]))
            (refine rg_take (v := ?_) 1 rfl (by kernel_rfl) (by kernel_rfl) (by kernel_rfl) (fun _ _ _ h => h) (by rfl) (by assumption) (fun W hW => ?_) ?_; rotate_left; (focus (go_simp; try with_reducible rfl)); (try simp only [List.setIfInBounds_toArray, List.set_cons_succ, List.set_cons_zero]))
            (refine rg_take (v := ?_) 2 rfl (by kernel_rfl) (by kernel_rfl) (by kernel_rfl) (fun _ _ _ h => h) (by rfl) (by assumption) (fun W hW => ?_) ?_; rotate_left; (focus (go_simp; try with_reducible rfl)); (try simp only [List.setIfInBounds_toArray, List.set_cons_succ, List.set_cons_zero]))
            (refine rg_take (v := ?_) 3 rfl (by kernel_rfl) (by kernel_rfl) (by kernel_rfl) (fun _ _ _ h => h) (by rfl) (by assumption) (fun W hW => ?_) ?_; rotate_left; (focus (have z0 := hW.cell k3; have z1 := hW.cell k4; go_simp; try with_reducible rfl)); (try simp only [List.setIfInBounds_toArray, List.set_cons_succ, List.set_cons_zero]))
            (refine rg_take (v := ?_) 4 rfl (by kernel_rfl) (by kernel_rfl) (by kernel_rfl) (fun _ _ _ h => h) (by rfl) (by assumption) (fun W hW => ?_) ?_; rotate_left; (focus (go_simp; try with_reducible rfl)); (try simp only [List.setIfInBounds_toArray, List.set_cons_succ, List.set_cons_zero]))
            (refine rg_take (v := ?_) 5 rfl (by kernel_rfl) (by kernel_rfl) (by kernel_rfl) (fun _ _ _ h => h) (by rfl) (by assumption) (fun W hW => ?_) ?_; rotate_left; (focus (go_simp; try with_reducible rfl)); (try simp only [List.setIfInBounds_toArray, List.set_cons_succ, List.set_cons_zero]))
            (refine rg_take (v := ?_) 6 rfl (by kernel_rfl) (by kernel_rfl) (by kernel_rfl) (fun _ _ _ h => h) (by rfl) (by assumption) (fun W hW => ?_) ?_; rotate_left; (focus (go_simp; try with_reducible rfl)); (try simp only [List.setIfInBounds_toArray, List.set_cons_succ, List.set_cons_zero]))
            (refine rg_take (v := ?_) 7 rfl (by kernel_rfl) (by kernel_rfl) (by kernel_rfl) (fun _ _ _ h => h) (by rfl) (by assumption) (fun W hW => ?_) ?_; rotate_left; (focus (go_simp; try with_reducible rfl)); (try simp only [List.setIfInBounds_toArray, List.set_cons_succ, List.set_cons_zero]))
            (refine rg_take (v := ?_) 8 rfl (by kernel_rfl) (by kernel_rfl) (by kernel_rfl) (fun _ _ _ h => h) (by rfl) (by assumption) (fun W hW => ?_) ?_; rotate_left; (focus (have z0 := hW.cell k3; have z1 := hW.cell k4; go_simp; try with_reducible rfl)); (try simp only [List.setIfInBounds_toArray, List.set_cons_succ, List.set_cons_zero]))
            (refine rg_take (v := ?_) 9 rfl (by kernel_rfl) (by kernel_rfl) (by kernel_rfl) (fun _ _ _ h => h) (by rfl) (by assumption) (fun W hW => ?_) ?_; rotate_left; (focus (go_simp; try with_reducible rfl)); (try simp only [List.setIfInBounds_toArray, List.set_cons_succ, List.set_cons_zero]))
            (refine rg_take (v := ?_) 10 rfl (by kernel_rfl) (by kernel_rfl) (by kernel_rfl) (fun _ _ _ h => h) (by rfl) (by assumption) (fun W hW => ?_) ?_; rotate_left; (focus (go_simp; try with_reducible rfl)); (try simp only [List.setIfInBounds_toArray, List.set_cons_succ, List.set_cons_zero]))
            (refine rg_take (v := ?_) 11 rfl (by kernel_rfl) (by kernel_rfl) (by kernel_rfl) (fun _ _ _ h => h) (by rfl) (by assumption) (fun W hW => ?_) ?_; rotate_left; (focus (go_simp; try with_reducible rfl)); (try simp only [List.setIfInBounds_toArray, List.set_cons_succ, List.set_cons_zero]))
            (refine rg_take (v := ?_) 12 rfl (by kernel_rfl) (by kernel_rfl) (by kernel_rfl) (fun _ _ _ h => h) (by rfl) (by assumption) (fun W hW => ?_) ?_; rotate_left; (focus (go_simp; try with_reducible rfl)); (try simp only [List.setIfInBounds_toArray, List.set_cons_succ, List.set_cons_zero]))
            (refine rg_take (v := ?_) 13 rfl (by kernel_rfl) (by kernel_rfl) (by kernel_rfl) (fun _ _ _ h => h) (by rfl) (by assumption) (fun W hW => ?_) ?_; rotate_left; (focus (have z0 := hW.cell k3; have z1 := hW.cell k4; go_simp; try with_reducible rfl)); (try simp only [List.setIfInBounds_toArray, List.set_cons_succ, List.set_cons_zero]))
            (refine rg_take (v := ?_) 14 rfl (by kernel_rfl) (by kernel_rfl) (by kernel_rfl) (fun _ _ _ h => h) (by rfl) (by assumption) (fun W hW => ?_) ?_; rotate_left; (focus (go_simp; try with_reducible rfl)); (try simp only [List.setIfInBounds_toArray, List.set_cons_succ, List.set_cons_zero]))
            (refine rg_take (v := ?_) 15 rfl (by kernel_rfl) (by kernel_rfl) (by kernel_rfl) (fun _ _ _ h => h) (by rfl) (by assumption) (fun W hW => ?_) ?_; rotate_left; (focus (go_simp; try with_reducible rfl)); (try simp only [List.setIfInBounds_toArray, List.set_cons_succ, List.set_cons_zero]))
            (refine rg_take (v := ?_) 16 rfl (by kernel_rfl) (by kernel_rfl) (by kernel_rfl) (fun _ _ _ h => h) (by rfl) (by assumption) (fun W hW => ?_) ?_; rotate_left; (focus (go_simp; try with_reducible rfl)); (try simp only [List.setIfInBounds_toArray, List.set_cons_succ, List.set_cons_zero]))
            (refine rg_take (v := ?_) 17 rfl (by kernel_rfl) (by kernel_rfl) (by kernel_rfl) (fun _ _ _ h => h) (by rfl) (by assumption) (fun W hW => ?_) ?_; rotate_left; (focus (go_simp; try with_reducible rfl)); (try simp only [List.setIfInBounds_toArray, List.set_cons_succ, List.set_cons_zero]))
            (refine rg_take (v := ?_) 18 rfl (by kernel_rfl) (by kernel_rfl) (by kernel_rfl) (fun _ _ _ h => h) (by rfl) (by assumption) (fun W hW => ?_) ?_; rotate_left; (focus (go_simp; try with_reducible rfl)); (try simp only [List.setIfInBounds_toArray, List.set_cons_succ, List.set_cons_zero]))
            (refine rg_take (v := ?_) 19 rfl (by kernel_rfl) (by kernel_rfl) (by kernel_rfl) (fun _ _ _ h => h) (by rfl) (by assumption) (fun W hW => ?_) ?_; rotate_left; (focus (go_simp; try with_reducible rfl)); (try simp only [List.setIfInBounds_toArray, List.set_cons_succ, List.set_cons_zero]))
            refine rg_done (by kernel_rfl) ?_
            go_wp2_with fail
            refine bodyPost_ret (v := .tuple #[.slice Av q2.length cav, .int .i64 (dn : Int), .bool false]) (by simp [results, Try.results126, go_sem]; try rfl) rfl ?_
            exact ⟨(dn : Int), _, q2, false, rfl, own_ext HT2.out.row hE8, HT2.out.ex.trans hE8, hq, hd1, by omega, by rw [Int.toNat_natCast]; exact HV.out dn s2 q2 ok2 false HSL.out HP.out (by rw [← HOK.out, ← HOK2.out, H60.out]; rfl)⟩
          · have h60' : decide ((q2.length : Int) ≤ 60) = true := by rw [decide_eq_true_eq] at h60 ⊢; omega
            have H60 := Lib.hid h60
            clear h60
            refine rg_start (by kernel_rfl) (Ext.refl wr) (fun hE8 => ?_)
            (refine rg_take (v := ?_) 0 rfl (by kernel_rfl) (by kernel_rfl) (by kernel_rfl) (fun _ _ _ h => h) (by rfl) (by assumption) (fun W hW => ?_) ?_; rotate_left; (focus (go_simp; try with_reducible rfl)); (try simp only [List.setIfInBounds_toArray, List.set_cons_succ, List.set_cons_zero]))
            (refine rg_take (v := ?_) 1 rfl (by kernel_rfl) (by kernel_rfl) (by kernel_rfl) (fun _ _ _ h => h) (by rfl) (by assumption) (fun W hW => ?_) ?_; rotate_left; (focus (go_simp; try with_reducible rfl)); (try simp only [List.setIfInBounds_toArray, List.set_cons_succ, List.set_cons_zero]))
            (refine rg_take (v := ?_) 2 rfl (by kernel_rfl) (by kernel_rfl) (by kernel_rfl) (fun _ _ _ h => h) (by rfl) (by assumption) (fun W hW => ?_) ?_; rotate_left; (focus (go_simp; try with_reducible rfl)); (try simp only [List.setIfInBounds_toArray, List.set_cons_succ, List.set_cons_zero]))
            (refine rg_take (v := ?_) 3 rfl (by kernel_rfl) (by kernel_rfl) (by kernel_rfl) (fun _ _ _ h => h) (by rfl) (by assumption) (fun W hW => ?_) ?_; rotate_left; (focus (have z0 := hW.cell k3; have z1 := hW.cell k4; go_simp; try with_reducible rfl)); (try simp only [List.setIfInBounds_toArray, List.set_cons_succ, List.set_cons_zero]))
            (refine rg_take (v := ?_) 4 rfl (by kernel_rfl) (by kernel_rfl) (by kernel_rfl) (fun _ _ _ h => h) (by rfl) (by assumption) (fun W hW => ?_) ?_; rotate_left; (focus (go_simp; try with_reducible rfl)); (try simp only [List.setIfInBounds_toArray, List.set_cons_succ, List.set_cons_zero]))
            (refine rg_take (v := ?_) 5 rfl (by kernel_rfl) (by kernel_rfl) (by kernel_rfl) (fun _ _ _ h => h) (by rfl) (by assumption) (fun W hW => ?_) ?_; rotate_left; (focus (go_simp; try with_reducible rfl)); (try simp only [List.setIfInBounds_toArray, List.set_cons_succ, List.set_cons_zero]))
            (refine rg_take (v := ?_) 6 rfl (by kernel_rfl) (by kernel_rfl) (by kernel_rfl) (fun _ _ _ h => h) (by rfl) (by assumption) (fun W hW => ?_) ?_; rotate_left; (focus (go_simp; try with_reducible rfl)); (try simp only [List.setIfInBounds_toArray, List.set_cons_succ, List.set_cons_zero]))
            (refine rg_take (v := ?_) 7 rfl (by kernel_rfl) (by kernel_rfl) (by kernel_rfl) (fun _ _ _ h => h) (by rfl) (by assumption) (fun W hW => ?_) ?_; rotate_left; (focus (go_simp; try with_reducible rfl)); (try simp only [List.setIfInBounds_toArray, List.set_cons_succ, List.set_cons_zero]))
            (refine rg_take (v := ?_) 8 rfl (by kernel_rfl) (by kernel_rfl) (by kernel_rfl) (fun _ _ _ h => h) (by rfl) (by assumption) (fun W hW => ?_) ?_; rotate_left; (focus (have z0 := hW.cell k3; have z1 := hW.cell k4; go_simp; try with_reducible rfl)); (try simp only [List.setIfInBounds_toArray, List.set_cons_succ, List.set_cons_zero]))
            (refine rg_take (v := ?_) 9 rfl (by kernel_rfl) (by kernel_rfl) (by kernel_rfl) (fun _ _ _ h => h) (by rfl) (by assumption) (fun W hW => ?_) ?_; rotate_left; (focus (go_simp; try with_reducible rfl)); (try simp only [List.setIfInBounds_toArray, List.set_cons_succ, List.set_cons_zero]))
            (refine rg_take (v := ?_) 10 rfl (by kernel_rfl) (by kernel_rfl) (by kernel_rfl) (fun _ _ _ h => h) (by rfl) (by assumption) (fun W hW => ?_) ?_; rotate_left; (focus (go_simp; try with_reducible rfl)); (try simp only [List.setIfInBounds_toArray, List.set_cons_succ, List.set_cons_zero]))
            (refine rg_take (v := ?_) 11 rfl (by kernel_rfl) (by kernel_rfl) (by kernel_rfl) (fun _ _ _ h => h) (by rfl) (by assumption) (fun W hW => ?_) ?_; rotate_left; (focus (go_simp; try with_reducible rfl)); (try simp only [List.setIfInBounds_toArray, List.set_cons_succ, List.set_cons_zero]))
            (refine rg_take (v := ?_) 12 rfl (by kernel_rfl) (by kernel_rfl) (by kernel_rfl) (fun _ _ _ h => h) (by rfl) (by assumption) (fun W hW => ?_) ?_; rotate_left; (focus (go_simp; try with_reducible rfl)); (try simp only [List.setIfInBounds_toArray, List.set_cons_succ, List.set_cons_zero]))
            (refine rg_take (v := ?_) 13 rfl (by kernel_rfl) (by kernel_rfl) (by kernel_rfl) (fun _ _ _ h => h) (by rfl) (by assumption) (fun W hW => ?_) ?_; rotate_left; (focus (have z0 := hW.cell k3; have z1 := hW.cell k4; go_simp; try with_reducible rfl)); (try simp only [List.setIfInBounds_toArray, List.set_cons_succ, List.set_cons_zero]))
            (refine rg_take (v := ?_) 14 rfl (by kernel_rfl) (by kernel_rfl) (by kernel_rfl) (fun _ _ _ h => h) (by rfl) (by assumption) (fun W hW => ?_) ?_; rotate_left; (focus (go_simp; try with_reducible rfl)); (try simp only [List.setIfInBounds_toArray, List.set_cons_succ, List.set_cons_zero]))
            (refine rg_take (v := ?_) 15 rfl (by kernel_rfl) (by kernel_rfl) (by kernel_rfl) (fun _ _ _ h => h) (by rfl) (by assumption) (fun W hW => ?_) ?_; rotate_left; (focus (go_simp; try with_reducible rfl)); (try simp only [List.setIfInBounds_toArray, List.set_cons_succ, List.set_cons_zero]))
            (refine rg_take (v := ?_) 16 rfl (by kernel_rfl) (by kernel_rfl) (by kernel_rfl) (fun _ _ _ h => h) (by rfl) (by assumption) (fun W hW => ?_) ?_; rotate_left; (focus (go_simp; try with_reducible rfl)); (try simp only [List.setIfInBounds_toArray, List.set_cons_succ, List.set_cons_zero]))
            (refine rg_take (v := ?_) 17 rfl (by kernel_rfl) (by kernel_rfl) (by kernel_rfl) (fun _ _ _ h => h) (by rfl) (by assumption) (fun W hW => ?_) ?_; rotate_left; (focus (go_simp; try with_reducible rfl)); (try simp only [List.setIfInBounds_toArray, List.set_cons_succ, List.set_cons_zero]))
            (refine rg_take (v := ?_) 18 rfl (by kernel_rfl) (by kernel_rfl) (by kernel_rfl) (fun _ _ _ h => h) (by rfl) (by assumption) (fun W hW => ?_) ?_; rotate_left; (focus (go_simp; try with_reducible rfl)); (try simp only [List.setIfInBounds_toArray, List.set_cons_succ, List.set_cons_zero]))
            (refine rg_take (v := ?_) 19 rfl (by kernel_rfl) (by kernel_rfl) (by kernel_rfl) (fun _ _ _ h => h) (by rfl) (by assumption) (fun W hW => ?_) ?_; rotate_left; (focus (go_simp; try with_reducible rfl)); (try simp only [List.setIfInBounds_toArray, List.set_cons_succ, List.set_cons_zero]))
            refine rg_done (by kernel_rfl) ?_
            go_wp2_with fail
            refine bodyPost_ret (v := .tuple #[.slice Av q2.length cav, .int .i64 (dn : Int), .bool true]) (by simp [results, Try.results126, go_sem]; try rfl) rfl ?_
            exact ⟨(dn : Int), _, q2, true, rfl, own_ext HT2.out.row hE8, HT2.out.ex.trans hE8, hq, hd1, by omega, by rw [Int.toNat_natCast]; exact HV.out dn s2 q2 ok2 true HSL.out HP.out (by rw [← HOK.out, ← HOK2.out, H60.out]; rfl)⟩
end Go.Proofs.Ytnbfjkebakaigaa
