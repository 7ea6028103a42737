/- The walk of the program's Tree.keys (printed by gen_treeq.py). -/
import Derived.Test.YtnbfjkebakaigaaTreeN
import Derived.Test.YtnbfjkebakaigaaTreeW
import Derived.Shelf.SlicesE.Index
import Derived.Ground.SlgnProg
import Derived.Laws.Cover1
import Derived.Test.YtnbfjkebakaigaaShQ
namespace Go.Proofs.Ytnbfjkebakaigaa
open Go.RowKit Go.Deep
set_option linter.unusedVariables false
set_option maxRecDepth 100000
/-- what keys answers -/
def KyPost (w : World) (T : TypeId) (R : Option (Nat × List ByteArray)) (e : Ending) (w' : World) : Prop :=
  ∃ (v : Value) (ok : Bool) (q : List ByteArray), e = .returned (.tuple #[v, .bool ok]) ∧ w'.ownsRow w.heap.size T 1 v q.length (q.map fun c => Value.string c) ∧ Ext w w' ∧ q.length ≤ 60 ∧ ((ok = true ∧ ∃ d, R = some (d, q)) ∨ (ok = false ∧ R = none))
theorem any_false (s : List Bool) : (s.any fun y => false == y) = s.contains false := by
  induction s with
  | nil => rfl
  | cons b s ih => rw [List.any_cons, List.contains_cons, ih]
theorem keyAt_no {q : List ByteArray} {i : Nat} (h : keyAt q i = false) (hi : i < q.length) : keysUp q q.length = false := keysUp_false (i := i + 1) (by omega) (by rw [keysUp_succ, h, Bool.and_false])
theorem ky_no {N : List CNode} {rt : Int} {nn d : Nat} {s : List Bool} {q : List ByteArray} (hN : N.length = nn) (h : ¬ 200 < nn) (hv : visit N 201 true rt (List.replicate nn false) [] = some (d, s, q)) (hc : ((!s.contains false) && (decide (q.length ≤ 60) && keysUp q q.length)) = false) : treeV N rt = none := by
  subst hN
  rw [treeV_some h hv, if_neg (by rw [hc]; decide)]
theorem ky_yes {N : List CNode} {rt : Int} {nn d : Nat} {s : List Bool} {q : List ByteArray} (hN : N.length = nn) (h : ¬ 200 < nn) (hv : visit N 201 true rt (List.replicate nn false) [] = some (d, s, q)) (h1 : s.contains false = false) (h2 : q.length ≤ 60) (h3 : keysUp q q.length = true) : treeV N rt = some (d, q) := by
  subst hN
  rw [treeV_some h hv, if_pos (by rw [h1, h3, decide_eq_true h2]; rfl)]
theorem ky_none {N : List CNode} {rt : Int} {nn : Nat} {R : Option VSt} (hN : N.length = nn) (h : ¬ 200 < nn) (hv : visit N 201 true rt (List.replicate nn false) [] = R) (hR : R = none) : treeV N rt = none := by
  subst hN
  exact treeV_none h (hv.trans hR)
theorem tree_isKey (x : ByteArray) (w : World) : Calls Try.prog 163 #[.string x] w fun e w' => e = .returned (.bool (inB (x.size : Int) 1 30)) ∧ w = w' := by
  have HIN := Lib.hid (fun W => impl_inRange (x.size : Int) 1 30 W)
  go_enter Try.func163, Try.ntmps163
  go_wp2_with fail
  refine (HIN.out _).mono ?_
  rintro e w' ⟨rfl, rfl⟩
  go_wp2_with fail
  go_ret
  exact ⟨rfl, rfl⟩
theorem tree_contains (n c sb : Nat) (s : List Bool) (w : World) (hs : Blk w sb 4 (s.map Value.bool)) (hl : s.length = n) (hn : n ≤ 200) :
    Calls Try.prog 170 #[.slice (some ⟨sb, 0, none⟩) n c, .bool false] w fun e w' => e = .returned (.bool (s.contains false)) ∧ w = w' := by
  refine Calls.mono (AnyE.slices_Contains Try.laysContB Value.bool (fun x y => x == y) (.bool _ Try.underlying4) sb 0 n c s false w (by omega) (by omega) ?_) ?_
  · intro j hj
    have h := hs.cell (i := j) (by simpa using hj)
    rw [Nat.zero_add, h, List.getElem_map, getElem!_pos s j hj]
  · rintro e w' ⟨rfl, rfl⟩
    rw [List.take_of_length_le (by omega), any_false]
    exact ⟨rfl, rfl⟩
set_option maxRecDepth 100000 in
set_option maxHeartbeats 20000000 in
theorem impl_keys (rt : Int) (An : Option Addr) (nn pn : Nat) (l : List XNode) (N : List CNode) (w : World) (hl : l.length = nn) (hN : l.map XNode.c = N) (hns : nn ≤ 1099511627776) (hx : XSm l) (hr : NsR w An l) :
    Calls Try.prog 128 #[.agg #[.int .i64 rt, .slice An nn pn]] w (KyPost w 9 (treeV N rt)) := by
  have hNl : N.length = nn := by rw [← hN, List.length_map, hl]
  have hB := Blk.new w 89 [.int .i64 rt, .slice An nn pn]
  have hE0 : Ext w (w.alloc (.cells #[.int .i64 rt, .slice An nn pn] 89)) := (by repeat (first | exact Ext.refl _ | assumption | refine Ext.alloc ?_ _ | refine Ext.drewN ?_ _ | refine Ext.drew ?_ | refine Ext.set ?_ (by dsimp only; omega) _ | refine Ext.trans ?_ (by assumption)))
  have HB := Lib.hid hB
  have HE0 := Lib.hid hE0
  by_cases hbig : (200 : Int) < (nn : Int)
  · rw [treeV_big (by omega)]
    go_enter Try.func128, Try.ntmps128
    go_wp2_with fail
    refine bodyPost_ret (v := .tuple #[.slice none 0 0, .bool false]) (by simp [results, Try.results128, go_sem]; try rfl) rfl ?_
    exact ⟨_, false, [], rfl, World.ownsRow_nil _ _ _ _, hE0, by simp, .inr ⟨rfl, rfl⟩⟩
  have HL := Lib.hid hl
  have HN := Lib.hid hN
  have HNl := Lib.hid hNl
  have HX := Lib.hid hx
  have HRW := Lib.hid hr
  clear hl hN hNl hx hr hB hE0
  have hmk := fun W => run_make_row' (P := Try.prog) 198 4 (Value.bool false) 1 Try.underlying198 info_BoolS rfl .i64 .i64 nn (by omega) (by omega) W
  have HMK := Lib.hid hmk
  clear hmk
  obtain ⟨b0, b1⟩ := HB.out.cells2
  go_enter Try.func128, Try.ntmps128
  go_wp2_with fail
  generalize hw1 : w.alloc (.cells #[.int .i64 rt, .slice An nn pn] 89) = w1 at HB HE0 b0 b1 ⊢
  refine rg_start (by kernel_rfl) (Ext.refl w1) (fun hE1 => ?_)
  (refine rg_take (v := ?_) 0 rfl (by kernel_rfl) (by kernel_rfl) (by kernel_rfl) (fun _ _ _ h => h) (by rfl) (by assumption) (fun W hW => ?_) ?_; rotate_left; (focus (have z0 := hW.cell b0; have z1 := hW.cell b1; go_simp; try with_reducible rfl)); (try simp only [List.setIfInBounds_toArray, List.set_cons_succ, List.set_cons_zero]))
  (refine rg_take (v := ?_) 1 rfl (by kernel_rfl) (by kernel_rfl) (by kernel_rfl) (fun _ _ _ h => h) (by rfl) (by assumption) (fun W hW => ?_) ?_; rotate_left; (focus (go_simp; try with_reducible rfl)); (try simp only [List.setIfInBounds_toArray, List.set_cons_succ, List.set_cons_zero]))
  (refine rg_take (v := ?_) 2 rfl (by kernel_rfl) (by kernel_rfl) (by kernel_rfl) (fun _ _ _ h => h) (by rfl) (by assumption) (fun W hW => ?_) ?_; rotate_left; (focus (have z0 := hW.cell b0; have z1 := hW.cell b1; go_simp; try with_reducible rfl)); (try simp only [List.setIfInBounds_toArray, List.set_cons_succ, List.set_cons_zero]))
  (refine rg_take (v := ?_) 3 rfl (by kernel_rfl) (by kernel_rfl) (by kernel_rfl) (fun _ _ _ h => h) (by rfl) (by assumption) (fun W hW => ?_) ?_; rotate_left; (focus (go_simp; try with_reducible rfl)); (try simp only [List.setIfInBounds_toArray, List.set_cons_succ, List.set_cons_zero]))
  have hd1 := hE1
  generalize w1.drew = w2 at hE1 hd1 ⊢
  have HD := Lib.hid hd1
  clear hd1
  have HB2 := Lib.hid (HB.out.ext HD.out)
  have HE2 := Lib.hid (HE0.out.trans HD.out)
  have hsz : w.heap.size + 1 ≤ w2.heap.size := by have h1 := HD.out.le; rw [← hw1, World.size_alloc] at h1; exact h1
  clear b0 b1 HB HE0
  refine rg_one 4 (by kernel_rfl) rfl (by rfl) (fun K hK => ?_)
  go_simp
  simp only [HMK.out]
  go_simp
  refine hK _ _ (hE1.alloc _) (fun hE2 => ?_)
  clear hK K
  try simp only [List.setIfInBounds_toArray, List.set_cons_succ, List.set_cons_zero]
  (refine rg_take (v := ?_) 5 rfl (by kernel_rfl) (by kernel_rfl) (by kernel_rfl) (fun _ _ _ h => h) (by rfl) (by assumption) (fun W hW => ?_) ?_; rotate_left; (focus (go_simp; try with_reducible rfl)); (try simp only [List.setIfInBounds_toArray, List.set_cons_succ, List.set_cons_zero]))
  (refine rg_one 6 (by kernel_rfl) rfl (by rfl) (fun K hK => ?_); go_simp)
  refine hK _ _ (hE2.alloc _) (fun hE3 => ?_)
  clear hK K
  try simp only [List.setIfInBounds_toArray, List.set_cons_succ, List.set_cons_zero]
  (refine rg_take (v := ?_) 7 rfl (by kernel_rfl) (by kernel_rfl) (by kernel_rfl) (fun _ _ _ h => h) (by rfl) (by assumption) (fun W hW => ?_) ?_; rotate_left; (focus (go_simp; try with_reducible rfl)); (try simp only [List.setIfInBounds_toArray, List.set_cons_succ, List.set_cons_zero]))
  refine rg_done (by kernel_rfl) ?_
  have hbs := (Blk.made w2 4 (.bool false) nn).alloc (.cells #[.int .i64 rt, .slice An nn pn, .slice (some ⟨w2.heap.size, 0, none⟩) nn nn, .slice none 0 0, .int .i64 0, .bool false] 204)
  have hbx := Blk.new (w2.alloc (.cells (madeCells #[.bool false] nn) 4)) 204 [.int .i64 rt, .slice An nn pn, .slice (some ⟨w2.heap.size, 0, none⟩) nn nn, .slice none 0 0, .int .i64 0, .bool false]
  rw [World.size_alloc] at hbx
  have hEw := HE2.out.trans (show Ext w2 ((w2.alloc (.cells (madeCells #[.bool false] nn) 4)).alloc (.cells #[.int .i64 rt, .slice An nn pn, .slice (some ⟨w2.heap.size, 0, none⟩) nn nn, .slice none 0 0, .int .i64 0, .bool false] 204)) from (by repeat (first | exact Ext.refl _ | assumption | refine Ext.alloc ?_ _ | refine Ext.drewN ?_ _ | refine Ext.drew ?_ | refine Ext.set ?_ (by dsimp only; omega) _ | refine Ext.trans ?_ (by assumption))))
  have HT5 := Lib.hid (show TSt 204 4 9 w.heap.size (w2.heap.size + 1) w2.heap.size w w (lnHd rt An nn pn w2.heap.size false 0 (.slice none 0 0)) (.slice none 0 0) (List.replicate nn false) [] ((w2.alloc (.cells (madeCells #[.bool false] nn) 4)).alloc (.cells #[.int .i64 rt, .slice An nn pn, .slice (some ⟨w2.heap.size, 0, none⟩) nn nn, .slice none 0 0, .int .i64 0, .bool false] 204)) from
    ⟨by decide, by decide, by decide, Nat.le_refl _, by omega, by omega, hbx, hbs.of_eq (by rw [List.map_replicate]), World.ownsRow_nil _ _ _ _, hEw, (TFr.refl _ _ _ _).ext hEw, hEw.le⟩)
  have HBB := Lib.hid (HB2.out.ext (show Ext w2 ((w2.alloc (.cells (madeCells #[.bool false] nn) 4)).alloc (.cells #[.int .i64 rt, .slice An nn pn, .slice (some ⟨w2.heap.size, 0, none⟩) nn nn, .slice none 0 0, .int .i64 0, .bool false] 204)) from (by repeat (first | exact Ext.refl _ | assumption | refine Ext.alloc ?_ _ | refine Ext.drewN ?_ _ | refine Ext.drew ?_ | refine Ext.set ?_ (by dsimp only; omega) _ | refine Ext.trans ?_ (by assumption)))))
  clear hbs hbx hEw hE2 hE3
  generalize ((w2.alloc (.cells (madeCells #[.bool false] nn) 4)).alloc (.cells #[.int .i64 rt, .slice An nn pn, .slice (some ⟨w2.heap.size, 0, none⟩) nn nn, .slice none 0 0, .int .i64 0, .bool false] 204)) = W5 at HT5 HBB ⊢
  generalize w2.heap.size + 1 = xb at HT5 HBB ⊢
  generalize w2.heap.size = sb at HT5 HBB ⊢
  clear HD HE2 HB2 hE1 hw1 hsz HMK
  obtain ⟨b0, b1⟩ := HBB.out.cells2
  have hC := impl_node w.heap.size xb sb w rt An nn pn l HL.out (by omega) HX.out HRW.out 201 true rt (List.replicate nn false) [] (.slice none 0 0) 0 1 W5 (by rw [unseen_rep]; omega) (by omega) (by simp) (by rw [unseen_rep]; simp; omega) (by omega) (by omega) HT5.out.here
  rw [unseen_rep, HN.out, show ((1 : Nat) : Int) = 1 from rfl] at hC
  have hlen : ∀ d s q, visit N 201 true rt (List.replicate nn false) [] = some (d, s, q) → s.length = nn := fun d s q h => by have h1 := (visit_gr N 201 true rt _ _ d s q h).len; rw [List.length_replicate] at h1; exact h1
  have HV := Lib.hid (fun (d : Nat) (s : List Bool) (q : List ByteArray) => ky_no (rt := rt) (d := d) (s := s) (q := q) HNl.out (by omega))
  have HV2 := Lib.hid (fun (d : Nat) (s : List Bool) (q : List ByteArray) => ky_yes (rt := rt) (d := d) (s := s) (q := q) HNl.out (by omega))
  have HV3 := Lib.hid (ky_none (rt := rt) HNl.out (by omega) rfl)
  generalize visit N 201 true rt (List.replicate nn false) [] = R at hC hlen HV HV2 HV3
  have HC := Lib.hid hC
  have HLEN := Lib.hid hlen
  clear hC hlen
  go_wp2_with fail
  refine HC.out.mono ?_
  rintro e w6 ⟨bad, g, v2, s2, q2, rfl, hT6, hI, hb⟩
  obtain ⟨Av, cav, hv⟩ := hT6.form
  subst hv
  have HT6 := Lib.hid hT6
  have HI := Lib.hid hI
  have HBD := Lib.hid hb
  have hn200 : nn ≤ 200 := by omega
  clear hT6 hI hb b0 b1 hbig
  obtain ⟨k0, k1, k2, k3, k4, k5⟩ := ln6 HT6.out.bx
  rcases bad with _ | _
  rotate_left
  · have HR := Lib.hid (show R = none by
      rcases HI.out with ⟨h, -⟩ | ⟨-, h⟩
      · cases h
      · rcases R with _ | ⟨d, s, q⟩
        · rfl
        · exact absurd rfl (h d s q rfl).1)
    go_wp2_with fail
    refine bodyPost_ret (v := .tuple #[.slice none 0 0, .bool false]) (by simp [results, Try.results128, go_sem]; try rfl) rfl ?_
    exact ⟨_, false, [], rfl, World.ownsRow_nil _ _ _ _, HT6.out.ex, by simp, .inr ⟨rfl, HV3.out HR.out⟩⟩
  obtain ⟨d, hRd⟩ : ∃ d, R = some (d, s2, q2) := by
    rcases HI.out with ⟨-, d, h, -⟩ | ⟨h, -⟩
    · exact ⟨d, h⟩
    · cases h
  have HRD := Lib.hid hRd
  have HSL := Lib.hid (HLEN.out _ _ _ hRd)
  clear hRd
  have hq : q2.length ≤ 4000 := by have := (HBD.out rfl).2.1; simp at this; omega
  have hqI : (q2.length : Int) ≤ 4000 := by omega
  have HCN := Lib.hid (fun W (h : Blk W sb 4 (s2.map Value.bool)) => tree_contains nn nn sb s2 W h HSL.out (by omega))
  rcases hcn : s2.contains false with _ | _
  rotate_left
  · rw [hcn] at HCN
    have HR := Lib.hid (HV.out d s2 q2 HRD.out (by rw [hcn]; rfl))
    clear hcn
    go_wp2_with fail
    refine (HCN.out _ HT6.out.bs).mono ?_
    rintro e w7 ⟨rfl, rfl⟩
    go_wp2_with fail
    refine bodyPost_ret (v := .tuple #[.slice none 0 0, .bool false]) (by simp [results, Try.results128, go_sem]; try rfl) rfl ?_
    exact ⟨_, false, [], rfl, World.ownsRow_nil _ _ _ _, HT6.out.ex, by simp, .inr ⟨rfl, HR.out⟩⟩
  rw [hcn] at HCN
  have HNC := Lib.hid hcn
  clear hcn
  by_cases h60 : (60 : Int) < (q2.length : Int)
  · have HR := Lib.hid (HV.out d s2 q2 HRD.out (by rw [decide_eq_false (by omega)]; simp))
    have h60d : decide ((60 : Int) < (q2.length : Int)) = true := decide_eq_true h60
    go_wp2_with fail
    refine (HCN.out _ HT6.out.bs).mono ?_
    rintro e w7 ⟨rfl, rfl⟩
    go_wp2_with fail
    refine bodyPost_ret (v := .tuple #[.slice none 0 0, .bool false]) (by simp [results, Try.results128, go_sem]; try rfl) rfl ?_
    exact ⟨_, false, [], rfl, World.ownsRow_nil _ _ _ _, HT6.out.ex, by simp, .inr ⟨rfl, HR.out⟩⟩
  have h60d : decide ((60 : Int) < (q2.length : Int)) = false := decide_eq_false h60
  have h60n : q2.length ≤ 60 := by omega
  go_wp2_with fail
  refine (HCN.out _ HT6.out.bs).mono ?_
  rintro e w7 ⟨rfl, rfl⟩
  clear h60
  go_wp2_with fail
  go_loopw [46] (fun iv wr => ∃ i : Nat, i ≤ q2.length ∧ iv = .int .i64 i ∧ TSt 204 4 9 w.heap.size xb sb w W5 (lnHd rt An nn pn sb false g (.slice Av q2.length cav)) (.slice Av q2.length cav) s2 q2 wr ∧ keysUp q2 i = true) (fun iv _ => q2.length - (intOf iv).toNat)
  case atStart => exact ⟨0, Nat.zero_le _, rfl, HT6.out, by unfold keysUp; simp⟩
  case round =>
    obtain ⟨i, hi, rfl, hT, hku⟩ := hrel
    have HT := Lib.hid hT
    have HKU := Lib.hid hku
    clear hku h60d k0 k1 k2 k3 k4 k5
    obtain ⟨k0, k1, k2, k3, k4, k5⟩ := ln6 hT.bx
    by_cases hin : i < q2.length
    · have hinI : (i : Int) < (q2.length : Int) := by omega
      have HIN := Lib.hid hin
      obtain ⟨x, hx⟩ : ∃ x, q2[i]? = some x := ⟨_, List.getElem?_eq_getElem hin⟩
      obtain ⟨g1, cg, hv, hcx⟩ := hT.key hx
      injection hv with hv1 _ hv2
      subst hv1; subst hv2
      have HXX := Lib.hid hx
      have HKEY := Lib.hid (fun W => tree_isKey x W)
      clear hT hx
      rcases hkb : inB (x.size : Int) 1 30 with _ | _
      · rw [hkb] at HKEY
        have HR := Lib.hid (HV.out d s2 q2 HRD.out (by rw [keyAt_no (keyAt_bad HXX.out hkb) hin, Bool.and_false, Bool.and_false]))
        clear hkb
        go_wp2_with fail
        refine (HKEY.out _).mono ?_
        rintro e w9 ⟨rfl, rfl⟩
        go_wp2_with fail
        refine bodyPost_ret (v := .tuple #[.slice none 0 0, .bool false]) (by simp [results, Try.results128, go_sem]; try rfl) rfl ?_
        exact ⟨_, false, [], rfl, World.ownsRow_nil _ _ _ _, HT.out.ex, by simp, .inr ⟨rfl, HR.out⟩⟩
      rw [hkb] at HKEY
      have HKB := Lib.hid hkb
      clear hkb
      rcases Nat.eq_zero_or_pos i with hi0 | hi0
      · subst hi0
        go_wp2_with fail
        refine (HKEY.out _).mono ?_
        rintro e w9 ⟨rfl, rfl⟩
        go_wp2_with fail
        go_roundw
        case rel => exact ⟨1, HIN.out, by go_num, HT.out, by rw [keysUp_succ, HKU.out, keyAt_zero HXX.out, HKB.out]; rfl⟩
        case measure => simp [intOf]; have := HIN.out; omega
      · obtain ⟨j, hj⟩ : ∃ j, i = j + 1 := ⟨i - 1, by omega⟩
        have HJ := Lib.hid hj
        have hgt : (0 : Int) < (i : Int) := by omega
        have hjn : j < q2.length := by omega
        have hjI : (j : Int) < (q2.length : Int) := by omega
        have hw1 : (i : Int) - 1 = (j : Int) := by omega
        obtain ⟨y, hy⟩ : ∃ y, q2[j]? = some y := ⟨_, List.getElem?_eq_getElem hjn⟩
        obtain ⟨g2, cg2, hv3, hcy⟩ := HT.out.key hy
        injection hv3 with hv3 hv4 hv5
        injection hv3 with hv3
        injection hv3 with hv3 hv6 hv7
        subst hv3
        clear hv4 hv5 hv6 hv7
        have HKA := Lib.hid (show keyAt q2 i = Op.bytesLess y.toList x.toList by have h1 := HXX.out; rw [hj] at h1 ⊢; exact keyAt_succ h1 hy HKB.out)
        clear hj hy
        rcases hbl : Op.bytesLess y.toList x.toList with _ | _
        · have HR := Lib.hid (HV.out d s2 q2 HRD.out (by rw [keyAt_no (HKA.out.trans hbl) hin, Bool.and_false, Bool.and_false]))
          have hbn : (!Op.bytesLess y.toList x.toList) = true := by rw [hbl]; rfl
          go_wp2_with fail
          refine (HKEY.out _).mono ?_
          rintro e w9 ⟨rfl, rfl⟩
          go_wp2_with fail
          refine bodyPost_ret (v := .tuple #[.slice none 0 0, .bool false]) (by simp [results, Try.results128, go_sem]; try rfl) rfl ?_
          exact ⟨_, false, [], rfl, World.ownsRow_nil _ _ _ _, HT.out.ex, by simp, .inr ⟨rfl, HR.out⟩⟩
        · have HKB2 := Lib.hid (HKA.out.trans hbl)
          have hbn : (!Op.bytesLess y.toList x.toList) = false := by rw [hbl]; rfl
          go_wp2_with fail
          refine (HKEY.out _).mono ?_
          rintro e w9 ⟨rfl, rfl⟩
          go_wp2_with fail
          go_roundw
          case rel => exact ⟨i + 1, HIN.out, by go_num, HT.out, by rw [keysUp_succ, HKU.out, HKB2.out]; rfl⟩
          case measure => simp [intOf]; have := HIN.out; omega
    · obtain rfl : i = q2.length := by omega
      have hin0 : ¬ (q2.length : Int) < (q2.length : Int) := by omega
      clear hT hi hin
      go_wp2_with fail
      refine bodyPost_ret (v := .tuple #[.slice Av q2.length cav, .bool true]) (by simp [results, Try.results128, go_sem]; try rfl) rfl ?_
      exact ⟨_, true, q2, rfl, HT.out.row, HT.out.ex, h60n, .inl ⟨rfl, d, HV2.out d s2 q2 HRD.out HNC.out h60n HKU.out⟩⟩
end Go.Proofs.Ytnbfjkebakaigaa
