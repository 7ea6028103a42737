/- The walk of the program's look through a tree (printed by gen_treen.py). -/
import Derived.Test.YtnbfjkebakaigaaTreeS
import Derived.Test.YtnbfjkebakaigaaTreeK
namespace Go.Proofs.Ytnbfjkebakaigaa
open Go.RowKit Go.Deep
set_option linter.unusedVariables false
set_option maxRecDepth 100000
/-- the cells of the program's look -/
def lnHd (root : Int) (An : Option Addr) (nn pn sb : Nat) (bad : Bool) (g : Nat) (v : Value) : List Value := [.int .i64 root, .slice An nn pn, .slice (some ⟨sb, 0, none⟩) nn nn, v, .int .i64 (g : Int), .bool bad]
theorem ln6 {w : World} {xb : Nat} {T : TypeId} {root : Int} {An : Option Addr} {nn pn sb g : Nat} {bad : Bool} {v : Value} (h : Blk w xb T (lnHd root An nn pn sb bad g v)) :
    w.cell? ⟨xb, 0, none⟩ = some (.int .i64 root) ∧ w.cell? ⟨xb, 1, none⟩ = some (.slice An nn pn) ∧ w.cell? ⟨xb, 2, none⟩ = some (.slice (some ⟨sb, 0, none⟩) nn nn) ∧ w.cell? ⟨xb, 3, none⟩ = some v ∧ w.cell? ⟨xb, 4, none⟩ = some (.int .i64 (g : Int)) ∧ w.cell? ⟨xb, 5, none⟩ = some (.bool bad) := by
  unfold lnHd at h
  exact ⟨h.cell (i := 0) (by simp), h.cell (i := 1) (by simp), h.cell (i := 2) (by simp), h.cell (i := 3) (by simp), h.cell (i := 4) (by simp), h.cell (i := 5) (by simp)⟩
theorem tree_isPlace (n : Int) (m : Nat) (w : World) (h2 : m ≤ 1000) : Calls Try.prog 79 #[.int .i64 n, .int .i64 (m : Int)] w fun e w' => e = .returned (.bool (inB n 0 ((m : Int) - 1))) ∧ w = w' := by
  have HI := Lib.hid (fun W => impl_inRange n 0 ((m : Int) - 1) W)
  go_enter Try.func79, Try.ntmps79
  go_wp2_with fail
  refine (HI.out _).mono ?_
  rintro e w' ⟨rfl, rfl⟩
  go_wp2_with fail
  go_ret
  exact ⟨rfl, rfl⟩
set_option maxRecDepth 100000 in
set_option maxHeartbeats 20000000 in
theorem impl_node (B xb sb : Nat) (w0 : World) (root : Int) (An : Option Addr) (nn pn : Nat) (l : List XNode) (hl : l.length = nn) (hnn : nn ≤ 200) (hsm : XSm l) (hN : NsR w0 An l) :
    ∀ (f : Nat) (r : Bool) (k : Int) (s : List Bool) (q : List ByteArray) (v : Value) (g p : Nat) (w : World), unseen s < f → f ≤ 300 → s.length = nn → q.length + 4 * unseen s ≤ 4000 → g ≤ 600 → p + f ≤ 600 → TSt 204 4 9 B xb sb w0 w (lnHd root An nn pn sb false g v) v s q w →
    Calls Try.prog 169 #[.pointer (some ⟨xb, 0, none⟩), .int .i64 k, .int .i64 (p : Int), .bool r] w (IPost 204 4 9 B xb sb w0 w (lnHd root An nn pn sb) p g q (q.length + 4 * unseen s) (visit (l.map XNode.c) f r k s q)) := by
  generalize hNN : l.map XNode.c = N
  have HNN := Lib.hid hNN
  clear hNN
  intro f
  induction f with
  | zero => intro r k s q v g p w h; omega
  | succ f ih =>
  intro r k s q v g p w hu hf hs hpot hg hp hT
  have HIH := Lib.hid ih
  have HT := Lib.hid hT
  have HN := Lib.hid hN
  have HL := Lib.hid hl
  have HSM := Lib.hid hsm
  have HU := Lib.hid hu
  have HPOT := Lib.hid hpot
  have HS := Lib.hid hs
  have HF := Lib.hid hf
  have HP := Lib.hid hp
  have hpI : (p : Int) ≤ 600 := by omega
  have hgI : (g : Int) ≤ 600 := by omega
  clear ih hN hl hsm hu hpot hf hp
  obtain ⟨k0, k1, k2, k3, k4, k5⟩ := ln6 HT.out.bx
  have kf := HT.out.bx.frozen 5
  obtain ⟨Av, cav, hv⟩ := hT.form
  subst hv
  clear hT
  have HIN := Lib.hid (fun W => tree_isPlace k nn W (by omega))
  rcases hin : inB k 0 ((nn : Int) - 1) with _ | _
  · rw [hin] at HIN
    have hV : visit N (f + 1) r k s q = none := visit_bad (by rw [← HNN.out, List.length_map, HL.out]; exact hin)
    rw [hV]
    have X2 := Lib.hid ((HT.out.setV 5 (.bool true) (hd' := lnHd root An nn pn sb true g (.slice Av q.length cav)) rfl))
    clear hin hV
    go_enter Try.func169, Try.ntmps169
    go_wp2_with fail
    refine (HIN.out _).mono ?_
    rintro e w' ⟨rfl, rfl⟩
    go_wp2_with fail
    go_ret
    exact ⟨true, g, _, s, q, rfl, X2.out, .none, fun h => by cases h⟩
  rw [hin] at HIN
  obtain ⟨i1, i2⟩ := inB_true hin
  obtain ⟨kn, rfl⟩ : ∃ kn : Nat, k = (kn : Int) := ⟨k.toNat, by omega⟩
  have hkn : kn < nn := by omega
  have hknI : (kn : Int) < (nn : Int) := by omega
  have hkn0 : (0 : Int) ≤ (kn : Int) := by omega
  clear hin i1 i2
  obtain ⟨sk, hsk⟩ : ∃ sk, s[kn]? = some sk := ⟨_, List.getElem?_eq_getElem (by omega)⟩
  have hsc := HT.out.seen hsk
  rcases sk with _ | _
  rotate_left
  · rw [visit_seen hsk]
    have X2 := Lib.hid ((HT.out.setV 5 (.bool true) (hd' := lnHd root An nn pn sb true g (.slice Av q.length cav)) rfl))
    clear hsk hs
    go_enter Try.func169, Try.ntmps169
    go_wp2_with fail
    refine (HIN.out _).mono ?_
    rintro e w' ⟨rfl, rfl⟩
    go_wp2_with fail
    go_ret
    exact ⟨true, g, _, s, q, rfl, X2.out, .none, fun h => by cases h⟩
  have hkl : kn < l.length := by rw [HL.out]; exact hkn
  have hxc : N[kn]? = some (l[kn]'hkl).c := by rw [← HNN.out, List.getElem?_map, List.getElem?_eq_getElem hkl]; rfl
  have HUN := Lib.hid (unseen_set hsk)
  have HSK := Lib.hid hsk
  have hsm1 := HSM.out _ (List.getElem_mem hkl)
  obtain ⟨bn, on, rfl, hc⟩ := HN.out.1.flat XNode.len (by decide) hkl
  have n0 : w0.cell? ⟨bn, on + kn * 3, none⟩ = some (.bool l[kn].lf) := by exact hc 0 _ rfl
  have n1 : w0.cell? ⟨bn, on + kn * 3 + 1, none⟩ = some (.slice l[kn].Ak l[kn].ks.length l[kn].pk) := by rw [Nat.add_assoc]; exact hc 1 _ rfl
  have n2 : w0.cell? ⟨bn, on + kn * 3 + 2, none⟩ = some (.slice l[kn].Ai l[kn].ds.length l[kn].pi) := by rw [Nat.add_assoc]; exact hc 2 _ rfl
  have hok := HN.out.2 _ (List.getElem_mem hkl)
  generalize l[kn] = x at hxc hsm1 n0 n1 n2 hok
  obtain ⟨lf, ks, ds, Ak, pk, Ai, pi⟩ := x
  have HVI := Lib.hid (visit_at (f := f) (r := r) (q := q) hxc hsk)
  dsimp only at hsm1 n0 n1 n2
  generalize hnk : ks.length = nk at hsm1 n1
  generalize hnd : ds.length = nd at hsm1 n2
  have HNK := Lib.hid hnk
  have HND := Lib.hid hnd
  clear hnk hnd
  obtain ⟨hok1, hok2⟩ := hok
  unfold XNode.ck at hok1
  unfold XNode.ci at hok2
  dsimp only at hok1 hok2
  clear hc
  have HM := Lib.hid (HT.out.mark kn true)
  have HM2 := Lib.hid (HM.out.ext ((Ext.refl (w.setCell ⟨sb, kn, none⟩ (.bool true))).alloc (.cells #[.bool lf, .slice Ak nk pk, .slice Ai nd pi] 193)))
  have HNB := Lib.hid (Blk.new (w.setCell ⟨sb, kn, none⟩ (.bool true)) 193 [.bool lf, .slice Ak nk pk, .slice Ai nd pi])
  have m0 := HM.out.ex.cell n0
  have m1 := HM.out.ex.cell n1
  have m2 := HM.out.ex.cell n2
  have hfs := HT.out.bs.frozen kn
  have hfl := HNB.out.frozen 0
  obtain ⟨j0, j1, j2, j3, j4, j5⟩ := ln6 HM.out.bx
  obtain ⟨p0, p1, p2, p3, p4, p5⟩ := ln6 HM2.out.bx
  have pf := HM2.out.bx.frozen 5
  have b0 := HNB.out.cell (i := 0) (by simp)
  have b1 := HNB.out.cell (i := 1) (by simp)
  have b2 := HNB.out.cell (i := 2) (by simp)
  simp only [World.size_setCell, List.getElem_cons_zero, List.getElem_cons_succ] at b0 b1 b2
  have HHN := Lib.hid hkn
  rw [HVI.out]
  unfold XNode.c
  dsimp only
  clear HVI hxc
  rcases lf with _ | _
  rotate_left
  · obtain ⟨i0, hi, hz0, hz1, hz2⟩ := info_parts info_StringS
    rw [if_pos rfl]
    by_cases hd : 0 < nd
    · have hR : (if 4 < ks.length then none else if leafB r ⟨true, ks, ds⟩ = true then some (1, s.set kn true, q ++ ks) else none : Option VSt) = none := by
        have hlB : leafB r ⟨true, ks, ds⟩ = false := by unfold leafB; simp; intro e; have := HND.out; rw [e] at this; simp at this; omega
        rw [hlB]; simp
      rw [hR]
      have hd' : (0 : Int) < (nd : Int) := by omega
      clear hR hd
      have X1 := HM2.out.setV 5 (.bool true) (hd' := lnHd root (some ⟨bn, on, none⟩) nn pn sb true g (.slice Av q.length cav)) rfl
      have xf4 := X1.bx.frozen 4
      have X2 := Lib.hid (X1.setV 4 (.int .i64 (p : Int)) (hd' := lnHd root (some ⟨bn, on, none⟩) nn pn sb true p (.slice Av q.length cav)) rfl)
      have hne : w.heap.size ≠ xb := Nat.ne_of_gt HT.out.bx.lt
      have HN3 := Lib.hid ((((show Blk _ w.heap.size _ _ by have h := HNB.out; rw [World.size_setCell] at h; exact h).far (p := ⟨xb, 5, none⟩) hne (.bool true))).far (p := ⟨xb, 4, none⟩) hne (.int .i64 (p : Int)))
      clear X1
      go_enter Try.func169, Try.ntmps169
      go_wp2_with fail
      refine (HIN.out _).mono ?_
      rintro e w' ⟨rfl, rfl⟩
      go_wp2_with fail
      generalize ((((w.setCell ⟨sb, kn, none⟩ (.bool true)).alloc (.cells #[.bool true, .slice Ak nk pk, .slice Ai nd pi] 193)).setCell ⟨xb, 5, none⟩ (.bool true)).setCell ⟨xb, 4, none⟩ (.int .i64 (p : Int))) = w3 at HN3 X2 ⊢
      clear m0 m1 m2 hfs hfl j0 j1 j2 j3 j4 j5 p0 p1 p2 p3 p4 p5 pf b0 b1 b2 xf4
      refine rx_start (fun W => Blk W xb 204 (lnHd root (some ⟨bn, on, none⟩) nn pn sb true p (.slice Av q.length cav)) ∧ Blk W w.heap.size 193 [.bool true, .slice Ak nk pk, .slice Ai nd pi]) 10 (by kernel_rfl) ⟨X2.out.bx.ext (Ext.refl w3).drew, HN3.out.ext (Ext.refl w3).drew⟩ (fun hS0 => ?_)
      have HM4 := Lib.hid (X2.out.ext (Ext.refl w3).drew)
      have HN4 := Lib.hid (HN3.out.ext (Ext.refl w3).drew)
      generalize w3.drew = w4 at HM4 HN4 hS0 ⊢
      clear X2 HN3
      (refine rx_take (v := ?_) 0 rfl (by kernel_rfl) (by kernel_rfl) (by kernel_rfl) (by kernel_rfl) (fun _ _ _ h => h) (by rfl) (by assumption) (fun W hW => ?_) ?_; rotate_left; (focus (go_simp; try with_reducible rfl)); (try simp only [List.setIfInBounds_toArray, List.set_cons_succ, List.set_cons_zero]))
      (refine rx_take (v := ?_) 1 rfl (by kernel_rfl) (by kernel_rfl) (by kernel_rfl) (by kernel_rfl) (fun _ _ _ h => h) (by rfl) (by assumption) (fun W hW => ?_) ?_; rotate_left; (focus (go_simp; try with_reducible rfl)); (try simp only [List.setIfInBounds_toArray, List.set_cons_succ, List.set_cons_zero]))
      (refine rx_take (v := ?_) 2 rfl (by kernel_rfl) (by kernel_rfl) (by kernel_rfl) (by kernel_rfl) (fun _ _ _ h => h) (by rfl) (by assumption) (fun W hW => ?_) ?_; rotate_left; (focus (go_simp; try with_reducible rfl)); (try simp only [List.setIfInBounds_toArray, List.set_cons_succ, List.set_cons_zero]))
      (refine rx_take (v := ?_) 3 rfl (by kernel_rfl) (by kernel_rfl) (by kernel_rfl) (by kernel_rfl) (fun _ _ _ h => h) (by rfl) (by assumption) (fun W hW => ?_) ?_; rotate_left; (focus (go_simp; try with_reducible rfl)); (try simp only [List.setIfInBounds_toArray, List.set_cons_succ, List.set_cons_zero]))
      (refine rx_take (v := ?_) 4 rfl (by kernel_rfl) (by kernel_rfl) (by kernel_rfl) (by kernel_rfl) (fun _ _ _ h => h) (by rfl) (by assumption) (fun W hW => ?_) ?_; rotate_left; (focus (obtain ⟨p0, p1, p2, p3, p4, p5⟩ := ln6 hW.1; go_simp; try with_reducible rfl)); (try simp only [List.setIfInBounds_toArray, List.set_cons_succ, List.set_cons_zero]))
      (refine rx_take (v := ?_) 5 rfl (by kernel_rfl) (by kernel_rfl) (by kernel_rfl) (by kernel_rfl) (fun _ _ _ h => h) (by rfl) (by assumption) (fun W hW => ?_) ?_; rotate_left; (focus (go_simp; try with_reducible rfl)); (try simp only [List.setIfInBounds_toArray, List.set_cons_succ, List.set_cons_zero]))
      (refine rx_take (v := ?_) 6 rfl (by kernel_rfl) (by kernel_rfl) (by kernel_rfl) (by kernel_rfl) (fun _ _ _ h => h) (by rfl) (by assumption) (fun W hW => ?_) ?_; rotate_left; (focus (have b1 := hW.2.cell (i := 1) (by simp); simp only [List.getElem_cons_zero, List.getElem_cons_succ] at b1; go_simp; try with_reducible rfl)); (try simp only [List.setIfInBounds_toArray, List.set_cons_succ, List.set_cons_zero]))
      refine rx_one 7 (by kernel_rfl) rfl (by rfl) (fun K hK => ?_)
      refine wp_append_rd (.tmp 109) (.tmp 111) 22 B 9 i0 (.string ByteArray.empty) 16 Try.underlying22 hi hz0 hz1 hz2 rfl _ q.length _ rfl HM4.out.row Ak nk pk _ rfl (by rw [List.length_map]; exact HNK.out) (hok1.ext HM4.out.ex) (str_one ks) (by have := HPOT.out; unfold maxLen; omega) (by have := HPOT.out; omega) HM4.out.hBw ?_
      intro v5 w5 ho5 hg5
      have HM5 := Lib.hid (HM4.out.app (n := q.length + nk) (q' := q ++ ks) (by rw [List.length_append, HNK.out]) (by rw [List.map_append]; exact ho5) hg5)
      have HN5 := Lib.hid (((TFr.refl 204 4 9 w4).row HM4.out.row hg5) _ _ _ HN4.out (by decide) (by decide) (by decide))
      refine hK _ _ (.inr ⟨HM5.out.bx, HN5.out⟩) (fun _ => ?_)
      clear hK K
      try dsimp only
      obtain ⟨A5, cap5, rfl⟩ := own_slice ho5
      have f5 := HM5.out.bx.frozen 3
      obtain ⟨p0, p1, p2, p3, p4, p5⟩ := ln6 HM5.out.bx
      clear ho5 hg5
      have hS5 := And.intro HM5.out.bx HN5.out
      try simp only [List.setIfInBounds_toArray, List.set_cons_succ, List.set_cons_zero]
      (refine rx_take2 (v := ?_) 8 9 rfl (by kernel_rfl) (by kernel_rfl) (by kernel_rfl) (by kernel_rfl) (by kernel_rfl) (by kernel_rfl) (fun _ _ _ h => h) (by rfl) (by assumption) (fun W hW => ?_) ?_; rotate_left; (focus (go_simp; try with_reducible rfl)); (try simp only [List.setIfInBounds_toArray, List.set_cons_succ, List.set_cons_zero]))
      (refine rx_take (v := ?_) 9 rfl (by kernel_rfl) (by kernel_rfl) (by kernel_rfl) (by kernel_rfl) (fun _ _ _ h => h) (by rfl) (by assumption) (fun W hW => ?_) ?_; rotate_left; (focus (go_simp; try with_reducible rfl)); (try simp only [List.setIfInBounds_toArray, List.set_cons_succ, List.set_cons_zero]))
      (refine rx_one 10 (by kernel_rfl) rfl (by rfl) (fun K hK => ?_); go_simp)
      have X5 := Lib.hid (HM5.out.setV 3 (.slice A5 (q.length + nk) cap5) (hd' := lnHd root (some ⟨bn, on, none⟩) nn pn sb true p (.slice A5 (q.length + nk) cap5)) rfl)
      refine hK _ _ (.inl rfl) (fun _ => ?_)
      clear hK K
      try simp only [List.setIfInBounds_toArray, List.set_cons_succ, List.set_cons_zero]
      refine rx_done (by kernel_rfl) ?_
      clear f5 p0 p1 p2 p3 p4 p5
      go_wp2_with fail
      go_ret
      exact ⟨true, p, _, s.set kn true, q ++ ks, rfl, X5.out, .none, fun h => by cases h⟩
    obtain rfl : nd = 0 := by omega
    clear hd
    have hd0 : ds = [] := List.eq_nil_of_length_eq_zero HND.out
    by_cases h4 : 4 < nk
    · rw [if_pos (by rw [HNK.out]; exact h4)]
      have h4' : (4 : Int) < (nk : Int) := by omega
      clear hd0 h4
      have X1 := HM2.out.setV 5 (.bool true) (hd' := lnHd root (some ⟨bn, on, none⟩) nn pn sb true g (.slice Av q.length cav)) rfl
      have xf4 := X1.bx.frozen 4
      have X2 := Lib.hid (X1.setV 4 (.int .i64 (p : Int)) (hd' := lnHd root (some ⟨bn, on, none⟩) nn pn sb true p (.slice Av q.length cav)) rfl)
      have hne : w.heap.size ≠ xb := Nat.ne_of_gt HT.out.bx.lt
      have HN3 := Lib.hid ((((show Blk _ w.heap.size _ _ by have h := HNB.out; rw [World.size_setCell] at h; exact h).far (p := ⟨xb, 5, none⟩) hne (.bool true))).far (p := ⟨xb, 4, none⟩) hne (.int .i64 (p : Int)))
      clear X1
      go_enter Try.func169, Try.ntmps169
      go_wp2_with fail
      refine (HIN.out _).mono ?_
      rintro e w' ⟨rfl, rfl⟩
      go_wp2_with fail
      generalize ((((w.setCell ⟨sb, kn, none⟩ (.bool true)).alloc (.cells #[.bool true, .slice Ak nk pk, .slice Ai 0 pi] 193)).setCell ⟨xb, 5, none⟩ (.bool true)).setCell ⟨xb, 4, none⟩ (.int .i64 (p : Int))) = w3 at HN3 X2 ⊢
      clear m0 m1 m2 hfs hfl j0 j1 j2 j3 j4 j5 p0 p1 p2 p3 p4 p5 pf b0 b1 b2 xf4
      refine rx_start (fun W => Blk W xb 204 (lnHd root (some ⟨bn, on, none⟩) nn pn sb true p (.slice Av q.length cav)) ∧ Blk W w.heap.size 193 [.bool true, .slice Ak nk pk, .slice Ai 0 pi]) 10 (by kernel_rfl) ⟨X2.out.bx.ext (Ext.refl w3).drew, HN3.out.ext (Ext.refl w3).drew⟩ (fun hS0 => ?_)
      have HM4 := Lib.hid (X2.out.ext (Ext.refl w3).drew)
      have HN4 := Lib.hid (HN3.out.ext (Ext.refl w3).drew)
      generalize w3.drew = w4 at HM4 HN4 hS0 ⊢
      clear X2 HN3
      (refine rx_take (v := ?_) 0 rfl (by kernel_rfl) (by kernel_rfl) (by kernel_rfl) (by kernel_rfl) (fun _ _ _ h => h) (by rfl) (by assumption) (fun W hW => ?_) ?_; rotate_left; (focus (go_simp; try with_reducible rfl)); (try simp only [List.setIfInBounds_toArray, List.set_cons_succ, List.set_cons_zero]))
      (refine rx_take (v := ?_) 1 rfl (by kernel_rfl) (by kernel_rfl) (by kernel_rfl) (by kernel_rfl) (fun _ _ _ h => h) (by rfl) (by assumption) (fun W hW => ?_) ?_; rotate_left; (focus (go_simp; try with_reducible rfl)); (try simp only [List.setIfInBounds_toArray, List.set_cons_succ, List.set_cons_zero]))
      (refine rx_take (v := ?_) 2 rfl (by kernel_rfl) (by kernel_rfl) (by kernel_rfl) (by kernel_rfl) (fun _ _ _ h => h) (by rfl) (by assumption) (fun W hW => ?_) ?_; rotate_left; (focus (go_simp; try with_reducible rfl)); (try simp only [List.setIfInBounds_toArray, List.set_cons_succ, List.set_cons_zero]))
      (refine rx_take (v := ?_) 3 rfl (by kernel_rfl) (by kernel_rfl) (by kernel_rfl) (by kernel_rfl) (fun _ _ _ h => h) (by rfl) (by assumption) (fun W hW => ?_) ?_; rotate_left; (focus (go_simp; try with_reducible rfl)); (try simp only [List.setIfInBounds_toArray, List.set_cons_succ, List.set_cons_zero]))
      (refine rx_take (v := ?_) 4 rfl (by kernel_rfl) (by kernel_rfl) (by kernel_rfl) (by kernel_rfl) (fun _ _ _ h => h) (by rfl) (by assumption) (fun W hW => ?_) ?_; rotate_left; (focus (obtain ⟨p0, p1, p2, p3, p4, p5⟩ := ln6 hW.1; go_simp; try with_reducible rfl)); (try simp only [List.setIfInBounds_toArray, List.set_cons_succ, List.set_cons_zero]))
      (refine rx_take (v := ?_) 5 rfl (by kernel_rfl) (by kernel_rfl) (by kernel_rfl) (by kernel_rfl) (fun _ _ _ h => h) (by rfl) (by assumption) (fun W hW => ?_) ?_; rotate_left; (focus (go_simp; try with_reducible rfl)); (try simp only [List.setIfInBounds_toArray, List.set_cons_succ, List.set_cons_zero]))
      (refine rx_take (v := ?_) 6 rfl (by kernel_rfl) (by kernel_rfl) (by kernel_rfl) (by kernel_rfl) (fun _ _ _ h => h) (by rfl) (by assumption) (fun W hW => ?_) ?_; rotate_left; (focus (have b1 := hW.2.cell (i := 1) (by simp); simp only [List.getElem_cons_zero, List.getElem_cons_succ] at b1; go_simp; try with_reducible rfl)); (try simp only [List.setIfInBounds_toArray, List.set_cons_succ, List.set_cons_zero]))
      refine rx_one 7 (by kernel_rfl) rfl (by rfl) (fun K hK => ?_)
      refine wp_append_rd (.tmp 109) (.tmp 111) 22 B 9 i0 (.string ByteArray.empty) 16 Try.underlying22 hi hz0 hz1 hz2 rfl _ q.length _ rfl HM4.out.row Ak nk pk _ rfl (by rw [List.length_map]; exact HNK.out) (hok1.ext HM4.out.ex) (str_one ks) (by have := HPOT.out; unfold maxLen; omega) (by have := HPOT.out; omega) HM4.out.hBw ?_
      intro v5 w5 ho5 hg5
      have HM5 := Lib.hid (HM4.out.app (n := q.length + nk) (q' := q ++ ks) (by rw [List.length_append, HNK.out]) (by rw [List.map_append]; exact ho5) hg5)
      have HN5 := Lib.hid (((TFr.refl 204 4 9 w4).row HM4.out.row hg5) _ _ _ HN4.out (by decide) (by decide) (by decide))
      refine hK _ _ (.inr ⟨HM5.out.bx, HN5.out⟩) (fun _ => ?_)
      clear hK K
      try dsimp only
      obtain ⟨A5, cap5, rfl⟩ := own_slice ho5
      have f5 := HM5.out.bx.frozen 3
      obtain ⟨p0, p1, p2, p3, p4, p5⟩ := ln6 HM5.out.bx
      clear ho5 hg5
      have hS5 := And.intro HM5.out.bx HN5.out
      try simp only [List.setIfInBounds_toArray, List.set_cons_succ, List.set_cons_zero]
      (refine rx_take2 (v := ?_) 8 9 rfl (by kernel_rfl) (by kernel_rfl) (by kernel_rfl) (by kernel_rfl) (by kernel_rfl) (by kernel_rfl) (fun _ _ _ h => h) (by rfl) (by assumption) (fun W hW => ?_) ?_; rotate_left; (focus (go_simp; try with_reducible rfl)); (try simp only [List.setIfInBounds_toArray, List.set_cons_succ, List.set_cons_zero]))
      (refine rx_take (v := ?_) 9 rfl (by kernel_rfl) (by kernel_rfl) (by kernel_rfl) (by kernel_rfl) (fun _ _ _ h => h) (by rfl) (by assumption) (fun W hW => ?_) ?_; rotate_left; (focus (go_simp; try with_reducible rfl)); (try simp only [List.setIfInBounds_toArray, List.set_cons_succ, List.set_cons_zero]))
      (refine rx_one 10 (by kernel_rfl) rfl (by rfl) (fun K hK => ?_); go_simp)
      have X5 := Lib.hid (HM5.out.setV 3 (.slice A5 (q.length + nk) cap5) (hd' := lnHd root (some ⟨bn, on, none⟩) nn pn sb true p (.slice A5 (q.length + nk) cap5)) rfl)
      refine hK _ _ (.inl rfl) (fun _ => ?_)
      clear hK K
      try simp only [List.setIfInBounds_toArray, List.set_cons_succ, List.set_cons_zero]
      refine rx_done (by kernel_rfl) ?_
      clear f5 p0 p1 p2 p3 p4 p5
      go_wp2_with fail
      go_ret
      exact ⟨true, p, _, s.set kn true, q ++ ks, rfl, X5.out, .none, fun h => by cases h⟩
    rw [if_neg (by rw [HNK.out]; exact h4)]
    have h4' : (nk : Int) ≤ 4 := by omega
    have h4d : decide ((4 : Int) < (nk : Int)) = false := decide_eq_false (by omega)
    by_cases hk0 : nk = 0
    · subst hk0
      have hk1 : ks = [] := List.eq_nil_of_length_eq_zero HNK.out
      rcases r with _ | _
      · rw [show leafB false ⟨true, ks, ds⟩ = false by rw [hd0, hk1]; rfl, if_neg (by decide)]
        clear hd0 hk1 h4 h4' h4d
        have X1 := HM2.out.setV 5 (.bool true) (hd' := lnHd root (some ⟨bn, on, none⟩) nn pn sb true g (.slice Av q.length cav)) rfl
        have xf4 := X1.bx.frozen 4
        have X2 := Lib.hid (X1.setV 4 (.int .i64 (p : Int)) (hd' := lnHd root (some ⟨bn, on, none⟩) nn pn sb true p (.slice Av q.length cav)) rfl)
        have hne : w.heap.size ≠ xb := Nat.ne_of_gt HT.out.bx.lt
        have HN3 := Lib.hid ((((show Blk _ w.heap.size _ _ by have h := HNB.out; rw [World.size_setCell] at h; exact h).far (p := ⟨xb, 5, none⟩) hne (.bool true))).far (p := ⟨xb, 4, none⟩) hne (.int .i64 (p : Int)))
        clear X1
        go_enter Try.func169, Try.ntmps169
        go_wp2_with fail
        refine (HIN.out _).mono ?_
        rintro e w' ⟨rfl, rfl⟩
        go_wp2_with fail
        generalize ((((w.setCell ⟨sb, kn, none⟩ (.bool true)).alloc (.cells #[.bool true, .slice Ak 0 pk, .slice Ai 0 pi] 193)).setCell ⟨xb, 5, none⟩ (.bool true)).setCell ⟨xb, 4, none⟩ (.int .i64 (p : Int))) = w3 at HN3 X2 ⊢
        clear m0 m1 m2 hfs hfl j0 j1 j2 j3 j4 j5 p0 p1 p2 p3 p4 p5 pf b0 b1 b2 xf4
        refine rx_start (fun W => Blk W xb 204 (lnHd root (some ⟨bn, on, none⟩) nn pn sb true p (.slice Av q.length cav)) ∧ Blk W w.heap.size 193 [.bool true, .slice Ak 0 pk, .slice Ai 0 pi]) 10 (by kernel_rfl) ⟨X2.out.bx.ext (Ext.refl w3).drew, HN3.out.ext (Ext.refl w3).drew⟩ (fun hS0 => ?_)
        have HM4 := Lib.hid (X2.out.ext (Ext.refl w3).drew)
        have HN4 := Lib.hid (HN3.out.ext (Ext.refl w3).drew)
        generalize w3.drew = w4 at HM4 HN4 hS0 ⊢
        clear X2 HN3
        (refine rx_take (v := ?_) 0 rfl (by kernel_rfl) (by kernel_rfl) (by kernel_rfl) (by kernel_rfl) (fun _ _ _ h => h) (by rfl) (by assumption) (fun W hW => ?_) ?_; rotate_left; (focus (go_simp; try with_reducible rfl)); (try simp only [List.setIfInBounds_toArray, List.set_cons_succ, List.set_cons_zero]))
        (refine rx_take (v := ?_) 1 rfl (by kernel_rfl) (by kernel_rfl) (by kernel_rfl) (by kernel_rfl) (fun _ _ _ h => h) (by rfl) (by assumption) (fun W hW => ?_) ?_; rotate_left; (focus (go_simp; try with_reducible rfl)); (try simp only [List.setIfInBounds_toArray, List.set_cons_succ, List.set_cons_zero]))
        (refine rx_take (v := ?_) 2 rfl (by kernel_rfl) (by kernel_rfl) (by kernel_rfl) (by kernel_rfl) (fun _ _ _ h => h) (by rfl) (by assumption) (fun W hW => ?_) ?_; rotate_left; (focus (go_simp; try with_reducible rfl)); (try simp only [List.setIfInBounds_toArray, List.set_cons_succ, List.set_cons_zero]))
        (refine rx_take (v := ?_) 3 rfl (by kernel_rfl) (by kernel_rfl) (by kernel_rfl) (by kernel_rfl) (fun _ _ _ h => h) (by rfl) (by assumption) (fun W hW => ?_) ?_; rotate_left; (focus (go_simp; try with_reducible rfl)); (try simp only [List.setIfInBounds_toArray, List.set_cons_succ, List.set_cons_zero]))
        (refine rx_take (v := ?_) 4 rfl (by kernel_rfl) (by kernel_rfl) (by kernel_rfl) (by kernel_rfl) (fun _ _ _ h => h) (by rfl) (by assumption) (fun W hW => ?_) ?_; rotate_left; (focus (obtain ⟨p0, p1, p2, p3, p4, p5⟩ := ln6 hW.1; go_simp; try with_reducible rfl)); (try simp only [List.setIfInBounds_toArray, List.set_cons_succ, List.set_cons_zero]))
        (refine rx_take (v := ?_) 5 rfl (by kernel_rfl) (by kernel_rfl) (by kernel_rfl) (by kernel_rfl) (fun _ _ _ h => h) (by rfl) (by assumption) (fun W hW => ?_) ?_; rotate_left; (focus (go_simp; try with_reducible rfl)); (try simp only [List.setIfInBounds_toArray, List.set_cons_succ, List.set_cons_zero]))
        (refine rx_take (v := ?_) 6 rfl (by kernel_rfl) (by kernel_rfl) (by kernel_rfl) (by kernel_rfl) (fun _ _ _ h => h) (by rfl) (by assumption) (fun W hW => ?_) ?_; rotate_left; (focus (have b1 := hW.2.cell (i := 1) (by simp); simp only [List.getElem_cons_zero, List.getElem_cons_succ] at b1; go_simp; try with_reducible rfl)); (try simp only [List.setIfInBounds_toArray, List.set_cons_succ, List.set_cons_zero]))
        refine rx_one 7 (by kernel_rfl) rfl (by rfl) (fun K hK => ?_)
        refine wp_append_rd (.tmp 109) (.tmp 111) 22 B 9 i0 (.string ByteArray.empty) 16 Try.underlying22 hi hz0 hz1 hz2 rfl _ q.length _ rfl HM4.out.row Ak 0 pk _ rfl (by rw [List.length_map]; exact HNK.out) (hok1.ext HM4.out.ex) (str_one ks) (by have := HPOT.out; unfold maxLen; omega) (by have := HPOT.out; omega) HM4.out.hBw ?_
        intro v5 w5 ho5 hg5
        have HM5 := Lib.hid (HM4.out.app (n := q.length + 0) (q' := q ++ ks) (by rw [List.length_append, HNK.out]) (by rw [List.map_append]; exact ho5) hg5)
        have HN5 := Lib.hid (((TFr.refl 204 4 9 w4).row HM4.out.row hg5) _ _ _ HN4.out (by decide) (by decide) (by decide))
        refine hK _ _ (.inr ⟨HM5.out.bx, HN5.out⟩) (fun _ => ?_)
        clear hK K
        try dsimp only
        obtain ⟨A5, cap5, rfl⟩ := own_slice ho5
        have f5 := HM5.out.bx.frozen 3
        obtain ⟨p0, p1, p2, p3, p4, p5⟩ := ln6 HM5.out.bx
        clear ho5 hg5
        have hS5 := And.intro HM5.out.bx HN5.out
        try simp only [List.setIfInBounds_toArray, List.set_cons_succ, List.set_cons_zero]
        (refine rx_take2 (v := ?_) 8 9 rfl (by kernel_rfl) (by kernel_rfl) (by kernel_rfl) (by kernel_rfl) (by kernel_rfl) (by kernel_rfl) (fun _ _ _ h => h) (by rfl) (by assumption) (fun W hW => ?_) ?_; rotate_left; (focus (go_simp; try with_reducible rfl)); (try simp only [List.setIfInBounds_toArray, List.set_cons_succ, List.set_cons_zero]))
        (refine rx_take (v := ?_) 9 rfl (by kernel_rfl) (by kernel_rfl) (by kernel_rfl) (by kernel_rfl) (fun _ _ _ h => h) (by rfl) (by assumption) (fun W hW => ?_) ?_; rotate_left; (focus (go_simp; try with_reducible rfl)); (try simp only [List.setIfInBounds_toArray, List.set_cons_succ, List.set_cons_zero]))
        (refine rx_one 10 (by kernel_rfl) rfl (by rfl) (fun K hK => ?_); go_simp)
        have X5 := Lib.hid (HM5.out.setV 3 (.slice A5 (q.length + 0) cap5) (hd' := lnHd root (some ⟨bn, on, none⟩) nn pn sb true p (.slice A5 (q.length + 0) cap5)) rfl)
        refine hK _ _ (.inl rfl) (fun _ => ?_)
        clear hK K
        try simp only [List.setIfInBounds_toArray, List.set_cons_succ, List.set_cons_zero]
        refine rx_done (by kernel_rfl) ?_
        clear f5 p0 p1 p2 p3 p4 p5
        go_wp2_with fail
        go_ret
        exact ⟨true, p, _, s.set kn true, q ++ ks, rfl, X5.out, .none, fun h => by cases h⟩
      · rw [show leafB true ⟨true, ks, ds⟩ = true by rw [hd0, hk1]; rfl, if_pos rfl]
        clear hd0 hk1 h4 h4' h4d
        rcases Nat.eq_zero_or_pos g with hg0 | hg0
        · subst hg0
          have X1 := HM2.out.setV 5 (.bool false) (hd' := lnHd root (some ⟨bn, on, none⟩) nn pn sb false 0 (.slice Av q.length cav)) rfl
          have xf4 := X1.bx.frozen 4
          have X2 := Lib.hid (X1.setV 4 (.int .i64 (p : Int)) (hd' := lnHd root (some ⟨bn, on, none⟩) nn pn sb false p (.slice Av q.length cav)) rfl)
          have hne : w.heap.size ≠ xb := Nat.ne_of_gt HT.out.bx.lt
          have HN3 := Lib.hid ((((show Blk _ w.heap.size _ _ by have h := HNB.out; rw [World.size_setCell] at h; exact h).far (p := ⟨xb, 5, none⟩) hne (.bool false))).far (p := ⟨xb, 4, none⟩) hne (.int .i64 (p : Int)))
          clear X1
          go_enter Try.func169, Try.ntmps169
          go_wp2_with fail
          refine (HIN.out _).mono ?_
          rintro e w' ⟨rfl, rfl⟩
          go_wp2_with fail
          generalize ((((w.setCell ⟨sb, kn, none⟩ (.bool true)).alloc (.cells #[.bool true, .slice Ak 0 pk, .slice Ai 0 pi] 193)).setCell ⟨xb, 5, none⟩ (.bool false)).setCell ⟨xb, 4, none⟩ (.int .i64 (p : Int))) = w3 at HN3 X2 ⊢
          clear m0 m1 m2 hfs hfl j0 j1 j2 j3 j4 j5 p0 p1 p2 p3 p4 p5 pf b0 b1 b2 xf4
          refine rx_start (fun W => Blk W xb 204 (lnHd root (some ⟨bn, on, none⟩) nn pn sb false p (.slice Av q.length cav)) ∧ Blk W w.heap.size 193 [.bool true, .slice Ak 0 pk, .slice Ai 0 pi]) 10 (by kernel_rfl) ⟨X2.out.bx.ext (Ext.refl w3).drew, HN3.out.ext (Ext.refl w3).drew⟩ (fun hS0 => ?_)
          have HM4 := Lib.hid (X2.out.ext (Ext.refl w3).drew)
          have HN4 := Lib.hid (HN3.out.ext (Ext.refl w3).drew)
          generalize w3.drew = w4 at HM4 HN4 hS0 ⊢
          clear X2 HN3
          (refine rx_take (v := ?_) 0 rfl (by kernel_rfl) (by kernel_rfl) (by kernel_rfl) (by kernel_rfl) (fun _ _ _ h => h) (by rfl) (by assumption) (fun W hW => ?_) ?_; rotate_left; (focus (go_simp; try with_reducible rfl)); (try simp only [List.setIfInBounds_toArray, List.set_cons_succ, List.set_cons_zero]))
          (refine rx_take (v := ?_) 1 rfl (by kernel_rfl) (by kernel_rfl) (by kernel_rfl) (by kernel_rfl) (fun _ _ _ h => h) (by rfl) (by assumption) (fun W hW => ?_) ?_; rotate_left; (focus (go_simp; try with_reducible rfl)); (try simp only [List.setIfInBounds_toArray, List.set_cons_succ, List.set_cons_zero]))
          (refine rx_take (v := ?_) 2 rfl (by kernel_rfl) (by kernel_rfl) (by kernel_rfl) (by kernel_rfl) (fun _ _ _ h => h) (by rfl) (by assumption) (fun W hW => ?_) ?_; rotate_left; (focus (go_simp; try with_reducible rfl)); (try simp only [List.setIfInBounds_toArray, List.set_cons_succ, List.set_cons_zero]))
          (refine rx_take (v := ?_) 3 rfl (by kernel_rfl) (by kernel_rfl) (by kernel_rfl) (by kernel_rfl) (fun _ _ _ h => h) (by rfl) (by assumption) (fun W hW => ?_) ?_; rotate_left; (focus (go_simp; try with_reducible rfl)); (try simp only [List.setIfInBounds_toArray, List.set_cons_succ, List.set_cons_zero]))
          (refine rx_take (v := ?_) 4 rfl (by kernel_rfl) (by kernel_rfl) (by kernel_rfl) (by kernel_rfl) (fun _ _ _ h => h) (by rfl) (by assumption) (fun W hW => ?_) ?_; rotate_left; (focus (obtain ⟨p0, p1, p2, p3, p4, p5⟩ := ln6 hW.1; go_simp; try with_reducible rfl)); (try simp only [List.setIfInBounds_toArray, List.set_cons_succ, List.set_cons_zero]))
          (refine rx_take (v := ?_) 5 rfl (by kernel_rfl) (by kernel_rfl) (by kernel_rfl) (by kernel_rfl) (fun _ _ _ h => h) (by rfl) (by assumption) (fun W hW => ?_) ?_; rotate_left; (focus (go_simp; try with_reducible rfl)); (try simp only [List.setIfInBounds_toArray, List.set_cons_succ, List.set_cons_zero]))
          (refine rx_take (v := ?_) 6 rfl (by kernel_rfl) (by kernel_rfl) (by kernel_rfl) (by kernel_rfl) (fun _ _ _ h => h) (by rfl) (by assumption) (fun W hW => ?_) ?_; rotate_left; (focus (have b1 := hW.2.cell (i := 1) (by simp); simp only [List.getElem_cons_zero, List.getElem_cons_succ] at b1; go_simp; try with_reducible rfl)); (try simp only [List.setIfInBounds_toArray, List.set_cons_succ, List.set_cons_zero]))
          refine rx_one 7 (by kernel_rfl) rfl (by rfl) (fun K hK => ?_)
          refine wp_append_rd (.tmp 109) (.tmp 111) 22 B 9 i0 (.string ByteArray.empty) 16 Try.underlying22 hi hz0 hz1 hz2 rfl _ q.length _ rfl HM4.out.row Ak 0 pk _ rfl (by rw [List.length_map]; exact HNK.out) (hok1.ext HM4.out.ex) (str_one ks) (by have := HPOT.out; unfold maxLen; omega) (by have := HPOT.out; omega) HM4.out.hBw ?_
          intro v5 w5 ho5 hg5
          have HM5 := Lib.hid (HM4.out.app (n := q.length + 0) (q' := q ++ ks) (by rw [List.length_append, HNK.out]) (by rw [List.map_append]; exact ho5) hg5)
          have HN5 := Lib.hid (((TFr.refl 204 4 9 w4).row HM4.out.row hg5) _ _ _ HN4.out (by decide) (by decide) (by decide))
          refine hK _ _ (.inr ⟨HM5.out.bx, HN5.out⟩) (fun _ => ?_)
          clear hK K
          try dsimp only
          obtain ⟨A5, cap5, rfl⟩ := own_slice ho5
          have f5 := HM5.out.bx.frozen 3
          obtain ⟨p0, p1, p2, p3, p4, p5⟩ := ln6 HM5.out.bx
          clear ho5 hg5
          have hS5 := And.intro HM5.out.bx HN5.out
          try simp only [List.setIfInBounds_toArray, List.set_cons_succ, List.set_cons_zero]
          (refine rx_take2 (v := ?_) 8 9 rfl (by kernel_rfl) (by kernel_rfl) (by kernel_rfl) (by kernel_rfl) (by kernel_rfl) (by kernel_rfl) (fun _ _ _ h => h) (by rfl) (by assumption) (fun W hW => ?_) ?_; rotate_left; (focus (go_simp; try with_reducible rfl)); (try simp only [List.setIfInBounds_toArray, List.set_cons_succ, List.set_cons_zero]))
          (refine rx_take (v := ?_) 9 rfl (by kernel_rfl) (by kernel_rfl) (by kernel_rfl) (by kernel_rfl) (fun _ _ _ h => h) (by rfl) (by assumption) (fun W hW => ?_) ?_; rotate_left; (focus (go_simp; try with_reducible rfl)); (try simp only [List.setIfInBounds_toArray, List.set_cons_succ, List.set_cons_zero]))
          (refine rx_one 10 (by kernel_rfl) rfl (by rfl) (fun K hK => ?_); go_simp)
          have X5 := Lib.hid (HM5.out.setV 3 (.slice A5 (q.length + 0) cap5) (hd' := lnHd root (some ⟨bn, on, none⟩) nn pn sb false p (.slice A5 (q.length + 0) cap5)) rfl)
          refine hK _ _ (.inl rfl) (fun _ => ?_)
          clear hK K
          try simp only [List.setIfInBounds_toArray, List.set_cons_succ, List.set_cons_zero]
          refine rx_done (by kernel_rfl) ?_
          clear f5 p0 p1 p2 p3 p4 p5
          go_wp2_with fail
          go_ret
          exact ⟨false, p, _, s.set kn true, q ++ ks, rfl, X5.out, .good (.inl rfl) rfl, fun _ => ⟨by simp, by rw [List.length_append]; have := HUN.out; have := HNK.out; omega, by omega⟩⟩
        · have hg1 : ((g : Int) != 0) = true := by rw [bne_iff_ne]; omega
          by_cases hgp : g = p
          · subst hgp
            have hg2 : ((g : Int) != (g : Int)) = false := by simp
            have X1 := HM2.out.setV 5 (.bool false) (hd' := lnHd root (some ⟨bn, on, none⟩) nn pn sb false g (.slice Av q.length cav)) rfl
            have xf4 := X1.bx.frozen 4
            have X2 := Lib.hid (X1.setV 4 (.int .i64 (g : Int)) (hd' := lnHd root (some ⟨bn, on, none⟩) nn pn sb false g (.slice Av q.length cav)) rfl)
            have hne : w.heap.size ≠ xb := Nat.ne_of_gt HT.out.bx.lt
            have HN3 := Lib.hid ((((show Blk _ w.heap.size _ _ by have h := HNB.out; rw [World.size_setCell] at h; exact h).far (p := ⟨xb, 5, none⟩) hne (.bool false))).far (p := ⟨xb, 4, none⟩) hne (.int .i64 (g : Int)))
            clear X1
            go_enter Try.func169, Try.ntmps169
            go_wp2_with fail
            refine (HIN.out _).mono ?_
            rintro e w' ⟨rfl, rfl⟩
            go_wp2_with fail
            generalize ((((w.setCell ⟨sb, kn, none⟩ (.bool true)).alloc (.cells #[.bool true, .slice Ak 0 pk, .slice Ai 0 pi] 193)).setCell ⟨xb, 5, none⟩ (.bool false)).setCell ⟨xb, 4, none⟩ (.int .i64 (g : Int))) = w3 at HN3 X2 ⊢
            clear m0 m1 m2 hfs hfl j0 j1 j2 j3 j4 j5 p0 p1 p2 p3 p4 p5 pf b0 b1 b2 xf4
            refine rx_start (fun W => Blk W xb 204 (lnHd root (some ⟨bn, on, none⟩) nn pn sb false g (.slice Av q.length cav)) ∧ Blk W w.heap.size 193 [.bool true, .slice Ak 0 pk, .slice Ai 0 pi]) 10 (by kernel_rfl) ⟨X2.out.bx.ext (Ext.refl w3).drew, HN3.out.ext (Ext.refl w3).drew⟩ (fun hS0 => ?_)
            have HM4 := Lib.hid (X2.out.ext (Ext.refl w3).drew)
            have HN4 := Lib.hid (HN3.out.ext (Ext.refl w3).drew)
            generalize w3.drew = w4 at HM4 HN4 hS0 ⊢
            clear X2 HN3
            (refine rx_take (v := ?_) 0 rfl (by kernel_rfl) (by kernel_rfl) (by kernel_rfl) (by kernel_rfl) (fun _ _ _ h => h) (by rfl) (by assumption) (fun W hW => ?_) ?_; rotate_left; (focus (go_simp; try with_reducible rfl)); (try simp only [List.setIfInBounds_toArray, List.set_cons_succ, List.set_cons_zero]))
            (refine rx_take (v := ?_) 1 rfl (by kernel_rfl) (by kernel_rfl) (by kernel_rfl) (by kernel_rfl) (fun _ _ _ h => h) (by rfl) (by assumption) (fun W hW => ?_) ?_; rotate_left; (focus (go_simp; try with_reducible rfl)); (try simp only [List.setIfInBounds_toArray, List.set_cons_succ, List.set_cons_zero]))
            (refine rx_take (v := ?_) 2 rfl (by kernel_rfl) (by kernel_rfl) (by kernel_rfl) (by kernel_rfl) (fun _ _ _ h => h) (by rfl) (by assumption) (fun W hW => ?_) ?_; rotate_left; (focus (go_simp; try with_reducible rfl)); (try simp only [List.setIfInBounds_toArray, List.set_cons_succ, List.set_cons_zero]))
            (refine rx_take (v := ?_) 3 rfl (by kernel_rfl) (by kernel_rfl) (by kernel_rfl) (by kernel_rfl) (fun _ _ _ h => h) (by rfl) (by assumption) (fun W hW => ?_) ?_; rotate_left; (focus (go_simp; try with_reducible rfl)); (try simp only [List.setIfInBounds_toArray, List.set_cons_succ, List.set_cons_zero]))
            (refine rx_take (v := ?_) 4 rfl (by kernel_rfl) (by kernel_rfl) (by kernel_rfl) (by kernel_rfl) (fun _ _ _ h => h) (by rfl) (by assumption) (fun W hW => ?_) ?_; rotate_left; (focus (obtain ⟨p0, p1, p2, p3, p4, p5⟩ := ln6 hW.1; go_simp; try with_reducible rfl)); (try simp only [List.setIfInBounds_toArray, List.set_cons_succ, List.set_cons_zero]))
            (refine rx_take (v := ?_) 5 rfl (by kernel_rfl) (by kernel_rfl) (by kernel_rfl) (by kernel_rfl) (fun _ _ _ h => h) (by rfl) (by assumption) (fun W hW => ?_) ?_; rotate_left; (focus (go_simp; try with_reducible rfl)); (try simp only [List.setIfInBounds_toArray, List.set_cons_succ, List.set_cons_zero]))
            (refine rx_take (v := ?_) 6 rfl (by kernel_rfl) (by kernel_rfl) (by kernel_rfl) (by kernel_rfl) (fun _ _ _ h => h) (by rfl) (by assumption) (fun W hW => ?_) ?_; rotate_left; (focus (have b1 := hW.2.cell (i := 1) (by simp); simp only [List.getElem_cons_zero, List.getElem_cons_succ] at b1; go_simp; try with_reducible rfl)); (try simp only [List.setIfInBounds_toArray, List.set_cons_succ, List.set_cons_zero]))
            refine rx_one 7 (by kernel_rfl) rfl (by rfl) (fun K hK => ?_)
            refine wp_append_rd (.tmp 109) (.tmp 111) 22 B 9 i0 (.string ByteArray.empty) 16 Try.underlying22 hi hz0 hz1 hz2 rfl _ q.length _ rfl HM4.out.row Ak 0 pk _ rfl (by rw [List.length_map]; exact HNK.out) (hok1.ext HM4.out.ex) (str_one ks) (by have := HPOT.out; unfold maxLen; omega) (by have := HPOT.out; omega) HM4.out.hBw ?_
            intro v5 w5 ho5 hg5
            have HM5 := Lib.hid (HM4.out.app (n := q.length + 0) (q' := q ++ ks) (by rw [List.length_append, HNK.out]) (by rw [List.map_append]; exact ho5) hg5)
            have HN5 := Lib.hid (((TFr.refl 204 4 9 w4).row HM4.out.row hg5) _ _ _ HN4.out (by decide) (by decide) (by decide))
            refine hK _ _ (.inr ⟨HM5.out.bx, HN5.out⟩) (fun _ => ?_)
            clear hK K
            try dsimp only
            obtain ⟨A5, cap5, rfl⟩ := own_slice ho5
            have f5 := HM5.out.bx.frozen 3
            obtain ⟨p0, p1, p2, p3, p4, p5⟩ := ln6 HM5.out.bx
            clear ho5 hg5
            have hS5 := And.intro HM5.out.bx HN5.out
            try simp only [List.setIfInBounds_toArray, List.set_cons_succ, List.set_cons_zero]
            (refine rx_take2 (v := ?_) 8 9 rfl (by kernel_rfl) (by kernel_rfl) (by kernel_rfl) (by kernel_rfl) (by kernel_rfl) (by kernel_rfl) (fun _ _ _ h => h) (by rfl) (by assumption) (fun W hW => ?_) ?_; rotate_left; (focus (go_simp; try with_reducible rfl)); (try simp only [List.setIfInBounds_toArray, List.set_cons_succ, List.set_cons_zero]))
            (refine rx_take (v := ?_) 9 rfl (by kernel_rfl) (by kernel_rfl) (by kernel_rfl) (by kernel_rfl) (fun _ _ _ h => h) (by rfl) (by assumption) (fun W hW => ?_) ?_; rotate_left; (focus (go_simp; try with_reducible rfl)); (try simp only [List.setIfInBounds_toArray, List.set_cons_succ, List.set_cons_zero]))
            (refine rx_one 10 (by kernel_rfl) rfl (by rfl) (fun K hK => ?_); go_simp)
            have X5 := Lib.hid (HM5.out.setV 3 (.slice A5 (q.length + 0) cap5) (hd' := lnHd root (some ⟨bn, on, none⟩) nn pn sb false g (.slice A5 (q.length + 0) cap5)) rfl)
            refine hK _ _ (.inl rfl) (fun _ => ?_)
            clear hK K
            try simp only [List.setIfInBounds_toArray, List.set_cons_succ, List.set_cons_zero]
            refine rx_done (by kernel_rfl) ?_
            clear f5 p0 p1 p2 p3 p4 p5
            go_wp2_with fail
            go_ret
            exact ⟨false, g, _, s.set kn true, q ++ ks, rfl, X5.out, .good (.inr rfl) rfl, fun _ => ⟨by simp, by rw [List.length_append]; have := HUN.out; have := HNK.out; omega, by omega⟩⟩
          · have hg2 : ((g : Int) != (p : Int)) = true := by rw [bne_iff_ne]; omega
            have X1 := HM2.out.setV 5 (.bool true) (hd' := lnHd root (some ⟨bn, on, none⟩) nn pn sb true g (.slice Av q.length cav)) rfl
            have xf4 := X1.bx.frozen 4
            have X2 := Lib.hid (X1.setV 4 (.int .i64 (p : Int)) (hd' := lnHd root (some ⟨bn, on, none⟩) nn pn sb true p (.slice Av q.length cav)) rfl)
            have hne : w.heap.size ≠ xb := Nat.ne_of_gt HT.out.bx.lt
            have HN3 := Lib.hid ((((show Blk _ w.heap.size _ _ by have h := HNB.out; rw [World.size_setCell] at h; exact h).far (p := ⟨xb, 5, none⟩) hne (.bool true))).far (p := ⟨xb, 4, none⟩) hne (.int .i64 (p : Int)))
            clear X1
            go_enter Try.func169, Try.ntmps169
            go_wp2_with fail
            refine (HIN.out _).mono ?_
            rintro e w' ⟨rfl, rfl⟩
            go_wp2_with fail
            generalize ((((w.setCell ⟨sb, kn, none⟩ (.bool true)).alloc (.cells #[.bool true, .slice Ak 0 pk, .slice Ai 0 pi] 193)).setCell ⟨xb, 5, none⟩ (.bool true)).setCell ⟨xb, 4, none⟩ (.int .i64 (p : Int))) = w3 at HN3 X2 ⊢
            clear m0 m1 m2 hfs hfl j0 j1 j2 j3 j4 j5 p0 p1 p2 p3 p4 p5 pf b0 b1 b2 xf4
            refine rx_start (fun W => Blk W xb 204 (lnHd root (some ⟨bn, on, none⟩) nn pn sb true p (.slice Av q.length cav)) ∧ Blk W w.heap.size 193 [.bool true, .slice Ak 0 pk, .slice Ai 0 pi]) 10 (by kernel_rfl) ⟨X2.out.bx.ext (Ext.refl w3).drew, HN3.out.ext (Ext.refl w3).drew⟩ (fun hS0 => ?_)
            have HM4 := Lib.hid (X2.out.ext (Ext.refl w3).drew)
            have HN4 := Lib.hid (HN3.out.ext (Ext.refl w3).drew)
            generalize w3.drew = w4 at HM4 HN4 hS0 ⊢
            clear X2 HN3
            (refine rx_take (v := ?_) 0 rfl (by kernel_rfl) (by kernel_rfl) (by kernel_rfl) (by kernel_rfl) (fun _ _ _ h => h) (by rfl) (by assumption) (fun W hW => ?_) ?_; rotate_left; (focus (go_simp; try with_reducible rfl)); (try simp only [List.setIfInBounds_toArray, List.set_cons_succ, List.set_cons_zero]))
            (refine rx_take (v := ?_) 1 rfl (by kernel_rfl) (by kernel_rfl) (by kernel_rfl) (by kernel_rfl) (fun _ _ _ h => h) (by rfl) (by assumption) (fun W hW => ?_) ?_; rotate_left; (focus (go_simp; try with_reducible rfl)); (try simp only [List.setIfInBounds_toArray, List.set_cons_succ, List.set_cons_zero]))
            (refine rx_take (v := ?_) 2 rfl (by kernel_rfl) (by kernel_rfl) (by kernel_rfl) (by kernel_rfl) (fun _ _ _ h => h) (by rfl) (by assumption) (fun W hW => ?_) ?_; rotate_left; (focus (go_simp; try with_reducible rfl)); (try simp only [List.setIfInBounds_toArray, List.set_cons_succ, List.set_cons_zero]))
            (refine rx_take (v := ?_) 3 rfl (by kernel_rfl) (by kernel_rfl) (by kernel_rfl) (by kernel_rfl) (fun _ _ _ h => h) (by rfl) (by assumption) (fun W hW => ?_) ?_; rotate_left; (focus (go_simp; try with_reducible rfl)); (try simp only [List.setIfInBounds_toArray, List.set_cons_succ, List.set_cons_zero]))
            (refine rx_take (v := ?_) 4 rfl (by kernel_rfl) (by kernel_rfl) (by kernel_rfl) (by kernel_rfl) (fun _ _ _ h => h) (by rfl) (by assumption) (fun W hW => ?_) ?_; rotate_left; (focus (obtain ⟨p0, p1, p2, p3, p4, p5⟩ := ln6 hW.1; go_simp; try with_reducible rfl)); (try simp only [List.setIfInBounds_toArray, List.set_cons_succ, List.set_cons_zero]))
            (refine rx_take (v := ?_) 5 rfl (by kernel_rfl) (by kernel_rfl) (by kernel_rfl) (by kernel_rfl) (fun _ _ _ h => h) (by rfl) (by assumption) (fun W hW => ?_) ?_; rotate_left; (focus (go_simp; try with_reducible rfl)); (try simp only [List.setIfInBounds_toArray, List.set_cons_succ, List.set_cons_zero]))
            (refine rx_take (v := ?_) 6 rfl (by kernel_rfl) (by kernel_rfl) (by kernel_rfl) (by kernel_rfl) (fun _ _ _ h => h) (by rfl) (by assumption) (fun W hW => ?_) ?_; rotate_left; (focus (have b1 := hW.2.cell (i := 1) (by simp); simp only [List.getElem_cons_zero, List.getElem_cons_succ] at b1; go_simp; try with_reducible rfl)); (try simp only [List.setIfInBounds_toArray, List.set_cons_succ, List.set_cons_zero]))
            refine rx_one 7 (by kernel_rfl) rfl (by rfl) (fun K hK => ?_)
            refine wp_append_rd (.tmp 109) (.tmp 111) 22 B 9 i0 (.string ByteArray.empty) 16 Try.underlying22 hi hz0 hz1 hz2 rfl _ q.length _ rfl HM4.out.row Ak 0 pk _ rfl (by rw [List.length_map]; exact HNK.out) (hok1.ext HM4.out.ex) (str_one ks) (by have := HPOT.out; unfold maxLen; omega) (by have := HPOT.out; omega) HM4.out.hBw ?_
            intro v5 w5 ho5 hg5
            have HM5 := Lib.hid (HM4.out.app (n := q.length + 0) (q' := q ++ ks) (by rw [List.length_append, HNK.out]) (by rw [List.map_append]; exact ho5) hg5)
            have HN5 := Lib.hid (((TFr.refl 204 4 9 w4).row HM4.out.row hg5) _ _ _ HN4.out (by decide) (by decide) (by decide))
            refine hK _ _ (.inr ⟨HM5.out.bx, HN5.out⟩) (fun _ => ?_)
            clear hK K
            try dsimp only
            obtain ⟨A5, cap5, rfl⟩ := own_slice ho5
            have f5 := HM5.out.bx.frozen 3
            obtain ⟨p0, p1, p2, p3, p4, p5⟩ := ln6 HM5.out.bx
            clear ho5 hg5
            have hS5 := And.intro HM5.out.bx HN5.out
            try simp only [List.setIfInBounds_toArray, List.set_cons_succ, List.set_cons_zero]
            (refine rx_take2 (v := ?_) 8 9 rfl (by kernel_rfl) (by kernel_rfl) (by kernel_rfl) (by kernel_rfl) (by kernel_rfl) (by kernel_rfl) (fun _ _ _ h => h) (by rfl) (by assumption) (fun W hW => ?_) ?_; rotate_left; (focus (go_simp; try with_reducible rfl)); (try simp only [List.setIfInBounds_toArray, List.set_cons_succ, List.set_cons_zero]))
            (refine rx_take (v := ?_) 9 rfl (by kernel_rfl) (by kernel_rfl) (by kernel_rfl) (by kernel_rfl) (fun _ _ _ h => h) (by rfl) (by assumption) (fun W hW => ?_) ?_; rotate_left; (focus (go_simp; try with_reducible rfl)); (try simp only [List.setIfInBounds_toArray, List.set_cons_succ, List.set_cons_zero]))
            (refine rx_one 10 (by kernel_rfl) rfl (by rfl) (fun K hK => ?_); go_simp)
            have X5 := Lib.hid (HM5.out.setV 3 (.slice A5 (q.length + 0) cap5) (hd' := lnHd root (some ⟨bn, on, none⟩) nn pn sb true p (.slice A5 (q.length + 0) cap5)) rfl)
            refine hK _ _ (.inl rfl) (fun _ => ?_)
            clear hK K
            try simp only [List.setIfInBounds_toArray, List.set_cons_succ, List.set_cons_zero]
            refine rx_done (by kernel_rfl) ?_
            clear f5 p0 p1 p2 p3 p4 p5
            go_wp2_with fail
            go_ret
            exact ⟨true, p, _, s.set kn true, q ++ ks, rfl, X5.out, .bad (by omega) (by omega), fun h => by cases h⟩
    · have hlB : leafB r ⟨true, ks, ds⟩ = true := by unfold leafB; rw [hd0]; simp; right; have := HNK.out; omega
      have hk0' : ((nk : Int) == 0) = false := by rw [beq_eq_false_iff_ne]; omega
      rw [hlB, if_pos rfl]
      clear hlB hd0 hk0
      rcases Nat.eq_zero_or_pos g with hg0 | hg0
      · subst hg0
        have X1 := HM2.out.setV 5 (.bool false) (hd' := lnHd root (some ⟨bn, on, none⟩) nn pn sb false 0 (.slice Av q.length cav)) rfl
        have xf4 := X1.bx.frozen 4
        have X2 := Lib.hid (X1.setV 4 (.int .i64 (p : Int)) (hd' := lnHd root (some ⟨bn, on, none⟩) nn pn sb false p (.slice Av q.length cav)) rfl)
        have hne : w.heap.size ≠ xb := Nat.ne_of_gt HT.out.bx.lt
        have HN3 := Lib.hid ((((show Blk _ w.heap.size _ _ by have h := HNB.out; rw [World.size_setCell] at h; exact h).far (p := ⟨xb, 5, none⟩) hne (.bool false))).far (p := ⟨xb, 4, none⟩) hne (.int .i64 (p : Int)))
        clear X1
        go_enter Try.func169, Try.ntmps169
        go_wp2_with fail
        refine (HIN.out _).mono ?_
        rintro e w' ⟨rfl, rfl⟩
        go_wp2_with fail
        generalize ((((w.setCell ⟨sb, kn, none⟩ (.bool true)).alloc (.cells #[.bool true, .slice Ak nk pk, .slice Ai 0 pi] 193)).setCell ⟨xb, 5, none⟩ (.bool false)).setCell ⟨xb, 4, none⟩ (.int .i64 (p : Int))) = w3 at HN3 X2 ⊢
        clear m0 m1 m2 hfs hfl j0 j1 j2 j3 j4 j5 p0 p1 p2 p3 p4 p5 pf b0 b1 b2 xf4
        refine rx_start (fun W => Blk W xb 204 (lnHd root (some ⟨bn, on, none⟩) nn pn sb false p (.slice Av q.length cav)) ∧ Blk W w.heap.size 193 [.bool true, .slice Ak nk pk, .slice Ai 0 pi]) 10 (by kernel_rfl) ⟨X2.out.bx.ext (Ext.refl w3).drew, HN3.out.ext (Ext.refl w3).drew⟩ (fun hS0 => ?_)
        have HM4 := Lib.hid (X2.out.ext (Ext.refl w3).drew)
        have HN4 := Lib.hid (HN3.out.ext (Ext.refl w3).drew)
        generalize w3.drew = w4 at HM4 HN4 hS0 ⊢
        clear X2 HN3
        (refine rx_take (v := ?_) 0 rfl (by kernel_rfl) (by kernel_rfl) (by kernel_rfl) (by kernel_rfl) (fun _ _ _ h => h) (by rfl) (by assumption) (fun W hW => ?_) ?_; rotate_left; (focus (go_simp; try with_reducible rfl)); (try simp only [List.setIfInBounds_toArray, List.set_cons_succ, List.set_cons_zero]))
        (refine rx_take (v := ?_) 1 rfl (by kernel_rfl) (by kernel_rfl) (by kernel_rfl) (by kernel_rfl) (fun _ _ _ h => h) (by rfl) (by assumption) (fun W hW => ?_) ?_; rotate_left; (focus (go_simp; try with_reducible rfl)); (try simp only [List.setIfInBounds_toArray, List.set_cons_succ, List.set_cons_zero]))
        (refine rx_take (v := ?_) 2 rfl (by kernel_rfl) (by kernel_rfl) (by kernel_rfl) (by kernel_rfl) (fun _ _ _ h => h) (by rfl) (by assumption) (fun W hW => ?_) ?_; rotate_left; (focus (go_simp; try with_reducible rfl)); (try simp only [List.setIfInBounds_toArray, List.set_cons_succ, List.set_cons_zero]))
        (refine rx_take (v := ?_) 3 rfl (by kernel_rfl) (by kernel_rfl) (by kernel_rfl) (by kernel_rfl) (fun _ _ _ h => h) (by rfl) (by assumption) (fun W hW => ?_) ?_; rotate_left; (focus (go_simp; try with_reducible rfl)); (try simp only [List.setIfInBounds_toArray, List.set_cons_succ, List.set_cons_zero]))
        (refine rx_take (v := ?_) 4 rfl (by kernel_rfl) (by kernel_rfl) (by kernel_rfl) (by kernel_rfl) (fun _ _ _ h => h) (by rfl) (by assumption) (fun W hW => ?_) ?_; rotate_left; (focus (obtain ⟨p0, p1, p2, p3, p4, p5⟩ := ln6 hW.1; go_simp; try with_reducible rfl)); (try simp only [List.setIfInBounds_toArray, List.set_cons_succ, List.set_cons_zero]))
        (refine rx_take (v := ?_) 5 rfl (by kernel_rfl) (by kernel_rfl) (by kernel_rfl) (by kernel_rfl) (fun _ _ _ h => h) (by rfl) (by assumption) (fun W hW => ?_) ?_; rotate_left; (focus (go_simp; try with_reducible rfl)); (try simp only [List.setIfInBounds_toArray, List.set_cons_succ, List.set_cons_zero]))
        (refine rx_take (v := ?_) 6 rfl (by kernel_rfl) (by kernel_rfl) (by kernel_rfl) (by kernel_rfl) (fun _ _ _ h => h) (by rfl) (by assumption) (fun W hW => ?_) ?_; rotate_left; (focus (have b1 := hW.2.cell (i := 1) (by simp); simp only [List.getElem_cons_zero, List.getElem_cons_succ] at b1; go_simp; try with_reducible rfl)); (try simp only [List.setIfInBounds_toArray, List.set_cons_succ, List.set_cons_zero]))
        refine rx_one 7 (by kernel_rfl) rfl (by rfl) (fun K hK => ?_)
        refine wp_append_rd (.tmp 109) (.tmp 111) 22 B 9 i0 (.string ByteArray.empty) 16 Try.underlying22 hi hz0 hz1 hz2 rfl _ q.length _ rfl HM4.out.row Ak nk pk _ rfl (by rw [List.length_map]; exact HNK.out) (hok1.ext HM4.out.ex) (str_one ks) (by have := HPOT.out; unfold maxLen; omega) (by have := HPOT.out; omega) HM4.out.hBw ?_
        intro v5 w5 ho5 hg5
        have HM5 := Lib.hid (HM4.out.app (n := q.length + nk) (q' := q ++ ks) (by rw [List.length_append, HNK.out]) (by rw [List.map_append]; exact ho5) hg5)
        have HN5 := Lib.hid (((TFr.refl 204 4 9 w4).row HM4.out.row hg5) _ _ _ HN4.out (by decide) (by decide) (by decide))
        refine hK _ _ (.inr ⟨HM5.out.bx, HN5.out⟩) (fun _ => ?_)
        clear hK K
        try dsimp only
        obtain ⟨A5, cap5, rfl⟩ := own_slice ho5
        have f5 := HM5.out.bx.frozen 3
        obtain ⟨p0, p1, p2, p3, p4, p5⟩ := ln6 HM5.out.bx
        clear ho5 hg5
        have hS5 := And.intro HM5.out.bx HN5.out
        try simp only [List.setIfInBounds_toArray, List.set_cons_succ, List.set_cons_zero]
        (refine rx_take2 (v := ?_) 8 9 rfl (by kernel_rfl) (by kernel_rfl) (by kernel_rfl) (by kernel_rfl) (by kernel_rfl) (by kernel_rfl) (fun _ _ _ h => h) (by rfl) (by assumption) (fun W hW => ?_) ?_; rotate_left; (focus (go_simp; try with_reducible rfl)); (try simp only [List.setIfInBounds_toArray, List.set_cons_succ, List.set_cons_zero]))
        (refine rx_take (v := ?_) 9 rfl (by kernel_rfl) (by kernel_rfl) (by kernel_rfl) (by kernel_rfl) (fun _ _ _ h => h) (by rfl) (by assumption) (fun W hW => ?_) ?_; rotate_left; (focus (go_simp; try with_reducible rfl)); (try simp only [List.setIfInBounds_toArray, List.set_cons_succ, List.set_cons_zero]))
        (refine rx_one 10 (by kernel_rfl) rfl (by rfl) (fun K hK => ?_); go_simp)
        have X5 := Lib.hid (HM5.out.setV 3 (.slice A5 (q.length + nk) cap5) (hd' := lnHd root (some ⟨bn, on, none⟩) nn pn sb false p (.slice A5 (q.length + nk) cap5)) rfl)
        refine hK _ _ (.inl rfl) (fun _ => ?_)
        clear hK K
        try simp only [List.setIfInBounds_toArray, List.set_cons_succ, List.set_cons_zero]
        refine rx_done (by kernel_rfl) ?_
        clear f5 p0 p1 p2 p3 p4 p5
        go_wp2_with fail
        go_ret
        exact ⟨false, p, _, s.set kn true, q ++ ks, rfl, X5.out, .good (.inl rfl) rfl, fun _ => ⟨by simp, by rw [List.length_append]; have := HUN.out; have := HNK.out; omega, by omega⟩⟩
      · have hg1 : ((g : Int) != 0) = true := by rw [bne_iff_ne]; omega
        by_cases hgp : g = p
        · subst hgp
          have hg2 : ((g : Int) != (g : Int)) = false := by simp
          have X1 := HM2.out.setV 5 (.bool false) (hd' := lnHd root (some ⟨bn, on, none⟩) nn pn sb false g (.slice Av q.length cav)) rfl
          have xf4 := X1.bx.frozen 4
          have X2 := Lib.hid (X1.setV 4 (.int .i64 (g : Int)) (hd' := lnHd root (some ⟨bn, on, none⟩) nn pn sb false g (.slice Av q.length cav)) rfl)
          have hne : w.heap.size ≠ xb := Nat.ne_of_gt HT.out.bx.lt
          have HN3 := Lib.hid ((((show Blk _ w.heap.size _ _ by have h := HNB.out; rw [World.size_setCell] at h; exact h).far (p := ⟨xb, 5, none⟩) hne (.bool false))).far (p := ⟨xb, 4, none⟩) hne (.int .i64 (g : Int)))
          clear X1
          go_enter Try.func169, Try.ntmps169
          go_wp2_with fail
          refine (HIN.out _).mono ?_
          rintro e w' ⟨rfl, rfl⟩
          go_wp2_with fail
          generalize ((((w.setCell ⟨sb, kn, none⟩ (.bool true)).alloc (.cells #[.bool true, .slice Ak nk pk, .slice Ai 0 pi] 193)).setCell ⟨xb, 5, none⟩ (.bool false)).setCell ⟨xb, 4, none⟩ (.int .i64 (g : Int))) = w3 at HN3 X2 ⊢
          clear m0 m1 m2 hfs hfl j0 j1 j2 j3 j4 j5 p0 p1 p2 p3 p4 p5 pf b0 b1 b2 xf4
          refine rx_start (fun W => Blk W xb 204 (lnHd root (some ⟨bn, on, none⟩) nn pn sb false g (.slice Av q.length cav)) ∧ Blk W w.heap.size 193 [.bool true, .slice Ak nk pk, .slice Ai 0 pi]) 10 (by kernel_rfl) ⟨X2.out.bx.ext (Ext.refl w3).drew, HN3.out.ext (Ext.refl w3).drew⟩ (fun hS0 => ?_)
          have HM4 := Lib.hid (X2.out.ext (Ext.refl w3).drew)
          have HN4 := Lib.hid (HN3.out.ext (Ext.refl w3).drew)
          generalize w3.drew = w4 at HM4 HN4 hS0 ⊢
          clear X2 HN3
          (refine rx_take (v := ?_) 0 rfl (by kernel_rfl) (by kernel_rfl) (by kernel_rfl) (by kernel_rfl) (fun _ _ _ h => h) (by rfl) (by assumption) (fun W hW => ?_) ?_; rotate_left; (focus (go_simp; try with_reducible rfl)); (try simp only [List.setIfInBounds_toArray, List.set_cons_succ, List.set_cons_zero]))
          (refine rx_take (v := ?_) 1 rfl (by kernel_rfl) (by kernel_rfl) (by kernel_rfl) (by kernel_rfl) (fun _ _ _ h => h) (by rfl) (by assumption) (fun W hW => ?_) ?_; rotate_left; (focus (go_simp; try with_reducible rfl)); (try simp only [List.setIfInBounds_toArray, List.set_cons_succ, List.set_cons_zero]))
          (refine rx_take (v := ?_) 2 rfl (by kernel_rfl) (by kernel_rfl) (by kernel_rfl) (by kernel_rfl) (fun _ _ _ h => h) (by rfl) (by assumption) (fun W hW => ?_) ?_; rotate_left; (focus (go_simp; try with_reducible rfl)); (try simp only [List.setIfInBounds_toArray, List.set_cons_succ, List.set_cons_zero]))
          (refine rx_take (v := ?_) 3 rfl (by kernel_rfl) (by kernel_rfl) (by kernel_rfl) (by kernel_rfl) (fun _ _ _ h => h) (by rfl) (by assumption) (fun W hW => ?_) ?_; rotate_left; (focus (go_simp; try with_reducible rfl)); (try simp only [List.setIfInBounds_toArray, List.set_cons_succ, List.set_cons_zero]))
          (refine rx_take (v := ?_) 4 rfl (by kernel_rfl) (by kernel_rfl) (by kernel_rfl) (by kernel_rfl) (fun _ _ _ h => h) (by rfl) (by assumption) (fun W hW => ?_) ?_; rotate_left; (focus (obtain ⟨p0, p1, p2, p3, p4, p5⟩ := ln6 hW.1; go_simp; try with_reducible rfl)); (try simp only [List.setIfInBounds_toArray, List.set_cons_succ, List.set_cons_zero]))
          (refine rx_take (v := ?_) 5 rfl (by kernel_rfl) (by kernel_rfl) (by kernel_rfl) (by kernel_rfl) (fun _ _ _ h => h) (by rfl) (by assumption) (fun W hW => ?_) ?_; rotate_left; (focus (go_simp; try with_reducible rfl)); (try simp only [List.setIfInBounds_toArray, List.set_cons_succ, List.set_cons_zero]))
          (refine rx_take (v := ?_) 6 rfl (by kernel_rfl) (by kernel_rfl) (by kernel_rfl) (by kernel_rfl) (fun _ _ _ h => h) (by rfl) (by assumption) (fun W hW => ?_) ?_; rotate_left; (focus (have b1 := hW.2.cell (i := 1) (by simp); simp only [List.getElem_cons_zero, List.getElem_cons_succ] at b1; go_simp; try with_reducible rfl)); (try simp only [List.setIfInBounds_toArray, List.set_cons_succ, List.set_cons_zero]))
          refine rx_one 7 (by kernel_rfl) rfl (by rfl) (fun K hK => ?_)
          refine wp_append_rd (.tmp 109) (.tmp 111) 22 B 9 i0 (.string ByteArray.empty) 16 Try.underlying22 hi hz0 hz1 hz2 rfl _ q.length _ rfl HM4.out.row Ak nk pk _ rfl (by rw [List.length_map]; exact HNK.out) (hok1.ext HM4.out.ex) (str_one ks) (by have := HPOT.out; unfold maxLen; omega) (by have := HPOT.out; omega) HM4.out.hBw ?_
          intro v5 w5 ho5 hg5
          have HM5 := Lib.hid (HM4.out.app (n := q.length + nk) (q' := q ++ ks) (by rw [List.length_append, HNK.out]) (by rw [List.map_append]; exact ho5) hg5)
          have HN5 := Lib.hid (((TFr.refl 204 4 9 w4).row HM4.out.row hg5) _ _ _ HN4.out (by decide) (by decide) (by decide))
          refine hK _ _ (.inr ⟨HM5.out.bx, HN5.out⟩) (fun _ => ?_)
          clear hK K
          try dsimp only
          obtain ⟨A5, cap5, rfl⟩ := own_slice ho5
          have f5 := HM5.out.bx.frozen 3
          obtain ⟨p0, p1, p2, p3, p4, p5⟩ := ln6 HM5.out.bx
          clear ho5 hg5
          have hS5 := And.intro HM5.out.bx HN5.out
          try simp only [List.setIfInBounds_toArray, List.set_cons_succ, List.set_cons_zero]
          (refine rx_take2 (v := ?_) 8 9 rfl (by kernel_rfl) (by kernel_rfl) (by kernel_rfl) (by kernel_rfl) (by kernel_rfl) (by kernel_rfl) (fun _ _ _ h => h) (by rfl) (by assumption) (fun W hW => ?_) ?_; rotate_left; (focus (go_simp; try with_reducible rfl)); (try simp only [List.setIfInBounds_toArray, List.set_cons_succ, List.set_cons_zero]))
          (refine rx_take (v := ?_) 9 rfl (by kernel_rfl) (by kernel_rfl) (by kernel_rfl) (by kernel_rfl) (fun _ _ _ h => h) (by rfl) (by assumption) (fun W hW => ?_) ?_; rotate_left; (focus (go_simp; try with_reducible rfl)); (try simp only [List.setIfInBounds_toArray, List.set_cons_succ, List.set_cons_zero]))
          (refine rx_one 10 (by kernel_rfl) rfl (by rfl) (fun K hK => ?_); go_simp)
          have X5 := Lib.hid (HM5.out.setV 3 (.slice A5 (q.length + nk) cap5) (hd' := lnHd root (some ⟨bn, on, none⟩) nn pn sb false g (.slice A5 (q.length + nk) cap5)) rfl)
          refine hK _ _ (.inl rfl) (fun _ => ?_)
          clear hK K
          try simp only [List.setIfInBounds_toArray, List.set_cons_succ, List.set_cons_zero]
          refine rx_done (by kernel_rfl) ?_
          clear f5 p0 p1 p2 p3 p4 p5
          go_wp2_with fail
          go_ret
          exact ⟨false, g, _, s.set kn true, q ++ ks, rfl, X5.out, .good (.inr rfl) rfl, fun _ => ⟨by simp, by rw [List.length_append]; have := HUN.out; have := HNK.out; omega, by omega⟩⟩
        · have hg2 : ((g : Int) != (p : Int)) = true := by rw [bne_iff_ne]; omega
          have X1 := HM2.out.setV 5 (.bool true) (hd' := lnHd root (some ⟨bn, on, none⟩) nn pn sb true g (.slice Av q.length cav)) rfl
          have xf4 := X1.bx.frozen 4
          have X2 := Lib.hid (X1.setV 4 (.int .i64 (p : Int)) (hd' := lnHd root (some ⟨bn, on, none⟩) nn pn sb true p (.slice Av q.length cav)) rfl)
          have hne : w.heap.size ≠ xb := Nat.ne_of_gt HT.out.bx.lt
          have HN3 := Lib.hid ((((show Blk _ w.heap.size _ _ by have h := HNB.out; rw [World.size_setCell] at h; exact h).far (p := ⟨xb, 5, none⟩) hne (.bool true))).far (p := ⟨xb, 4, none⟩) hne (.int .i64 (p : Int)))
          clear X1
          go_enter Try.func169, Try.ntmps169
          go_wp2_with fail
          refine (HIN.out _).mono ?_
          rintro e w' ⟨rfl, rfl⟩
          go_wp2_with fail
          generalize ((((w.setCell ⟨sb, kn, none⟩ (.bool true)).alloc (.cells #[.bool true, .slice Ak nk pk, .slice Ai 0 pi] 193)).setCell ⟨xb, 5, none⟩ (.bool true)).setCell ⟨xb, 4, none⟩ (.int .i64 (p : Int))) = w3 at HN3 X2 ⊢
          clear m0 m1 m2 hfs hfl j0 j1 j2 j3 j4 j5 p0 p1 p2 p3 p4 p5 pf b0 b1 b2 xf4
          refine rx_start (fun W => Blk W xb 204 (lnHd root (some ⟨bn, on, none⟩) nn pn sb true p (.slice Av q.length cav)) ∧ Blk W w.heap.size 193 [.bool true, .slice Ak nk pk, .slice Ai 0 pi]) 10 (by kernel_rfl) ⟨X2.out.bx.ext (Ext.refl w3).drew, HN3.out.ext (Ext.refl w3).drew⟩ (fun hS0 => ?_)
          have HM4 := Lib.hid (X2.out.ext (Ext.refl w3).drew)
          have HN4 := Lib.hid (HN3.out.ext (Ext.refl w3).drew)
          generalize w3.drew = w4 at HM4 HN4 hS0 ⊢
          clear X2 HN3
          (refine rx_take (v := ?_) 0 rfl (by kernel_rfl) (by kernel_rfl) (by kernel_rfl) (by kernel_rfl) (fun _ _ _ h => h) (by rfl) (by assumption) (fun W hW => ?_) ?_; rotate_left; (focus (go_simp; try with_reducible rfl)); (try simp only [List.setIfInBounds_toArray, List.set_cons_succ, List.set_cons_zero]))
          (refine rx_take (v := ?_) 1 rfl (by kernel_rfl) (by kernel_rfl) (by kernel_rfl) (by kernel_rfl) (fun _ _ _ h => h) (by rfl) (by assumption) (fun W hW => ?_) ?_; rotate_left; (focus (go_simp; try with_reducible rfl)); (try simp only [List.setIfInBounds_toArray, List.set_cons_succ, List.set_cons_zero]))
          (refine rx_take (v := ?_) 2 rfl (by kernel_rfl) (by kernel_rfl) (by kernel_rfl) (by kernel_rfl) (fun _ _ _ h => h) (by rfl) (by assumption) (fun W hW => ?_) ?_; rotate_left; (focus (go_simp; try with_reducible rfl)); (try simp only [List.setIfInBounds_toArray, List.set_cons_succ, List.set_cons_zero]))
          (refine rx_take (v := ?_) 3 rfl (by kernel_rfl) (by kernel_rfl) (by kernel_rfl) (by kernel_rfl) (fun _ _ _ h => h) (by rfl) (by assumption) (fun W hW => ?_) ?_; rotate_left; (focus (go_simp; try with_reducible rfl)); (try simp only [List.setIfInBounds_toArray, List.set_cons_succ, List.set_cons_zero]))
          (refine rx_take (v := ?_) 4 rfl (by kernel_rfl) (by kernel_rfl) (by kernel_rfl) (by kernel_rfl) (fun _ _ _ h => h) (by rfl) (by assumption) (fun W hW => ?_) ?_; rotate_left; (focus (obtain ⟨p0, p1, p2, p3, p4, p5⟩ := ln6 hW.1; go_simp; try with_reducible rfl)); (try simp only [List.setIfInBounds_toArray, List.set_cons_succ, List.set_cons_zero]))
          (refine rx_take (v := ?_) 5 rfl (by kernel_rfl) (by kernel_rfl) (by kernel_rfl) (by kernel_rfl) (fun _ _ _ h => h) (by rfl) (by assumption) (fun W hW => ?_) ?_; rotate_left; (focus (go_simp; try with_reducible rfl)); (try simp only [List.setIfInBounds_toArray, List.set_cons_succ, List.set_cons_zero]))
          (refine rx_take (v := ?_) 6 rfl (by kernel_rfl) (by kernel_rfl) (by kernel_rfl) (by kernel_rfl) (fun _ _ _ h => h) (by rfl) (by assumption) (fun W hW => ?_) ?_; rotate_left; (focus (have b1 := hW.2.cell (i := 1) (by simp); simp only [List.getElem_cons_zero, List.getElem_cons_succ] at b1; go_simp; try with_reducible rfl)); (try simp only [List.setIfInBounds_toArray, List.set_cons_succ, List.set_cons_zero]))
          refine rx_one 7 (by kernel_rfl) rfl (by rfl) (fun K hK => ?_)
          refine wp_append_rd (.tmp 109) (.tmp 111) 22 B 9 i0 (.string ByteArray.empty) 16 Try.underlying22 hi hz0 hz1 hz2 rfl _ q.length _ rfl HM4.out.row Ak nk pk _ rfl (by rw [List.length_map]; exact HNK.out) (hok1.ext HM4.out.ex) (str_one ks) (by have := HPOT.out; unfold maxLen; omega) (by have := HPOT.out; omega) HM4.out.hBw ?_
          intro v5 w5 ho5 hg5
          have HM5 := Lib.hid (HM4.out.app (n := q.length + nk) (q' := q ++ ks) (by rw [List.length_append, HNK.out]) (by rw [List.map_append]; exact ho5) hg5)
          have HN5 := Lib.hid (((TFr.refl 204 4 9 w4).row HM4.out.row hg5) _ _ _ HN4.out (by decide) (by decide) (by decide))
          refine hK _ _ (.inr ⟨HM5.out.bx, HN5.out⟩) (fun _ => ?_)
          clear hK K
          try dsimp only
          obtain ⟨A5, cap5, rfl⟩ := own_slice ho5
          have f5 := HM5.out.bx.frozen 3
          obtain ⟨p0, p1, p2, p3, p4, p5⟩ := ln6 HM5.out.bx
          clear ho5 hg5
          have hS5 := And.intro HM5.out.bx HN5.out
          try simp only [List.setIfInBounds_toArray, List.set_cons_succ, List.set_cons_zero]
          (refine rx_take2 (v := ?_) 8 9 rfl (by kernel_rfl) (by kernel_rfl) (by kernel_rfl) (by kernel_rfl) (by kernel_rfl) (by kernel_rfl) (fun _ _ _ h => h) (by rfl) (by assumption) (fun W hW => ?_) ?_; rotate_left; (focus (go_simp; try with_reducible rfl)); (try simp only [List.setIfInBounds_toArray, List.set_cons_succ, List.set_cons_zero]))
          (refine rx_take (v := ?_) 9 rfl (by kernel_rfl) (by kernel_rfl) (by kernel_rfl) (by kernel_rfl) (fun _ _ _ h => h) (by rfl) (by assumption) (fun W hW => ?_) ?_; rotate_left; (focus (go_simp; try with_reducible rfl)); (try simp only [List.setIfInBounds_toArray, List.set_cons_succ, List.set_cons_zero]))
          (refine rx_one 10 (by kernel_rfl) rfl (by rfl) (fun K hK => ?_); go_simp)
          have X5 := Lib.hid (HM5.out.setV 3 (.slice A5 (q.length + nk) cap5) (hd' := lnHd root (some ⟨bn, on, none⟩) nn pn sb true p (.slice A5 (q.length + nk) cap5)) rfl)
          refine hK _ _ (.inl rfl) (fun _ => ?_)
          clear hK K
          try simp only [List.setIfInBounds_toArray, List.set_cons_succ, List.set_cons_zero]
          refine rx_done (by kernel_rfl) ?_
          clear f5 p0 p1 p2 p3 p4 p5
          go_wp2_with fail
          go_ret
          exact ⟨true, p, _, s.set kn true, q ++ ks, rfl, X5.out, .bad (by omega) (by omega), fun h => by cases h⟩
  have hX2 := fun b => HM2.out.setV 5 (.bool b) (hd' := lnHd root (some ⟨bn, on, none⟩) nn pn sb b g (.slice Av q.length cav)) rfl
  have HX2 := Lib.hid hX2
  clear hX2
  by_cases h4 : 4 < nk
  · rw [if_pos (by rw [HNK.out]; exact h4)]
    have h4' : decide ((4 : Int) < (nk : Int)) = true := decide_eq_true (by omega)
    go_enter Try.func169, Try.ntmps169
    go_wp2_with fail
    refine (HIN.out _).mono ?_
    rintro e w' ⟨rfl, rfl⟩
    go_wp2_with fail
    go_ret
    exact ⟨true, g, _, _, q, rfl, HX2.out true, .none, fun h => by cases h⟩
  rw [if_neg (by rw [HNK.out]; exact h4), if_neg (by decide)]
  have h4' : decide ((4 : Int) < (nk : Int)) = false := decide_eq_false (by omega)
  by_cases hA : nd = nk + 1
  rotate_left
  · have hI : innerB ⟨false, ks, ds⟩ = false := by unfold innerB; simp; intro h1; exfalso; have := HNK.out; have := HND.out; omega
    rw [hI, if_neg (by decide)]
    have hA' : ((nd : Int) != (nk : Int) + 1) = true := by rw [bne_iff_ne]; omega
    clear hI hA
    go_enter Try.func169, Try.ntmps169
    go_wp2_with fail
    refine (HIN.out _).mono ?_
    rintro e w' ⟨rfl, rfl⟩
    go_wp2_with fail
    go_ret
    exact ⟨true, g, _, _, q, rfl, HX2.out true, .none, fun h => by cases h⟩
  have hA' : ((nd : Int) != (nk : Int) + 1) = false := by unfold bne; rw [Bool.not_eq_false', beq_iff_eq]; omega
  by_cases h2 : nd < 2
  · have hI : innerB ⟨false, ks, ds⟩ = false := by unfold innerB; simp; intro h1; have := HND.out; omega
    rw [hI, if_neg (by decide)]
    have h2' : decide ((nd : Int) < 2) = true := decide_eq_true (by omega)
    clear hI hA
    go_enter Try.func169, Try.ntmps169
    go_wp2_with fail
    refine (HIN.out _).mono ?_
    rintro e w' ⟨rfl, rfl⟩
    go_wp2_with fail
    go_ret
    exact ⟨true, g, _, _, q, rfl, HX2.out true, .none, fun h => by cases h⟩
  have hI : innerB ⟨false, ks, ds⟩ = true := by unfold innerB; simp; have := HNK.out; have := HND.out; omega
  rw [hI, if_pos rfl]
  generalize hRK : kidsV (visit N f false) ks ds 0 (0, s.set kn true, q) = RK
  have HKS := Lib.hid (show KI (visit N f false) ks ds RK g p 0 0 g (s.set kn true) q by rw [← hRK]; exact KI.start _ _ _ _ _ _ _)
  clear hRK
  have h2' : decide ((nd : Int) < 2) = false := decide_eq_false (by omega)
  have HA := Lib.hid hA
  clear hI hA h2
  obtain ⟨bi, oi, rfl, hci⟩ := hok2 (by intro e; have h0 := congrArg List.length e; rw [List.length_map, List.length_nil] at h0; have := HND.out; have := HA.out; omega)
  have hcR : Rd w0 (some ⟨bi, oi, none⟩) (ds.map fun c => Value.int .i64 c) := hok2
  have HCR := Lib.hid hcR
  clear hok2 hci hcR
  go_enter Try.func169, Try.ntmps169
  go_wp2_with fail
  refine (HIN.out _).mono ?_
  rintro e w' ⟨rfl, rfl⟩
  go_wp2_with fail
  clear hA' h2' h4 h4'
  have HN3 := Lib.hid (((show Blk _ w.heap.size _ _ by have h := HNB.out; rw [World.size_setCell] at h; exact h).far (p := ⟨xb, 5, none⟩) (Nat.ne_of_gt HT.out.bx.lt) (.bool false)))
  have HM3 := Lib.hid (HX2.out false)
  generalize ((w.setCell ⟨sb, kn, none⟩ (.bool true)).alloc (.cells #[.bool false, .slice Ak nk pk, .slice (some ⟨bi, oi, none⟩) nd pi] 193)).setCell ⟨xb, 5, none⟩ (.bool false) = w3 at HN3 HM3 ⊢
  clear m0 m1 m2 hfs hfl j0 j1 j2 j3 j4 j5 p0 p1 p2 p3 p4 p5 pf b0 b1 b2 k0 k1 k2 k3 k4 k5 kf hsc HNB HM2 HM hsk n0 n1 n2 hs HX2
  generalize w.heap.size = nb at HN3 ⊢
  have HS1 := Lib.hid (show (s.set kn true).length = nn by rw [List.length_set]; exact HS.out)
  generalize s.set kn true = s1 at HM3 HUN HS1 HKS
  go_loopw [147] (fun iv wr => ∃ (i d g' : Nat) (v' : Value) (s' : List Bool) (q' : List ByteArray), i ≤ nd ∧ iv = .int .i64 i ∧ TSt 204 4 9 B xb sb w0 w (lnHd root (some ⟨bn, on, none⟩) nn pn sb false g' v') v' s' q' wr ∧ Blk wr nb 193 [.bool false, .slice Ak nk pk, .slice (some ⟨bi, oi, none⟩) nd pi] ∧
      KI (visit N f false) ks ds RK g p i d g' s' q' ∧ s'.length = nn ∧ unseen s' ≤ unseen s1 ∧ q.length ≤ q'.length ∧ q'.length + 4 * unseen s' ≤ q.length + 4 * unseen s1 ∧ g' ≤ 600) (fun iv _ => nd - (intOf iv).toNat)
  case atStart => exact ⟨0, 0, g, _, s1, q, Nat.zero_le _, rfl, HM3.out, HN3.out, HKS.out, HS1.out, Nat.le_refl _, Nat.le_refl _, Nat.le_refl _, hg⟩
  case round =>
    obtain ⟨i, d, g', v', s', q', hi, rfl, hT3, hN3, hK3, hx1, hx2, hq1, hq2, hg'⟩ := hrel
    clear HM3 HN3 HKS
    have HT3 := Lib.hid hT3
    have HN3 := Lib.hid hN3
    have HK3 := Lib.hid hK3
    have HX1 := Lib.hid hx1
    have HX2 := Lib.hid hx2
    have HQ1 := Lib.hid hq1
    have HQ2 := Lib.hid hq2
    obtain ⟨k0, k1, k2, k3, k4, k5⟩ := ln6 hT3.bx
    have b1 := hN3.cell (i := 1) (by simp)
    simp only [List.getElem_cons_zero, List.getElem_cons_succ] at b1
    by_cases hin : i < nd
    rotate_left
    · have hinI : ¬ (i : Int) < (nd : Int) := by omega
      clear hT3 hN3 hK3 hx1 hx2 hq1 hq2
      go_wp2_with fail
      go_ret
      exact ⟨false, g', v', s', q', rfl, HT3.out, HK3.out.done (by have := HND.out; omega) (by have := HA.out; omega), fun _ => ⟨HQ1.out, by have := HQ2.out; have := HUN.out; omega, hg'⟩⟩
    have hinI : (i : Int) < (nd : Int) := by omega
    obtain ⟨kid, hkid⟩ : ∃ kid, ds[i]? = some kid := ⟨_, List.getElem?_eq_getElem (by have := HND.out; omega)⟩
    have hc1 : wr.cell? ⟨bi, oi + i, none⟩ = some (.int .i64 kid) := by
      obtain ⟨b', o', e', hci⟩ := (HCR.out.ext hT3.ex) (by intro e; have h0 := congrArg List.length e; rw [List.length_map, List.length_nil] at h0; have := HND.out; omega)
      injection e' with e'
      injection e' with e1 e2 _
      subst e1; subst e2
      exact hci i _ (by rw [List.getElem?_map, hkid]; rfl)
    have hp1 : p + 1 + f ≤ 600 := by have := HP.out; omega
    have HC := Lib.hid (HIH.out false kid s' q' v' g' (p + 1) wr (by have := HU.out; have := HUN.out; omega) (by have := HF.out; omega) hx1 (by have := HPOT.out; have := HUN.out; omega) hg' hp1 hT3.here)
    rw [show ((p + 1 : Nat) : Int) = (p : Int) + 1 from rfl] at HC
    have HKD := Lib.hid hkid
    have HX := Lib.hid (visit_gr N f false kid s' q')
    obtain ⟨Av3, cav3, hv3⟩ := hT3.form
    subst hv3
    have hqI : (q'.length : Int) ≤ 4000 := by have := HPOT.out; have := HUN.out; omega
    clear hT3 hN3 hK3 hx1 hx2 hq1 hq2 hkid
    go_wp2_with fail
    refine HC.out.mono ?_
    rintro e w4 ⟨bad2, g2, v2, s2, q2, rfl, hT4, hI, hb⟩
    have HT4 := Lib.hid (hT4.since HT3.out.fr)
    have HN4 := Lib.hid (hT4.fr nb 193 _ HN3.out (by decide) (by decide) (by decide))
    have HI := Lib.hid hI
    have HBB := Lib.hid hb
    have HE4 := Lib.hid hT4.ex
    have HNE := Lib.hid (show nb ≠ xb from fun e => by have h1 := HN4.out; rw [e] at h1; exact absurd (blk_ty h1 HT4.out.bx) (by decide))
    clear hT4 hI hb k0 k1 k2 k3 k4 k5 b1 hc1
    obtain ⟨k0, k1, k2, k3, k4, k5⟩ := ln6 HT4.out.bx
    have kf := HT4.out.bx.frozen 5
    obtain ⟨Aw, caw, hv2⟩ := HT4.out.form
    subst hv2
    have b1 := HN4.out.cell (i := 1) (by simp)
    simp only [List.getElem_cons_zero, List.getElem_cons_succ] at b1
    have HFR := Lib.hid kf
    clear kf
    have hil : i ≤ 1152921504606846976 := by have := hsm1.2; omega
    dsimp only
    go_wp2_with fail
    have HIN2 := Lib.hid hin
    have HBT := Lib.hid (((HT4.out.setV 5 (.bool true) (hd' := lnHd root (some ⟨bn, on, none⟩) nn pn sb true g2 (.slice Aw q2.length caw)) rfl)).ext (Ext.refl _).drew)
    clear hin hinI hi
    rcases bad2 with _ | _
    rotate_left
    · have HF2 := Lib.hid (show IRes g p (upV RK) true s2 q2 g2 from HK3.out.fail HKD.out HI.out)
      refine rg_start (by kernel_rfl) (Ext.refl w4) (fun hE0 => ?_)
      (refine rg_take (v := ?_) 0 rfl (by kernel_rfl) (by kernel_rfl) (by kernel_rfl) (fun _ _ _ h => h) (by rfl) (by assumption) (fun W hW => ?_) ?_; rotate_left; (focus (go_simp; try with_reducible rfl)); (try simp only [List.setIfInBounds_toArray, List.set_cons_succ, List.set_cons_zero]))
      (refine rg_take (v := ?_) 1 rfl (by kernel_rfl) (by kernel_rfl) (by kernel_rfl) (fun _ _ _ h => h) (by rfl) (by assumption) (fun W hW => ?_) ?_; rotate_left; (focus (go_simp; try with_reducible rfl)); (try simp only [List.setIfInBounds_toArray, List.set_cons_succ, List.set_cons_zero]))
      (refine rg_take (v := ?_) 2 rfl (by kernel_rfl) (by kernel_rfl) (by kernel_rfl) (fun _ _ _ h => h) (by rfl) (by assumption) (fun W hW => ?_) ?_; rotate_left; (focus (go_simp; try with_reducible rfl)); (try simp only [List.setIfInBounds_toArray, List.set_cons_succ, List.set_cons_zero]))
      (refine rg_take (v := ?_) 3 rfl (by kernel_rfl) (by kernel_rfl) (by kernel_rfl) (fun _ _ _ h => h) (by rfl) (by assumption) (fun W hW => ?_) ?_; rotate_left; (focus (have z0 := hW.cell k5; go_simp; try with_reducible rfl)); (try simp only [List.setIfInBounds_toArray, List.set_cons_succ, List.set_cons_zero]))
      (refine rg_take (v := ?_) 4 rfl (by kernel_rfl) (by kernel_rfl) (by kernel_rfl) (fun _ _ _ h => h) (by rfl) (by assumption) (fun W hW => ?_) ?_; rotate_left; (focus (go_simp; try with_reducible rfl)); (try simp only [List.setIfInBounds_toArray, List.set_cons_succ, List.set_cons_zero]))
      (refine rg_skip 5 rfl (by kernel_rfl) (by kernel_rfl) (by kernel_rfl) (fun _ _ _ h => h) (by rfl) (by assumption) ?_; (try simp only [List.setIfInBounds_toArray, List.set_cons_succ, List.set_cons_zero]))
      (refine rg_skip 6 rfl (by kernel_rfl) (by kernel_rfl) (by kernel_rfl) (fun _ _ _ h => h) (by rfl) (by assumption) ?_; (try simp only [List.setIfInBounds_toArray, List.set_cons_succ, List.set_cons_zero]))
      (refine rg_skip 7 rfl (by kernel_rfl) (by kernel_rfl) (by kernel_rfl) (fun _ _ _ h => h) (by rfl) (by assumption) ?_; (try simp only [List.setIfInBounds_toArray, List.set_cons_succ, List.set_cons_zero]))
      (refine rg_skip 8 rfl (by kernel_rfl) (by kernel_rfl) (by kernel_rfl) (fun _ _ _ h => h) (by rfl) (by assumption) ?_; (try simp only [List.setIfInBounds_toArray, List.set_cons_succ, List.set_cons_zero]))
      (refine rg_skip 9 rfl (by kernel_rfl) (by kernel_rfl) (by kernel_rfl) (fun _ _ _ h => h) (by rfl) (by assumption) ?_; (try simp only [List.setIfInBounds_toArray, List.set_cons_succ, List.set_cons_zero]))
      (refine rg_skip 10 rfl (by kernel_rfl) (by kernel_rfl) (by kernel_rfl) (fun _ _ _ h => h) (by rfl) (by assumption) ?_; (try simp only [List.setIfInBounds_toArray, List.set_cons_succ, List.set_cons_zero]))
      (refine rg_skip 11 rfl (by kernel_rfl) (by kernel_rfl) (by kernel_rfl) (fun _ _ _ h => h) (by rfl) (by assumption) ?_; (try simp only [List.setIfInBounds_toArray, List.set_cons_succ, List.set_cons_zero]))
      (refine rg_skip 12 rfl (by kernel_rfl) (by kernel_rfl) (by kernel_rfl) (fun _ _ _ h => h) (by rfl) (by assumption) ?_; (try simp only [List.setIfInBounds_toArray, List.set_cons_succ, List.set_cons_zero]))
      (refine rg_skip 13 rfl (by kernel_rfl) (by kernel_rfl) (by kernel_rfl) (fun _ _ _ h => h) (by rfl) (by assumption) ?_; (try simp only [List.setIfInBounds_toArray, List.set_cons_succ, List.set_cons_zero]))
      (refine rg_skip 14 rfl (by kernel_rfl) (by kernel_rfl) (by kernel_rfl) (fun _ _ _ h => h) (by rfl) (by assumption) ?_; (try simp only [List.setIfInBounds_toArray, List.set_cons_succ, List.set_cons_zero]))
      (refine rg_skip 15 rfl (by kernel_rfl) (by kernel_rfl) (by kernel_rfl) (fun _ _ _ h => h) (by rfl) (by assumption) ?_; (try simp only [List.setIfInBounds_toArray, List.set_cons_succ, List.set_cons_zero]))
      (refine rg_skip 16 rfl (by kernel_rfl) (by kernel_rfl) (by kernel_rfl) (fun _ _ _ h => h) (by rfl) (by assumption) ?_; (try simp only [List.setIfInBounds_toArray, List.set_cons_succ, List.set_cons_zero]))
      (refine rg_skip 17 rfl (by kernel_rfl) (by kernel_rfl) (by kernel_rfl) (fun _ _ _ h => h) (by rfl) (by assumption) ?_; (try simp only [List.setIfInBounds_toArray, List.set_cons_succ, List.set_cons_zero]))
      (refine rg_skip 18 rfl (by kernel_rfl) (by kernel_rfl) (by kernel_rfl) (fun _ _ _ h => h) (by rfl) (by assumption) ?_; (try simp only [List.setIfInBounds_toArray, List.set_cons_succ, List.set_cons_zero]))
      (refine rg_skip 19 rfl (by kernel_rfl) (by kernel_rfl) (by kernel_rfl) (fun _ _ _ h => h) (by rfl) (by assumption) ?_; (try simp only [List.setIfInBounds_toArray, List.set_cons_succ, List.set_cons_zero]))
      (refine rg_skip 20 rfl (by kernel_rfl) (by kernel_rfl) (by kernel_rfl) (fun _ _ _ h => h) (by rfl) (by assumption) ?_; (try simp only [List.setIfInBounds_toArray, List.set_cons_succ, List.set_cons_zero]))
      (refine rg_skip 21 rfl (by kernel_rfl) (by kernel_rfl) (by kernel_rfl) (fun _ _ _ h => h) (by rfl) (by assumption) ?_; (try simp only [List.setIfInBounds_toArray, List.set_cons_succ, List.set_cons_zero]))
      (refine rg_skip 22 rfl (by kernel_rfl) (by kernel_rfl) (by kernel_rfl) (fun _ _ _ h => h) (by rfl) (by assumption) ?_; (try simp only [List.setIfInBounds_toArray, List.set_cons_succ, List.set_cons_zero]))
      (refine rg_take (v := ?_) 23 rfl (by kernel_rfl) (by kernel_rfl) (by kernel_rfl) (fun _ _ _ h => h) (by rfl) (by assumption) (fun W hW => ?_) ?_; rotate_left; (focus (go_simp; try with_reducible rfl)); (try simp only [List.setIfInBounds_toArray, List.set_cons_succ, List.set_cons_zero]))
      refine rg_done (by kernel_rfl) ?_
      have kf := HFR.out
      go_wp2_with fail
      go_ret
      exact ⟨true, g2, _, s2, q2, rfl, HBT.out, HF2.out, fun h => by cases h⟩
    have HG1 := Lib.hid (show s2.length = nn ∧ unseen s2 ≤ unseen s1 ∧ q'.length < q2.length ∧ q'.length ≤ q2.length ∧ q2.length + 4 * unseen s2 ≤ q'.length + 4 * unseen s' ∧ g2 ≤ 600 by
      rcases HI.out with ⟨-, d2, hv, -, -⟩ | ⟨h, -⟩
      · have hg := HX.out _ _ _ hv
        have hb := HBB.out rfl
        exact ⟨hg.len.trans HX1.out, Nat.le_trans hg.un HX2.out, (visit_new N f kid s' q' _ _ _ hv).1, hb.1, hb.2.1, hb.2.2⟩
      · cases h)
    rcases Nat.eq_zero_or_pos i with hi0 | hi0
    · subst hi0
      obtain ⟨d2, hKN⟩ := KI.first HK3.out HKD.out HI.out (fun d' s' q' h => (visit_new N f kid _ _ _ _ _ h).2)
      have HKN := Lib.hid hKN
      clear hKN
      refine rg_start (by kernel_rfl) (Ext.refl w4) (fun hE0 => ?_)
      (refine rg_take (v := ?_) 0 rfl (by kernel_rfl) (by kernel_rfl) (by kernel_rfl) (fun _ _ _ h => h) (by rfl) (by assumption) (fun W hW => ?_) ?_; rotate_left; (focus (go_simp; try with_reducible rfl)); (try simp only [List.setIfInBounds_toArray, List.set_cons_succ, List.set_cons_zero]))
      (refine rg_take (v := ?_) 1 rfl (by kernel_rfl) (by kernel_rfl) (by kernel_rfl) (fun _ _ _ h => h) (by rfl) (by assumption) (fun W hW => ?_) ?_; rotate_left; (focus (go_simp; try with_reducible rfl)); (try simp only [List.setIfInBounds_toArray, List.set_cons_succ, List.set_cons_zero]))
      (refine rg_take (v := ?_) 2 rfl (by kernel_rfl) (by kernel_rfl) (by kernel_rfl) (fun _ _ _ h => h) (by rfl) (by assumption) (fun W hW => ?_) ?_; rotate_left; (focus (go_simp; try with_reducible rfl)); (try simp only [List.setIfInBounds_toArray, List.set_cons_succ, List.set_cons_zero]))
      (refine rg_take (v := ?_) 3 rfl (by kernel_rfl) (by kernel_rfl) (by kernel_rfl) (fun _ _ _ h => h) (by rfl) (by assumption) (fun W hW => ?_) ?_; rotate_left; (focus (have z0 := hW.cell k5; go_simp; try with_reducible rfl)); (try simp only [List.setIfInBounds_toArray, List.set_cons_succ, List.set_cons_zero]))
      (refine rg_take (v := ?_) 4 rfl (by kernel_rfl) (by kernel_rfl) (by kernel_rfl) (fun _ _ _ h => h) (by rfl) (by assumption) (fun W hW => ?_) ?_; rotate_left; (focus (go_simp; try with_reducible rfl)); (try simp only [List.setIfInBounds_toArray, List.set_cons_succ, List.set_cons_zero]))
      (refine rg_take (v := ?_) 5 rfl (by kernel_rfl) (by kernel_rfl) (by kernel_rfl) (fun _ _ _ h => h) (by rfl) (by assumption) (fun W hW => ?_) ?_; rotate_left; (focus (go_simp; try with_reducible rfl)); (try simp only [List.setIfInBounds_toArray, List.set_cons_succ, List.set_cons_zero]))
      (refine rg_take (v := ?_) 6 rfl (by kernel_rfl) (by kernel_rfl) (by kernel_rfl) (fun _ _ _ h => h) (by rfl) (by assumption) (fun W hW => ?_) ?_; rotate_left; (focus (go_simp; try with_reducible rfl)); (try simp only [List.setIfInBounds_toArray, List.set_cons_succ, List.set_cons_zero]))
      (refine rg_take (v := ?_) 7 rfl (by kernel_rfl) (by kernel_rfl) (by kernel_rfl) (fun _ _ _ h => h) (by rfl) (by assumption) (fun W hW => ?_) ?_; rotate_left; (focus (go_simp; try with_reducible rfl)); (try simp only [List.setIfInBounds_toArray, List.set_cons_succ, List.set_cons_zero]))
      (refine rg_skip 8 rfl (by kernel_rfl) (by kernel_rfl) (by kernel_rfl) (fun _ _ _ h => h) (by rfl) (by assumption) ?_; (try simp only [List.setIfInBounds_toArray, List.set_cons_succ, List.set_cons_zero]))
      (refine rg_skip 9 rfl (by kernel_rfl) (by kernel_rfl) (by kernel_rfl) (fun _ _ _ h => h) (by rfl) (by assumption) ?_; (try simp only [List.setIfInBounds_toArray, List.set_cons_succ, List.set_cons_zero]))
      (refine rg_skip 10 rfl (by kernel_rfl) (by kernel_rfl) (by kernel_rfl) (fun _ _ _ h => h) (by rfl) (by assumption) ?_; (try simp only [List.setIfInBounds_toArray, List.set_cons_succ, List.set_cons_zero]))
      (refine rg_skip 11 rfl (by kernel_rfl) (by kernel_rfl) (by kernel_rfl) (fun _ _ _ h => h) (by rfl) (by assumption) ?_; (try simp only [List.setIfInBounds_toArray, List.set_cons_succ, List.set_cons_zero]))
      (refine rg_skip 12 rfl (by kernel_rfl) (by kernel_rfl) (by kernel_rfl) (fun _ _ _ h => h) (by rfl) (by assumption) ?_; (try simp only [List.setIfInBounds_toArray, List.set_cons_succ, List.set_cons_zero]))
      (refine rg_skip 13 rfl (by kernel_rfl) (by kernel_rfl) (by kernel_rfl) (fun _ _ _ h => h) (by rfl) (by assumption) ?_; (try simp only [List.setIfInBounds_toArray, List.set_cons_succ, List.set_cons_zero]))
      (refine rg_skip 14 rfl (by kernel_rfl) (by kernel_rfl) (by kernel_rfl) (fun _ _ _ h => h) (by rfl) (by assumption) ?_; (try simp only [List.setIfInBounds_toArray, List.set_cons_succ, List.set_cons_zero]))
      (refine rg_skip 15 rfl (by kernel_rfl) (by kernel_rfl) (by kernel_rfl) (fun _ _ _ h => h) (by rfl) (by assumption) ?_; (try simp only [List.setIfInBounds_toArray, List.set_cons_succ, List.set_cons_zero]))
      (refine rg_skip 16 rfl (by kernel_rfl) (by kernel_rfl) (by kernel_rfl) (fun _ _ _ h => h) (by rfl) (by assumption) ?_; (try simp only [List.setIfInBounds_toArray, List.set_cons_succ, List.set_cons_zero]))
      (refine rg_skip 17 rfl (by kernel_rfl) (by kernel_rfl) (by kernel_rfl) (fun _ _ _ h => h) (by rfl) (by assumption) ?_; (try simp only [List.setIfInBounds_toArray, List.set_cons_succ, List.set_cons_zero]))
      (refine rg_skip 18 rfl (by kernel_rfl) (by kernel_rfl) (by kernel_rfl) (fun _ _ _ h => h) (by rfl) (by assumption) ?_; (try simp only [List.setIfInBounds_toArray, List.set_cons_succ, List.set_cons_zero]))
      (refine rg_skip 19 rfl (by kernel_rfl) (by kernel_rfl) (by kernel_rfl) (fun _ _ _ h => h) (by rfl) (by assumption) ?_; (try simp only [List.setIfInBounds_toArray, List.set_cons_succ, List.set_cons_zero]))
      (refine rg_skip 20 rfl (by kernel_rfl) (by kernel_rfl) (by kernel_rfl) (fun _ _ _ h => h) (by rfl) (by assumption) ?_; (try simp only [List.setIfInBounds_toArray, List.set_cons_succ, List.set_cons_zero]))
      (refine rg_skip 21 rfl (by kernel_rfl) (by kernel_rfl) (by kernel_rfl) (fun _ _ _ h => h) (by rfl) (by assumption) ?_; (try simp only [List.setIfInBounds_toArray, List.set_cons_succ, List.set_cons_zero]))
      (refine rg_take (v := ?_) 22 rfl (by kernel_rfl) (by kernel_rfl) (by kernel_rfl) (fun _ _ _ h => h) (by rfl) (by assumption) (fun W hW => ?_) ?_; rotate_left; (focus (go_simp; try with_reducible rfl)); (try simp only [List.setIfInBounds_toArray, List.set_cons_succ, List.set_cons_zero]))
      (refine rg_take (v := ?_) 23 rfl (by kernel_rfl) (by kernel_rfl) (by kernel_rfl) (fun _ _ _ h => h) (by rfl) (by assumption) (fun W hW => ?_) ?_; rotate_left; (focus (go_simp; try with_reducible rfl)); (try simp only [List.setIfInBounds_toArray, List.set_cons_succ, List.set_cons_zero]))
      refine rg_done (by kernel_rfl) ?_
      go_wp2_with fail
      go_roundw
      case rel => exact ⟨1, d2, g2, _, s2, q2, HIN2.out, by go_num, HT4.out.ext hE0, HN4.out.ext hE0, HKN.out, HG1.out.1, HG1.out.2.1, by have := HQ1.out; have := HG1.out.2.2.2.1; omega, by have := HQ2.out; have := HG1.out.2.2.2.2.1; omega, HG1.out.2.2.2.2.2⟩
      case measure => simp [intOf]; have := HIN2.out; omega
    · obtain ⟨j, hj⟩ : ∃ j, i = j + 1 := ⟨i - 1, by omega⟩
      have HJ := Lib.hid hj
      have hgt : (0 : Int) < (i : Int) := by omega
      have hjn : j < nk := by have := HA.out; have := HIN2.out; omega
      have hjI : (j : Int) < (nk : Int) := by omega
      have hw1 : IntKind.i64.wrap ((i : Int) - 1) = (j : Int) := by
        have he : (i : Int) - 1 = (j : Int) := by omega
        rw [he]; exact IntWalk.i64_in _ (by omega)
      obtain ⟨y, hy⟩ : ∃ y, ks[j]? = some y := ⟨_, List.getElem?_eq_getElem (by have := HNK.out; omega)⟩
      have hkc := hok1.ext HE4.out
      obtain ⟨bk, ok, rfl, hcj⟩ := hkc (by intro e; have h0 := congrArg List.length e; rw [List.length_map, List.length_nil] at h0; have := HNK.out; omega)
      have hcy : w4.cell? ⟨bk, ok + j, none⟩ = some (.string y) := hcj j _ (by rw [List.getElem?_map, hy]; rfl)
      have HY := Lib.hid hy
      have hl : q'.length < q2.length := HG1.out.2.2.1
      have hlI : (q'.length : Int) < (q2.length : Int) := by omega
      obtain ⟨x, hx⟩ : ∃ x, q2[q'.length]? = some x := ⟨_, List.getElem?_eq_getElem hl⟩
      obtain ⟨g3, cg, hv, hcx⟩ := HT4.out.key hx
      injection hv with hv1 _ hv2
      subst hv1; subst hv2
      have HXX := Lib.hid hx
      clear hj hy hkc hcj hx
      rcases hxy : (x.toList == y.toList) with _ | _
      · have hxn : (x.toList != y.toList) = true := by unfold bne; rw [hxy]; rfl
        have HF2 := Lib.hid (show IRes g p (upV RK) true s2 q2 g2 by
          have h1 := HK3.out; have h2 := HKD.out
          rw [HJ.out] at h1 h2
          exact KI.wrong h1 h2 HI.out HXX.out HY.out hxy)
        refine rg_start (by kernel_rfl) (Ext.refl w4) (fun hE0 => ?_)
        (refine rg_take (v := ?_) 0 rfl (by kernel_rfl) (by kernel_rfl) (by kernel_rfl) (fun _ _ _ h => h) (by rfl) (by assumption) (fun W hW => ?_) ?_; rotate_left; (focus (go_simp; try with_reducible rfl)); (try simp only [List.setIfInBounds_toArray, List.set_cons_succ, List.set_cons_zero]))
        (refine rg_take (v := ?_) 1 rfl (by kernel_rfl) (by kernel_rfl) (by kernel_rfl) (fun _ _ _ h => h) (by rfl) (by assumption) (fun W hW => ?_) ?_; rotate_left; (focus (go_simp; try with_reducible rfl)); (try simp only [List.setIfInBounds_toArray, List.set_cons_succ, List.set_cons_zero]))
        (refine rg_take (v := ?_) 2 rfl (by kernel_rfl) (by kernel_rfl) (by kernel_rfl) (fun _ _ _ h => h) (by rfl) (by assumption) (fun W hW => ?_) ?_; rotate_left; (focus (go_simp; try with_reducible rfl)); (try simp only [List.setIfInBounds_toArray, List.set_cons_succ, List.set_cons_zero]))
        (refine rg_take (v := ?_) 3 rfl (by kernel_rfl) (by kernel_rfl) (by kernel_rfl) (fun _ _ _ h => h) (by rfl) (by assumption) (fun W hW => ?_) ?_; rotate_left; (focus (have z0 := hW.cell k5; have z1 := hW.cell k3; have z2 := hW.cell b1; have z3 := hW.cell hcx; have z4 := hW.cell hcy; go_simp; try with_reducible rfl)); (try simp only [List.setIfInBounds_toArray, List.set_cons_succ, List.set_cons_zero]))
        (refine rg_take (v := ?_) 4 rfl (by kernel_rfl) (by kernel_rfl) (by kernel_rfl) (fun _ _ _ h => h) (by rfl) (by assumption) (fun W hW => ?_) ?_; rotate_left; (focus (go_simp; try with_reducible rfl)); (try simp only [List.setIfInBounds_toArray, List.set_cons_succ, List.set_cons_zero]))
        (refine rg_take (v := ?_) 5 rfl (by kernel_rfl) (by kernel_rfl) (by kernel_rfl) (fun _ _ _ h => h) (by rfl) (by assumption) (fun W hW => ?_) ?_; rotate_left; (focus (go_simp; try with_reducible rfl)); (try simp only [List.setIfInBounds_toArray, List.set_cons_succ, List.set_cons_zero]))
        (refine rg_take (v := ?_) 6 rfl (by kernel_rfl) (by kernel_rfl) (by kernel_rfl) (fun _ _ _ h => h) (by rfl) (by assumption) (fun W hW => ?_) ?_; rotate_left; (focus (go_simp; try with_reducible rfl)); (try simp only [List.setIfInBounds_toArray, List.set_cons_succ, List.set_cons_zero]))
        (refine rg_take (v := ?_) 7 rfl (by kernel_rfl) (by kernel_rfl) (by kernel_rfl) (fun _ _ _ h => h) (by rfl) (by assumption) (fun W hW => ?_) ?_; rotate_left; (focus (go_simp; try with_reducible rfl)); (try simp only [List.setIfInBounds_toArray, List.set_cons_succ, List.set_cons_zero]))
        (refine rg_take (v := ?_) 8 rfl (by kernel_rfl) (by kernel_rfl) (by kernel_rfl) (fun _ _ _ h => h) (by rfl) (by assumption) (fun W hW => ?_) ?_; rotate_left; (focus (go_simp; try with_reducible rfl)); (try simp only [List.setIfInBounds_toArray, List.set_cons_succ, List.set_cons_zero]))
        (refine rg_take (v := ?_) 9 rfl (by kernel_rfl) (by kernel_rfl) (by kernel_rfl) (fun _ _ _ h => h) (by rfl) (by assumption) (fun W hW => ?_) ?_; rotate_left; (focus (go_simp; try with_reducible rfl)); (try simp only [List.setIfInBounds_toArray, List.set_cons_succ, List.set_cons_zero]))
        (refine rg_take (v := ?_) 10 rfl (by kernel_rfl) (by kernel_rfl) (by kernel_rfl) (fun _ _ _ h => h) (by rfl) (by assumption) (fun W hW => ?_) ?_; rotate_left; (focus (go_simp; try with_reducible rfl)); (try simp only [List.setIfInBounds_toArray, List.set_cons_succ, List.set_cons_zero]))
        (refine rg_take (v := ?_) 11 rfl (by kernel_rfl) (by kernel_rfl) (by kernel_rfl) (fun _ _ _ h => h) (by rfl) (by assumption) (fun W hW => ?_) ?_; rotate_left; (focus (have z0 := hW.cell k5; have z1 := hW.cell k3; have z2 := hW.cell b1; have z3 := hW.cell hcx; have z4 := hW.cell hcy; go_simp; try with_reducible rfl)); (try simp only [List.setIfInBounds_toArray, List.set_cons_succ, List.set_cons_zero]))
        (refine rg_take (v := ?_) 12 rfl (by kernel_rfl) (by kernel_rfl) (by kernel_rfl) (fun _ _ _ h => h) (by rfl) (by assumption) (fun W hW => ?_) ?_; rotate_left; (focus (go_simp; try with_reducible rfl)); (try simp only [List.setIfInBounds_toArray, List.set_cons_succ, List.set_cons_zero]))
        (refine rg_take (v := ?_) 13 rfl (by kernel_rfl) (by kernel_rfl) (by kernel_rfl) (fun _ _ _ h => h) (by rfl) (by assumption) (fun W hW => ?_) ?_; rotate_left; (focus (go_simp; try with_reducible rfl)); (try simp only [List.setIfInBounds_toArray, List.set_cons_succ, List.set_cons_zero]))
        (refine rg_take (v := ?_) 14 rfl (by kernel_rfl) (by kernel_rfl) (by kernel_rfl) (fun _ _ _ h => h) (by rfl) (by assumption) (fun W hW => ?_) ?_; rotate_left; (focus (have z0 := hW.cell k5; have z1 := hW.cell k3; have z2 := hW.cell b1; have z3 := hW.cell hcx; have z4 := hW.cell hcy; go_simp; try with_reducible rfl)); (try simp only [List.setIfInBounds_toArray, List.set_cons_succ, List.set_cons_zero]))
        (refine rg_take (v := ?_) 15 rfl (by kernel_rfl) (by kernel_rfl) (by kernel_rfl) (fun _ _ _ h => h) (by rfl) (by assumption) (fun W hW => ?_) ?_; rotate_left; (focus (go_simp; try with_reducible rfl)); (try simp only [List.setIfInBounds_toArray, List.set_cons_succ, List.set_cons_zero]))
        (refine rg_take (v := ?_) 16 rfl (by kernel_rfl) (by kernel_rfl) (by kernel_rfl) (fun _ _ _ h => h) (by rfl) (by assumption) (fun W hW => ?_) ?_; rotate_left; (focus (have z0 := hW.cell k5; have z1 := hW.cell k3; have z2 := hW.cell b1; have z3 := hW.cell hcx; have z4 := hW.cell hcy; go_simp; try with_reducible rfl)); (try simp only [List.setIfInBounds_toArray, List.set_cons_succ, List.set_cons_zero]))
        (refine rg_take (v := ?_) 17 rfl (by kernel_rfl) (by kernel_rfl) (by kernel_rfl) (fun _ _ _ h => h) (by rfl) (by assumption) (fun W hW => ?_) ?_; rotate_left; (focus (go_simp; try with_reducible rfl)); (try simp only [List.setIfInBounds_toArray, List.set_cons_succ, List.set_cons_zero]))
        (refine rg_take (v := ?_) 18 rfl (by kernel_rfl) (by kernel_rfl) (by kernel_rfl) (fun _ _ _ h => h) (by rfl) (by assumption) (fun W hW => ?_) ?_; rotate_left; (focus (go_simp; try with_reducible rfl)); (try simp only [List.setIfInBounds_toArray, List.set_cons_succ, List.set_cons_zero]))
        (refine rg_take (v := ?_) 19 rfl (by kernel_rfl) (by kernel_rfl) (by kernel_rfl) (fun _ _ _ h => h) (by rfl) (by assumption) (fun W hW => ?_) ?_; rotate_left; (focus (go_simp; try with_reducible rfl)); (try simp only [List.setIfInBounds_toArray, List.set_cons_succ, List.set_cons_zero]))
        (refine rg_take (v := ?_) 20 rfl (by kernel_rfl) (by kernel_rfl) (by kernel_rfl) (fun _ _ _ h => h) (by rfl) (by assumption) (fun W hW => ?_) ?_; rotate_left; (focus (have z0 := hW.cell k5; have z1 := hW.cell k3; have z2 := hW.cell b1; have z3 := hW.cell hcx; have z4 := hW.cell hcy; go_simp; try with_reducible rfl)); (try simp only [List.setIfInBounds_toArray, List.set_cons_succ, List.set_cons_zero]))
        (refine rg_take (v := ?_) 21 rfl (by kernel_rfl) (by kernel_rfl) (by kernel_rfl) (fun _ _ _ h => h) (by rfl) (by assumption) (fun W hW => ?_) ?_; rotate_left; (focus (go_simp; try with_reducible rfl)); (try simp only [List.setIfInBounds_toArray, List.set_cons_succ, List.set_cons_zero]))
        (refine rg_take (v := ?_) 22 rfl (by kernel_rfl) (by kernel_rfl) (by kernel_rfl) (fun _ _ _ h => h) (by rfl) (by assumption) (fun W hW => ?_) ?_; rotate_left; (focus (go_simp; try with_reducible rfl)); (try simp only [List.setIfInBounds_toArray, List.set_cons_succ, List.set_cons_zero]))
        (refine rg_take (v := ?_) 23 rfl (by kernel_rfl) (by kernel_rfl) (by kernel_rfl) (fun _ _ _ h => h) (by rfl) (by assumption) (fun W hW => ?_) ?_; rotate_left; (focus (go_simp; try with_reducible rfl)); (try simp only [List.setIfInBounds_toArray, List.set_cons_succ, List.set_cons_zero]))
        refine rg_done (by kernel_rfl) ?_
        have kf := HFR.out
        go_wp2_with fail
        go_ret
        exact ⟨true, g2, _, s2, q2, rfl, HBT.out, HF2.out, fun h => by cases h⟩
      · have hxn : (x.toList != y.toList) = false := by unfold bne; rw [hxy]; rfl
        have HKN := Lib.hid (show KI (visit N f false) ks ds RK g p (i + 1) d g2 s2 q2 by
          have h1 := HK3.out; have h2 := HKD.out
          rw [HJ.out] at h1 h2 ⊢
          exact KI.next h1 h2 HI.out HXX.out HY.out hxy)
        refine rg_start (by kernel_rfl) (Ext.refl w4) (fun hE0 => ?_)
        (refine rg_take (v := ?_) 0 rfl (by kernel_rfl) (by kernel_rfl) (by kernel_rfl) (fun _ _ _ h => h) (by rfl) (by assumption) (fun W hW => ?_) ?_; rotate_left; (focus (go_simp; try with_reducible rfl)); (try simp only [List.setIfInBounds_toArray, List.set_cons_succ, List.set_cons_zero]))
        (refine rg_take (v := ?_) 1 rfl (by kernel_rfl) (by kernel_rfl) (by kernel_rfl) (fun _ _ _ h => h) (by rfl) (by assumption) (fun W hW => ?_) ?_; rotate_left; (focus (go_simp; try with_reducible rfl)); (try simp only [List.setIfInBounds_toArray, List.set_cons_succ, List.set_cons_zero]))
        (refine rg_take (v := ?_) 2 rfl (by kernel_rfl) (by kernel_rfl) (by kernel_rfl) (fun _ _ _ h => h) (by rfl) (by assumption) (fun W hW => ?_) ?_; rotate_left; (focus (go_simp; try with_reducible rfl)); (try simp only [List.setIfInBounds_toArray, List.set_cons_succ, List.set_cons_zero]))
        (refine rg_take (v := ?_) 3 rfl (by kernel_rfl) (by kernel_rfl) (by kernel_rfl) (fun _ _ _ h => h) (by rfl) (by assumption) (fun W hW => ?_) ?_; rotate_left; (focus (have z0 := hW.cell k5; have z1 := hW.cell k3; have z2 := hW.cell b1; have z3 := hW.cell hcx; have z4 := hW.cell hcy; go_simp; try with_reducible rfl)); (try simp only [List.setIfInBounds_toArray, List.set_cons_succ, List.set_cons_zero]))
        (refine rg_take (v := ?_) 4 rfl (by kernel_rfl) (by kernel_rfl) (by kernel_rfl) (fun _ _ _ h => h) (by rfl) (by assumption) (fun W hW => ?_) ?_; rotate_left; (focus (go_simp; try with_reducible rfl)); (try simp only [List.setIfInBounds_toArray, List.set_cons_succ, List.set_cons_zero]))
        (refine rg_take (v := ?_) 5 rfl (by kernel_rfl) (by kernel_rfl) (by kernel_rfl) (fun _ _ _ h => h) (by rfl) (by assumption) (fun W hW => ?_) ?_; rotate_left; (focus (go_simp; try with_reducible rfl)); (try simp only [List.setIfInBounds_toArray, List.set_cons_succ, List.set_cons_zero]))
        (refine rg_take (v := ?_) 6 rfl (by kernel_rfl) (by kernel_rfl) (by kernel_rfl) (fun _ _ _ h => h) (by rfl) (by assumption) (fun W hW => ?_) ?_; rotate_left; (focus (go_simp; try with_reducible rfl)); (try simp only [List.setIfInBounds_toArray, List.set_cons_succ, List.set_cons_zero]))
        (refine rg_take (v := ?_) 7 rfl (by kernel_rfl) (by kernel_rfl) (by kernel_rfl) (fun _ _ _ h => h) (by rfl) (by assumption) (fun W hW => ?_) ?_; rotate_left; (focus (go_simp; try with_reducible rfl)); (try simp only [List.setIfInBounds_toArray, List.set_cons_succ, List.set_cons_zero]))
        (refine rg_take (v := ?_) 8 rfl (by kernel_rfl) (by kernel_rfl) (by kernel_rfl) (fun _ _ _ h => h) (by rfl) (by assumption) (fun W hW => ?_) ?_; rotate_left; (focus (go_simp; try with_reducible rfl)); (try simp only [List.setIfInBounds_toArray, List.set_cons_succ, List.set_cons_zero]))
        (refine rg_take (v := ?_) 9 rfl (by kernel_rfl) (by kernel_rfl) (by kernel_rfl) (fun _ _ _ h => h) (by rfl) (by assumption) (fun W hW => ?_) ?_; rotate_left; (focus (go_simp; try with_reducible rfl)); (try simp only [List.setIfInBounds_toArray, List.set_cons_succ, List.set_cons_zero]))
        (refine rg_take (v := ?_) 10 rfl (by kernel_rfl) (by kernel_rfl) (by kernel_rfl) (fun _ _ _ h => h) (by rfl) (by assumption) (fun W hW => ?_) ?_; rotate_left; (focus (go_simp; try with_reducible rfl)); (try simp only [List.setIfInBounds_toArray, List.set_cons_succ, List.set_cons_zero]))
        (refine rg_take (v := ?_) 11 rfl (by kernel_rfl) (by kernel_rfl) (by kernel_rfl) (fun _ _ _ h => h) (by rfl) (by assumption) (fun W hW => ?_) ?_; rotate_left; (focus (have z0 := hW.cell k5; have z1 := hW.cell k3; have z2 := hW.cell b1; have z3 := hW.cell hcx; have z4 := hW.cell hcy; go_simp; try with_reducible rfl)); (try simp only [List.setIfInBounds_toArray, List.set_cons_succ, List.set_cons_zero]))
        (refine rg_take (v := ?_) 12 rfl (by kernel_rfl) (by kernel_rfl) (by kernel_rfl) (fun _ _ _ h => h) (by rfl) (by assumption) (fun W hW => ?_) ?_; rotate_left; (focus (go_simp; try with_reducible rfl)); (try simp only [List.setIfInBounds_toArray, List.set_cons_succ, List.set_cons_zero]))
        (refine rg_take (v := ?_) 13 rfl (by kernel_rfl) (by kernel_rfl) (by kernel_rfl) (fun _ _ _ h => h) (by rfl) (by assumption) (fun W hW => ?_) ?_; rotate_left; (focus (go_simp; try with_reducible rfl)); (try simp only [List.setIfInBounds_toArray, List.set_cons_succ, List.set_cons_zero]))
        (refine rg_take (v := ?_) 14 rfl (by kernel_rfl) (by kernel_rfl) (by kernel_rfl) (fun _ _ _ h => h) (by rfl) (by assumption) (fun W hW => ?_) ?_; rotate_left; (focus (have z0 := hW.cell k5; have z1 := hW.cell k3; have z2 := hW.cell b1; have z3 := hW.cell hcx; have z4 := hW.cell hcy; go_simp; try with_reducible rfl)); (try simp only [List.setIfInBounds_toArray, List.set_cons_succ, List.set_cons_zero]))
        (refine rg_take (v := ?_) 15 rfl (by kernel_rfl) (by kernel_rfl) (by kernel_rfl) (fun _ _ _ h => h) (by rfl) (by assumption) (fun W hW => ?_) ?_; rotate_left; (focus (go_simp; try with_reducible rfl)); (try simp only [List.setIfInBounds_toArray, List.set_cons_succ, List.set_cons_zero]))
        (refine rg_take (v := ?_) 16 rfl (by kernel_rfl) (by kernel_rfl) (by kernel_rfl) (fun _ _ _ h => h) (by rfl) (by assumption) (fun W hW => ?_) ?_; rotate_left; (focus (have z0 := hW.cell k5; have z1 := hW.cell k3; have z2 := hW.cell b1; have z3 := hW.cell hcx; have z4 := hW.cell hcy; go_simp; try with_reducible rfl)); (try simp only [List.setIfInBounds_toArray, List.set_cons_succ, List.set_cons_zero]))
        (refine rg_take (v := ?_) 17 rfl (by kernel_rfl) (by kernel_rfl) (by kernel_rfl) (fun _ _ _ h => h) (by rfl) (by assumption) (fun W hW => ?_) ?_; rotate_left; (focus (go_simp; try with_reducible rfl)); (try simp only [List.setIfInBounds_toArray, List.set_cons_succ, List.set_cons_zero]))
        (refine rg_take (v := ?_) 18 rfl (by kernel_rfl) (by kernel_rfl) (by kernel_rfl) (fun _ _ _ h => h) (by rfl) (by assumption) (fun W hW => ?_) ?_; rotate_left; (focus (go_simp; try with_reducible rfl)); (try simp only [List.setIfInBounds_toArray, List.set_cons_succ, List.set_cons_zero]))
        (refine rg_take (v := ?_) 19 rfl (by kernel_rfl) (by kernel_rfl) (by kernel_rfl) (fun _ _ _ h => h) (by rfl) (by assumption) (fun W hW => ?_) ?_; rotate_left; (focus (go_simp; try with_reducible rfl)); (try simp only [List.setIfInBounds_toArray, List.set_cons_succ, List.set_cons_zero]))
        (refine rg_take (v := ?_) 20 rfl (by kernel_rfl) (by kernel_rfl) (by kernel_rfl) (fun _ _ _ h => h) (by rfl) (by assumption) (fun W hW => ?_) ?_; rotate_left; (focus (have z0 := hW.cell k5; have z1 := hW.cell k3; have z2 := hW.cell b1; have z3 := hW.cell hcx; have z4 := hW.cell hcy; go_simp; try with_reducible rfl)); (try simp only [List.setIfInBounds_toArray, List.set_cons_succ, List.set_cons_zero]))
        (refine rg_take (v := ?_) 21 rfl (by kernel_rfl) (by kernel_rfl) (by kernel_rfl) (fun _ _ _ h => h) (by rfl) (by assumption) (fun W hW => ?_) ?_; rotate_left; (focus (go_simp; try with_reducible rfl)); (try simp only [List.setIfInBounds_toArray, List.set_cons_succ, List.set_cons_zero]))
        (refine rg_take (v := ?_) 22 rfl (by kernel_rfl) (by kernel_rfl) (by kernel_rfl) (fun _ _ _ h => h) (by rfl) (by assumption) (fun W hW => ?_) ?_; rotate_left; (focus (go_simp; try with_reducible rfl)); (try simp only [List.setIfInBounds_toArray, List.set_cons_succ, List.set_cons_zero]))
        (refine rg_take (v := ?_) 23 rfl (by kernel_rfl) (by kernel_rfl) (by kernel_rfl) (fun _ _ _ h => h) (by rfl) (by assumption) (fun W hW => ?_) ?_; rotate_left; (focus (go_simp; try with_reducible rfl)); (try simp only [List.setIfInBounds_toArray, List.set_cons_succ, List.set_cons_zero]))
        refine rg_done (by kernel_rfl) ?_
        go_wp2_with fail
        go_roundw
        case rel => exact ⟨i + 1, d, g2, _, s2, q2, HIN2.out, by go_num, HT4.out.ext hE0, HN4.out.ext hE0, HKN.out, HG1.out.1, HG1.out.2.1, by have := HQ1.out; have := HG1.out.2.2.2.1; omega, by have := HQ2.out; have := HG1.out.2.2.2.2.1; omega, HG1.out.2.2.2.2.2⟩
        case measure => simp [intOf]; have := HIN2.out; omega
end Go.Proofs.Ytnbfjkebakaigaa
