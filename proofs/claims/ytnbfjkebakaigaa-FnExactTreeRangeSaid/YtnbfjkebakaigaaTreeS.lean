/- The walk of the reference's look through a tree (printed by gen_trees.py). -/
import Derived.Test.YtnbfjkebakaigaaTreeA
namespace Go.Proofs.Ytnbfjkebakaigaa
open Go.RowKit Go.Deep
set_option linter.unusedVariables false
set_option maxRecDepth 100000
/-- the cells of the reference's look -/
def lkHd (root : Int) (An : Option Addr) (nn pn sb : Nat) (ok : Bool) (v : Value) : List Value := [.int .i64 root, .slice An nn pn, .slice (some ⟨sb, 0, none⟩) nn nn, .bool ok, v]
theorem lk5 {w : World} {xb : Nat} {T : TypeId} {root : Int} {An : Option Addr} {nn pn sb : Nat} {ok : Bool} {v : Value} (h : Blk w xb T (lkHd root An nn pn sb ok v)) :
    w.cell? ⟨xb, 0, none⟩ = some (.int .i64 root) ∧ w.cell? ⟨xb, 1, none⟩ = some (.slice An nn pn) ∧ w.cell? ⟨xb, 2, none⟩ = some (.slice (some ⟨sb, 0, none⟩) nn nn) ∧ w.cell? ⟨xb, 3, none⟩ = some (.bool ok) ∧ w.cell? ⟨xb, 4, none⟩ = some v := by
  unfold lkHd at h
  exact ⟨h.cell (i := 0) (by simp), h.cell (i := 1) (by simp), h.cell (i := 2) (by simp), h.cell (i := 3) (by simp), h.cell (i := 4) (by simp)⟩
theorem visit_bad {N : List CNode} {f : Nat} {r : Bool} {k : Int} {s : List Bool} {q : List ByteArray} (h : inB k 0 ((N.length : Int) - 1) = false) : visit N (f + 1) r k s q = none := by
  have h1 := inB_false h
  rw [visit]
  split
  · next h0 =>
    rw [List.getElem?_eq_none (by omega)]
  · rfl
theorem visit_seen {N : List CNode} {f : Nat} {r : Bool} {k : Nat} {s : List Bool} {q : List ByteArray} (h : s[k]? = some true) : visit N (f + 1) r (k : Int) s q = none := by
  rw [visit]
  split
  · split
    · rfl
    · rw [Int.toNat_natCast, h, if_neg (by simp)]
  · rfl
theorem visit_at {N : List CNode} {f : Nat} {r : Bool} {k : Nat} {s : List Bool} {q : List ByteArray} {n : CNode} (hn : N[k]? = some n) (h : s[k]? = some false) : visit N (f + 1) r (k : Int) s q =
    if 4 < n.ks.length then none else if n.lf then (if leafB r n then some (1, s.set k true, q ++ n.ks) else none)
      else if innerB n then upV (kidsV (visit N f false) n.ks n.ds 0 (0, s.set k true, q)) else none := by
  rw [visit, if_pos (by omega), Int.toNat_natCast, hn]
  dsimp only
  rw [if_pos h]
  rfl
set_option maxRecDepth 100000 in
set_option maxHeartbeats 20000000 in
theorem spec_walk (B xb sb : Nat) (w0 : World) (root : Int) (An : Option Addr) (nn pn : Nat) (l : List XNode) (hl : l.length = nn) (hnn : nn ≤ 200) (hsm : XSm l) (hN : NsR w0 An l) :
    ∀ (f : Nat) (r : Bool) (k : Int) (s : List Bool) (q : List ByteArray) (v : Value) (w : World), unseen s < f → f ≤ 300 → s.length = nn → q.length + 4 * unseen s ≤ 4000 → ((r = true ∧ k = root) ∨ (r = false ∧ 0 ≤ root ∧ s[root.toNat]? = some true)) → TSt 200 4 9 B xb sb w0 w (lkHd root An nn pn sb true v) v s q w →
    Calls Try.prog 167 #[.pointer (some ⟨xb, 0, none⟩), .int .i64 k] w (TPost 200 4 9 B xb sb w0 w (lkHd root An nn pn sb) f q (q.length + 4 * unseen s) (visit (l.map XNode.c) f r k s q)) := by
  generalize hNN : l.map XNode.c = N
  have HNN := Lib.hid hNN
  clear hNN
  intro f
  induction f with
  | zero => intro r k s q v w h; omega
  | succ f ih =>
  intro r k s q v w hu hf hs hpot hr hT
  have HIH := Lib.hid ih
  have HT := Lib.hid hT
  have HN := Lib.hid hN
  have HL := Lib.hid hl
  have HSM := Lib.hid hsm
  have HR := Lib.hid hr
  have HU := Lib.hid hu
  have HPOT := Lib.hid hpot
  have HS := Lib.hid hs
  have HF := Lib.hid hf
  clear ih hN hl hsm hr hu hpot hf
  obtain ⟨k0, k1, k2, k3, k4⟩ := lk5 HT.out.bx
  have kf := HT.out.bx.frozen 3
  obtain ⟨Av, cav, hv⟩ := hT.form
  subst hv
  clear hT
  have HIN := Lib.hid (fun W => spec_l01In k 0 ((nn : Int) - 1) W)
  rcases hin : inB k 0 ((nn : Int) - 1) with _ | _
  · rw [hin] at HIN
    have hV : visit N (f + 1) r k s q = none := visit_bad (by rw [← HNN.out, List.length_map, HL.out]; exact hin)
    rw [hV]
    have HP := Lib.hid HPOT.out
    have X2 := Lib.hid ((HT.out.setV 3 (.bool false) (hd' := lkHd root An nn pn sb false (.slice Av q.length cav)) rfl))
    clear hin hV
    go_enter Try.func167, Try.ntmps167
    go_wp2_with fail
    refine (HIN.out _).mono ?_
    rintro e w' ⟨rfl, rfl⟩
    go_wp2_with fail
    go_ret
    exact ⟨0, false, _, s, q, rfl, X2.out, Nat.le_refl _, Nat.le_refl _, by omega, by omega, .inr ⟨rfl, rfl⟩⟩
  rw [hin] at HIN
  obtain ⟨i1, i2⟩ := inB_true hin
  obtain ⟨kn, rfl⟩ : ∃ kn : Nat, k = (kn : Int) := ⟨k.toNat, by omega⟩
  have hkn : kn < nn := by omega
  have hknI : (kn : Int) < (nn : Int) := by omega
  have hkn0 : (0 : Int) ≤ (kn : Int) := by omega
  clear hin i1 i2
  obtain ⟨sk, hsk⟩ : ∃ sk, s[kn]? = some sk := ⟨_, List.getElem?_eq_getElem (by omega)⟩
  have hsc := HT.out.seen hsk
  rcases sk with _ | _
  rotate_left
  · rw [visit_seen hsk]
    have X2 := Lib.hid ((HT.out.setV 3 (.bool false) (hd' := lkHd root An nn pn sb false (.slice Av q.length cav)) rfl))
    clear hsk hs
    go_enter Try.func167, Try.ntmps167
    go_wp2_with fail
    refine (HIN.out _).mono ?_
    rintro e w' ⟨rfl, rfl⟩
    go_wp2_with fail
    go_ret
    exact ⟨0, false, _, s, q, rfl, X2.out, Nat.le_refl _, Nat.le_refl _, by omega, by omega, .inr ⟨rfl, rfl⟩⟩
  have hkl : kn < l.length := by rw [HL.out]; exact hkn
  have hxc : N[kn]? = some (l[kn]'hkl).c := by rw [← HNN.out, List.getElem?_map, List.getElem?_eq_getElem hkl]; rfl
  have HUN := Lib.hid (unseen_set hsk)
  have HSK := Lib.hid hsk
  have hsm1 := HSM.out _ (List.getElem_mem hkl)
  obtain ⟨bn, on, rfl, hc⟩ := HN.out.1.flat XNode.len (by decide) hkl
  have n0 : w0.cell? ⟨bn, on + kn * 3, none⟩ = some (.bool l[kn].lf) := by exact hc 0 _ rfl
  have n1 : w0.cell? ⟨bn, on + kn * 3 + 1, none⟩ = some (.slice l[kn].Ak l[kn].ks.length l[kn].pk) := by rw [Nat.add_assoc]; exact hc 1 _ rfl
  have n2 : w0.cell? ⟨bn, on + kn * 3 + 2, none⟩ = some (.slice l[kn].Ai l[kn].ds.length l[kn].pi) := by rw [Nat.add_assoc]; exact hc 2 _ rfl
  have hok := HN.out.2 _ (List.getElem_mem hkl)
  generalize l[kn] = x at hxc hsm1 n0 n1 n2 hok
  obtain ⟨lf, ks, ds, Ak, pk, Ai, pi⟩ := x
  have HVI := Lib.hid (visit_at (f := f) (r := r) (q := q) hxc hsk)
  dsimp only at hsm1 n0 n1 n2
  generalize hnk : ks.length = nk at hsm1 n1
  generalize hnd : ds.length = nd at hsm1 n2
  have HNK := Lib.hid hnk
  have HND := Lib.hid hnd
  clear hnk hnd
  obtain ⟨hok1, hok2⟩ := hok
  unfold XNode.ck at hok1
  unfold XNode.ci at hok2
  dsimp only at hok1 hok2
  clear hc
  have HM := Lib.hid (HT.out.mark kn true)
  have HM2 := Lib.hid (HM.out.ext ((Ext.refl (w.setCell ⟨sb, kn, none⟩ (.bool true))).alloc (.cells #[.bool lf, .slice Ak nk pk, .slice Ai nd pi] 193)))
  have HNB := Lib.hid (Blk.new (w.setCell ⟨sb, kn, none⟩ (.bool true)) 193 [.bool lf, .slice Ak nk pk, .slice Ai nd pi])
  have m0 := HM.out.ex.cell n0
  have m1 := HM.out.ex.cell n1
  have m2 := HM.out.ex.cell n2
  have hfs := HT.out.bs.frozen kn
  have hfl := HNB.out.frozen 0
  obtain ⟨j0, j1, j2, j3, j4⟩ := lk5 HM.out.bx
  obtain ⟨p0, p1, p2, p3, p4⟩ := lk5 HM2.out.bx
  have pf := HM2.out.bx.frozen 3
  have b0 := HNB.out.cell (i := 0) (by simp)
  have b1 := HNB.out.cell (i := 1) (by simp)
  have b2 := HNB.out.cell (i := 2) (by simp)
  simp only [World.size_setCell, List.getElem_cons_zero, List.getElem_cons_succ] at b0 b1 b2
  have HHN := Lib.hid hkn
  rw [HVI.out]
  unfold XNode.c
  dsimp only
  by_cases h4 : 4 < nk
  · rw [if_pos (by rw [HNK.out]; exact h4)]
    have h4' : (4 : Int) < (nk : Int) := by omega
    have X2 := Lib.hid ((HM2.out.setV 3 (.bool false) (hd' := lkHd root (some ⟨bn, on, none⟩) nn pn sb false (.slice Av q.length cav)) rfl))
    go_enter Try.func167, Try.ntmps167
    go_wp2_with fail
    refine (HIN.out _).mono ?_
    rintro e w' ⟨rfl, rfl⟩
    go_wp2_with fail
    go_ret
    exact ⟨0, false, _, _, q, rfl, X2.out, Nat.le_refl _, by have := HUN.out; omega, by omega, by omega, .inr ⟨rfl, rfl⟩⟩
  rw [if_neg (by rw [HNK.out]; exact h4)]
  have h4' : (nk : Int) ≤ 4 := by omega
  have hrk : (((kn : Int) != root) = !r) := by
    rcases HR.out with ⟨h1, h2⟩ | ⟨h1, h2, h3⟩
    · rw [h1, h2]; simp
    · rw [h1]
      simp only [Bool.not_false, bne_iff_ne]
      intro e
      rw [← e, Int.toNat_natCast, HSK.out] at h3
      cases h3
  rcases lf with _ | _
  rotate_left
  · rw [if_pos rfl]
    obtain ⟨i0, hi, hz0, hz1, hz2⟩ := info_parts info_StringS
    by_cases hd : 0 < nd
    · have hlB : leafB r ⟨true, ks, ds⟩ = false := by unfold leafB; simp; intro e; have := HND.out; rw [e] at this; simp at this; omega
      rw [hlB, if_neg (by decide)]
      have hd' : (0 : Int) < (nd : Int) := by omega
      have X2 := Lib.hid ((HM2.out.setV 3 (.bool false) (hd' := lkHd root (some ⟨bn, on, none⟩) nn pn sb false (.slice Av q.length cav)) rfl))
      go_enter Try.func167, Try.ntmps167
      go_wp2_with fail
      refine (HIN.out _).mono ?_
      rintro e w' ⟨rfl, rfl⟩
      go_wp2_with fail
      have hne : w.heap.size ≠ xb := Nat.ne_of_gt HT.out.bx.lt
      have HN3 := Lib.hid ((show Blk _ w.heap.size _ _ by have h := HNB.out; rw [World.size_setCell] at h; exact h).far (p := ⟨xb, 3, none⟩) hne (.bool false))
      have HM3 := Lib.hid X2.out
      generalize (((w.setCell ⟨sb, kn, none⟩ (.bool true)).alloc (.cells #[.bool true, .slice Ak nk pk, .slice Ai nd pi] 193)).setCell ⟨xb, 3, none⟩ (.bool false)) = w3 at HN3 HM3 ⊢
      clear m0 m1 m2 hfs hfl j0 j1 j2 j3 j4 p0 p1 p2 p3 p4 pf b0 b1 b2
      refine rx_start (fun W => Blk W xb 200 (lkHd root (some ⟨bn, on, none⟩) nn pn sb false (.slice Av q.length cav)) ∧ Blk W w.heap.size 193 [.bool true, .slice Ak nk pk, .slice Ai nd pi]) 10 (by kernel_rfl) ⟨HM3.out.bx, HN3.out⟩ (fun hS0 => ?_)
      have HM4 := Lib.hid (HM3.out.ext (Ext.refl w3).drew)
      have HN4 := Lib.hid HN3.out.drew
      generalize w3.drew = w4 at HM4 HN4 hS0 ⊢
      clear HM3 HN3
      (refine rx_take (v := ?_) 0 rfl (by kernel_rfl) (by kernel_rfl) (by kernel_rfl) (by kernel_rfl) (fun _ _ _ h => h) (by rfl) (by assumption) (fun W hW => ?_) ?_; rotate_left; (focus (go_simp; try with_reducible rfl)); (try simp only [List.setIfInBounds_toArray, List.set_cons_succ, List.set_cons_zero]))
      (refine rx_take (v := ?_) 1 rfl (by kernel_rfl) (by kernel_rfl) (by kernel_rfl) (by kernel_rfl) (fun _ _ _ h => h) (by rfl) (by assumption) (fun W hW => ?_) ?_; rotate_left; (focus (go_simp; try with_reducible rfl)); (try simp only [List.setIfInBounds_toArray, List.set_cons_succ, List.set_cons_zero]))
      (refine rx_take (v := ?_) 2 rfl (by kernel_rfl) (by kernel_rfl) (by kernel_rfl) (by kernel_rfl) (fun _ _ _ h => h) (by rfl) (by assumption) (fun W hW => ?_) ?_; rotate_left; (focus (go_simp; try with_reducible rfl)); (try simp only [List.setIfInBounds_toArray, List.set_cons_succ, List.set_cons_zero]))
      (refine rx_take (v := ?_) 3 rfl (by kernel_rfl) (by kernel_rfl) (by kernel_rfl) (by kernel_rfl) (fun _ _ _ h => h) (by rfl) (by assumption) (fun W hW => ?_) ?_; rotate_left; (focus (go_simp; try with_reducible rfl)); (try simp only [List.setIfInBounds_toArray, List.set_cons_succ, List.set_cons_zero]))
      (refine rx_take (v := ?_) 4 rfl (by kernel_rfl) (by kernel_rfl) (by kernel_rfl) (by kernel_rfl) (fun _ _ _ h => h) (by rfl) (by assumption) (fun W hW => ?_) ?_; rotate_left; (focus (obtain ⟨p0, p1, p2, p3, p4⟩ := lk5 hW.1; go_simp; try with_reducible rfl)); (try simp only [List.setIfInBounds_toArray, List.set_cons_succ, List.set_cons_zero]))
      (refine rx_take (v := ?_) 5 rfl (by kernel_rfl) (by kernel_rfl) (by kernel_rfl) (by kernel_rfl) (fun _ _ _ h => h) (by rfl) (by assumption) (fun W hW => ?_) ?_; rotate_left; (focus (go_simp; try with_reducible rfl)); (try simp only [List.setIfInBounds_toArray, List.set_cons_succ, List.set_cons_zero]))
      (refine rx_take (v := ?_) 6 rfl (by kernel_rfl) (by kernel_rfl) (by kernel_rfl) (by kernel_rfl) (fun _ _ _ h => h) (by rfl) (by assumption) (fun W hW => ?_) ?_; rotate_left; (focus (have b1 := hW.2.cell (i := 1) (by simp); simp only [List.getElem_cons_zero, List.getElem_cons_succ] at b1; go_simp; try with_reducible rfl)); (try simp only [List.setIfInBounds_toArray, List.set_cons_succ, List.set_cons_zero]))
      refine rx_one 7 (by kernel_rfl) rfl (by rfl) (fun K hK => ?_)
      refine wp_append_rd (.tmp 81) (.tmp 83) 22 B 9 i0 (.string ByteArray.empty) 16 Try.underlying22 hi hz0 hz1 hz2 rfl _ q.length _ rfl HM4.out.row Ak nk pk _ rfl (by rw [List.length_map]; exact HNK.out) (hok1.ext HM4.out.ex) (str_one ks) (by have := HPOT.out; unfold maxLen; omega) (by have := HPOT.out; omega) HM4.out.hBw ?_
      intro v5 w5 ho5 hg5
      have HM5 := Lib.hid (HM4.out.app (n := q.length + nk) (q' := q ++ ks) (by rw [List.length_append, HNK.out]) (by rw [List.map_append]; exact ho5) hg5)
      have HN5 := Lib.hid (((TFr.refl 200 4 9 w4).row HM4.out.row hg5) _ _ _ HN4.out (by decide) (by decide) (by decide))
      refine hK _ _ (.inr ⟨HM5.out.bx, HN5.out⟩) (fun _ => ?_)
      clear hK K
      try dsimp only
      obtain ⟨A5, cap5, rfl⟩ := own_slice ho5
      have f5 := HM5.out.bx.frozen 4
      obtain ⟨p0, p1, p2, p3, p4⟩ := lk5 HM5.out.bx
      clear ho5 hg5
      have hS5 := And.intro HM5.out.bx HN5.out
      try simp only [List.setIfInBounds_toArray, List.set_cons_succ, List.set_cons_zero]
      (refine rx_take2 (v := ?_) 8 9 rfl (by kernel_rfl) (by kernel_rfl) (by kernel_rfl) (by kernel_rfl) (by kernel_rfl) (by kernel_rfl) (fun _ _ _ h => h) (by rfl) (by assumption) (fun W hW => ?_) ?_; rotate_left; (focus (go_simp; try with_reducible rfl)); (try simp only [List.setIfInBounds_toArray, List.set_cons_succ, List.set_cons_zero]))
      (refine rx_take (v := ?_) 9 rfl (by kernel_rfl) (by kernel_rfl) (by kernel_rfl) (by kernel_rfl) (fun _ _ _ h => h) (by rfl) (by assumption) (fun W hW => ?_) ?_; rotate_left; (focus (go_simp; try with_reducible rfl)); (try simp only [List.setIfInBounds_toArray, List.set_cons_succ, List.set_cons_zero]))
      (refine rx_one 10 (by kernel_rfl) rfl (by rfl) (fun K hK => ?_); go_simp)
      have X5 := Lib.hid (HM5.out.setV 4 (.slice A5 (q.length + nk) cap5) (hd' := lkHd root (some ⟨bn, on, none⟩) nn pn sb false (.slice A5 (q.length + nk) cap5)) rfl)
      refine hK _ _ (.inl rfl) (fun _ => ?_)
      clear hK K
      try simp only [List.setIfInBounds_toArray, List.set_cons_succ, List.set_cons_zero]
      refine rx_done (by kernel_rfl) ?_
      clear f5 p0 p1 p2 p3 p4
      go_wp2_with fail
      go_ret
      exact ⟨1, false, _, s.set kn true, q ++ ks, rfl, X5.out, by simp, by rw [List.length_append]; have := HUN.out; have := HNK.out; omega, by omega, by omega, .inr ⟨rfl, rfl⟩⟩
    · obtain rfl : nd = 0 := by omega
      clear hd
      have hd0 : ds = [] := List.eq_nil_of_length_eq_zero HND.out
      by_cases hk0 : nk = 0
      · subst hk0
        have hk1 : ks = [] := List.eq_nil_of_length_eq_zero HNK.out
        rcases r with _ | _
        · rw [show leafB false ⟨true, ks, ds⟩ = false by rw [hd0, hk1]; rfl, if_neg (by decide)]
          clear hd0 hk1
          have hrk' : ((kn : Int) != root) = true := by simpa using hrk
          have X2 := Lib.hid ((HM2.out.setV 3 (.bool false) (hd' := lkHd root (some ⟨bn, on, none⟩) nn pn sb false (.slice Av q.length cav)) rfl))
          go_enter Try.func167, Try.ntmps167
          go_wp2_with fail
          refine (HIN.out _).mono ?_
          rintro e w' ⟨rfl, rfl⟩
          go_wp2_with fail
          have hne : w.heap.size ≠ xb := Nat.ne_of_gt HT.out.bx.lt
          have HN3 := Lib.hid ((show Blk _ w.heap.size _ _ by have h := HNB.out; rw [World.size_setCell] at h; exact h).far (p := ⟨xb, 3, none⟩) hne (.bool false))
          have HM3 := Lib.hid X2.out
          generalize (((w.setCell ⟨sb, kn, none⟩ (.bool true)).alloc (.cells #[.bool true, .slice Ak 0 pk, .slice Ai 0 pi] 193)).setCell ⟨xb, 3, none⟩ (.bool false)) = w3 at HN3 HM3 ⊢
          clear m0 m1 m2 hfs hfl j0 j1 j2 j3 j4 p0 p1 p2 p3 p4 pf b0 b1 b2
          refine rx_start (fun W => Blk W xb 200 (lkHd root (some ⟨bn, on, none⟩) nn pn sb false (.slice Av q.length cav)) ∧ Blk W w.heap.size 193 [.bool true, .slice Ak 0 pk, .slice Ai 0 pi]) 10 (by kernel_rfl) ⟨HM3.out.bx, HN3.out⟩ (fun hS0 => ?_)
          have HM4 := Lib.hid (HM3.out.ext (Ext.refl w3).drew)
          have HN4 := Lib.hid HN3.out.drew
          generalize w3.drew = w4 at HM4 HN4 hS0 ⊢
          clear HM3 HN3
          (refine rx_take (v := ?_) 0 rfl (by kernel_rfl) (by kernel_rfl) (by kernel_rfl) (by kernel_rfl) (fun _ _ _ h => h) (by rfl) (by assumption) (fun W hW => ?_) ?_; rotate_left; (focus (go_simp; try with_reducible rfl)); (try simp only [List.setIfInBounds_toArray, List.set_cons_succ, List.set_cons_zero]))
          (refine rx_take (v := ?_) 1 rfl (by kernel_rfl) (by kernel_rfl) (by kernel_rfl) (by kernel_rfl) (fun _ _ _ h => h) (by rfl) (by assumption) (fun W hW => ?_) ?_; rotate_left; (focus (go_simp; try with_reducible rfl)); (try simp only [List.setIfInBounds_toArray, List.set_cons_succ, List.set_cons_zero]))
          (refine rx_take (v := ?_) 2 rfl (by kernel_rfl) (by kernel_rfl) (by kernel_rfl) (by kernel_rfl) (fun _ _ _ h => h) (by rfl) (by assumption) (fun W hW => ?_) ?_; rotate_left; (focus (go_simp; try with_reducible rfl)); (try simp only [List.setIfInBounds_toArray, List.set_cons_succ, List.set_cons_zero]))
          (refine rx_take (v := ?_) 3 rfl (by kernel_rfl) (by kernel_rfl) (by kernel_rfl) (by kernel_rfl) (fun _ _ _ h => h) (by rfl) (by assumption) (fun W hW => ?_) ?_; rotate_left; (focus (go_simp; try with_reducible rfl)); (try simp only [List.setIfInBounds_toArray, List.set_cons_succ, List.set_cons_zero]))
          (refine rx_take (v := ?_) 4 rfl (by kernel_rfl) (by kernel_rfl) (by kernel_rfl) (by kernel_rfl) (fun _ _ _ h => h) (by rfl) (by assumption) (fun W hW => ?_) ?_; rotate_left; (focus (obtain ⟨p0, p1, p2, p3, p4⟩ := lk5 hW.1; go_simp; try with_reducible rfl)); (try simp only [List.setIfInBounds_toArray, List.set_cons_succ, List.set_cons_zero]))
          (refine rx_take (v := ?_) 5 rfl (by kernel_rfl) (by kernel_rfl) (by kernel_rfl) (by kernel_rfl) (fun _ _ _ h => h) (by rfl) (by assumption) (fun W hW => ?_) ?_; rotate_left; (focus (go_simp; try with_reducible rfl)); (try simp only [List.setIfInBounds_toArray, List.set_cons_succ, List.set_cons_zero]))
          (refine rx_take (v := ?_) 6 rfl (by kernel_rfl) (by kernel_rfl) (by kernel_rfl) (by kernel_rfl) (fun _ _ _ h => h) (by rfl) (by assumption) (fun W hW => ?_) ?_; rotate_left; (focus (have b1 := hW.2.cell (i := 1) (by simp); simp only [List.getElem_cons_zero, List.getElem_cons_succ] at b1; go_simp; try with_reducible rfl)); (try simp only [List.setIfInBounds_toArray, List.set_cons_succ, List.set_cons_zero]))
          refine rx_one 7 (by kernel_rfl) rfl (by rfl) (fun K hK => ?_)
          refine wp_append_rd (.tmp 81) (.tmp 83) 22 B 9 i0 (.string ByteArray.empty) 16 Try.underlying22 hi hz0 hz1 hz2 rfl _ q.length _ rfl HM4.out.row Ak 0 pk _ rfl (by rw [List.length_map]; exact HNK.out) (hok1.ext HM4.out.ex) (str_one ks) (by have := HPOT.out; unfold maxLen; omega) (by have := HPOT.out; omega) HM4.out.hBw ?_
          intro v5 w5 ho5 hg5
          have HM5 := Lib.hid (HM4.out.app (n := q.length + 0) (q' := q ++ ks) (by rw [List.length_append, HNK.out]) (by rw [List.map_append]; exact ho5) hg5)
          have HN5 := Lib.hid (((TFr.refl 200 4 9 w4).row HM4.out.row hg5) _ _ _ HN4.out (by decide) (by decide) (by decide))
          refine hK _ _ (.inr ⟨HM5.out.bx, HN5.out⟩) (fun _ => ?_)
          clear hK K
          try dsimp only
          obtain ⟨A5, cap5, rfl⟩ := own_slice ho5
          have f5 := HM5.out.bx.frozen 4
          obtain ⟨p0, p1, p2, p3, p4⟩ := lk5 HM5.out.bx
          clear ho5 hg5
          have hS5 := And.intro HM5.out.bx HN5.out
          try simp only [List.setIfInBounds_toArray, List.set_cons_succ, List.set_cons_zero]
          (refine rx_take2 (v := ?_) 8 9 rfl (by kernel_rfl) (by kernel_rfl) (by kernel_rfl) (by kernel_rfl) (by kernel_rfl) (by kernel_rfl) (fun _ _ _ h => h) (by rfl) (by assumption) (fun W hW => ?_) ?_; rotate_left; (focus (go_simp; try with_reducible rfl)); (try simp only [List.setIfInBounds_toArray, List.set_cons_succ, List.set_cons_zero]))
          (refine rx_take (v := ?_) 9 rfl (by kernel_rfl) (by kernel_rfl) (by kernel_rfl) (by kernel_rfl) (fun _ _ _ h => h) (by rfl) (by assumption) (fun W hW => ?_) ?_; rotate_left; (focus (go_simp; try with_reducible rfl)); (try simp only [List.setIfInBounds_toArray, List.set_cons_succ, List.set_cons_zero]))
          (refine rx_one 10 (by kernel_rfl) rfl (by rfl) (fun K hK => ?_); go_simp)
          have X5 := Lib.hid (HM5.out.setV 4 (.slice A5 (q.length + 0) cap5) (hd' := lkHd root (some ⟨bn, on, none⟩) nn pn sb false (.slice A5 (q.length + 0) cap5)) rfl)
          refine hK _ _ (.inl rfl) (fun _ => ?_)
          clear hK K
          try simp only [List.setIfInBounds_toArray, List.set_cons_succ, List.set_cons_zero]
          refine rx_done (by kernel_rfl) ?_
          clear f5 p0 p1 p2 p3 p4
          go_wp2_with fail
          go_ret
          exact ⟨1, false, _, s.set kn true, q ++ ks, rfl, X5.out, by simp, by rw [List.length_append]; have := HUN.out; have := HNK.out; omega, by omega, by omega, .inr ⟨rfl, rfl⟩⟩
        · rw [show leafB true ⟨true, ks, ds⟩ = true by rw [hd0, hk1]; rfl, if_pos rfl]
          clear hd0 hk1
          have hrk' : ((kn : Int) != root) = false := by simpa using hrk
          go_enter Try.func167, Try.ntmps167
          go_wp2_with fail
          refine (HIN.out _).mono ?_
          rintro e w' ⟨rfl, rfl⟩
          go_wp2_with fail
          have HN3 := Lib.hid (show Blk _ w.heap.size _ _ by have h := HNB.out; rw [World.size_setCell] at h; exact h)
          have HM3 := Lib.hid HM2.out
          generalize ((w.setCell ⟨sb, kn, none⟩ (.bool true)).alloc (.cells #[.bool true, .slice Ak 0 pk, .slice Ai 0 pi] 193)) = w3 at HN3 HM3 ⊢
          clear m0 m1 m2 hfs hfl j0 j1 j2 j3 j4 p0 p1 p2 p3 p4 pf b0 b1 b2
          refine rx_start (fun W => Blk W xb 200 (lkHd root (some ⟨bn, on, none⟩) nn pn sb true (.slice Av q.length cav)) ∧ Blk W w.heap.size 193 [.bool true, .slice Ak 0 pk, .slice Ai 0 pi]) 10 (by kernel_rfl) ⟨HM3.out.bx, HN3.out⟩ (fun hS0 => ?_)
          have HM4 := Lib.hid (HM3.out.ext (Ext.refl w3).drew)
          have HN4 := Lib.hid HN3.out.drew
          generalize w3.drew = w4 at HM4 HN4 hS0 ⊢
          clear HM3 HN3
          (refine rx_take (v := ?_) 0 rfl (by kernel_rfl) (by kernel_rfl) (by kernel_rfl) (by kernel_rfl) (fun _ _ _ h => h) (by rfl) (by assumption) (fun W hW => ?_) ?_; rotate_left; (focus (go_simp; try with_reducible rfl)); (try simp only [List.setIfInBounds_toArray, List.set_cons_succ, List.set_cons_zero]))
          (refine rx_take (v := ?_) 1 rfl (by kernel_rfl) (by kernel_rfl) (by kernel_rfl) (by kernel_rfl) (fun _ _ _ h => h) (by rfl) (by assumption) (fun W hW => ?_) ?_; rotate_left; (focus (go_simp; try with_reducible rfl)); (try simp only [List.setIfInBounds_toArray, List.set_cons_succ, List.set_cons_zero]))
          (refine rx_take (v := ?_) 2 rfl (by kernel_rfl) (by kernel_rfl) (by kernel_rfl) (by kernel_rfl) (fun _ _ _ h => h) (by rfl) (by assumption) (fun W hW => ?_) ?_; rotate_left; (focus (go_simp; try with_reducible rfl)); (try simp only [List.setIfInBounds_toArray, List.set_cons_succ, List.set_cons_zero]))
          (refine rx_take (v := ?_) 3 rfl (by kernel_rfl) (by kernel_rfl) (by kernel_rfl) (by kernel_rfl) (fun _ _ _ h => h) (by rfl) (by assumption) (fun W hW => ?_) ?_; rotate_left; (focus (go_simp; try with_reducible rfl)); (try simp only [List.setIfInBounds_toArray, List.set_cons_succ, List.set_cons_zero]))
          (refine rx_take (v := ?_) 4 rfl (by kernel_rfl) (by kernel_rfl) (by kernel_rfl) (by kernel_rfl) (fun _ _ _ h => h) (by rfl) (by assumption) (fun W hW => ?_) ?_; rotate_left; (focus (obtain ⟨p0, p1, p2, p3, p4⟩ := lk5 hW.1; go_simp; try with_reducible rfl)); (try simp only [List.setIfInBounds_toArray, List.set_cons_succ, List.set_cons_zero]))
          (refine rx_take (v := ?_) 5 rfl (by kernel_rfl) (by kernel_rfl) (by kernel_rfl) (by kernel_rfl) (fun _ _ _ h => h) (by rfl) (by assumption) (fun W hW => ?_) ?_; rotate_left; (focus (go_simp; try with_reducible rfl)); (try simp only [List.setIfInBounds_toArray, List.set_cons_succ, List.set_cons_zero]))
          (refine rx_take (v := ?_) 6 rfl (by kernel_rfl) (by kernel_rfl) (by kernel_rfl) (by kernel_rfl) (fun _ _ _ h => h) (by rfl) (by assumption) (fun W hW => ?_) ?_; rotate_left; (focus (have b1 := hW.2.cell (i := 1) (by simp); simp only [List.getElem_cons_zero, List.getElem_cons_succ] at b1; go_simp; try with_reducible rfl)); (try simp only [List.setIfInBounds_toArray, List.set_cons_succ, List.set_cons_zero]))
          refine rx_one 7 (by kernel_rfl) rfl (by rfl) (fun K hK => ?_)
          refine wp_append_rd (.tmp 81) (.tmp 83) 22 B 9 i0 (.string ByteArray.empty) 16 Try.underlying22 hi hz0 hz1 hz2 rfl _ q.length _ rfl HM4.out.row Ak 0 pk _ rfl (by rw [List.length_map]; exact HNK.out) (hok1.ext HM4.out.ex) (str_one ks) (by have := HPOT.out; unfold maxLen; omega) (by have := HPOT.out; omega) HM4.out.hBw ?_
          intro v5 w5 ho5 hg5
          have HM5 := Lib.hid (HM4.out.app (n := q.length + 0) (q' := q ++ ks) (by rw [List.length_append, HNK.out]) (by rw [List.map_append]; exact ho5) hg5)
          have HN5 := Lib.hid (((TFr.refl 200 4 9 w4).row HM4.out.row hg5) _ _ _ HN4.out (by decide) (by decide) (by decide))
          refine hK _ _ (.inr ⟨HM5.out.bx, HN5.out⟩) (fun _ => ?_)
          clear hK K
          try dsimp only
          obtain ⟨A5, cap5, rfl⟩ := own_slice ho5
          have f5 := HM5.out.bx.frozen 4
          obtain ⟨p0, p1, p2, p3, p4⟩ := lk5 HM5.out.bx
          clear ho5 hg5
          have hS5 := And.intro HM5.out.bx HN5.out
          try simp only [List.setIfInBounds_toArray, List.set_cons_succ, List.set_cons_zero]
          (refine rx_take2 (v := ?_) 8 9 rfl (by kernel_rfl) (by kernel_rfl) (by kernel_rfl) (by kernel_rfl) (by kernel_rfl) (by kernel_rfl) (fun _ _ _ h => h) (by rfl) (by assumption) (fun W hW => ?_) ?_; rotate_left; (focus (go_simp; try with_reducible rfl)); (try simp only [List.setIfInBounds_toArray, List.set_cons_succ, List.set_cons_zero]))
          (refine rx_take (v := ?_) 9 rfl (by kernel_rfl) (by kernel_rfl) (by kernel_rfl) (by kernel_rfl) (fun _ _ _ h => h) (by rfl) (by assumption) (fun W hW => ?_) ?_; rotate_left; (focus (go_simp; try with_reducible rfl)); (try simp only [List.setIfInBounds_toArray, List.set_cons_succ, List.set_cons_zero]))
          (refine rx_one 10 (by kernel_rfl) rfl (by rfl) (fun K hK => ?_); go_simp)
          have X5 := Lib.hid (HM5.out.setV 4 (.slice A5 (q.length + 0) cap5) (hd' := lkHd root (some ⟨bn, on, none⟩) nn pn sb true (.slice A5 (q.length + 0) cap5)) rfl)
          refine hK _ _ (.inl rfl) (fun _ => ?_)
          clear hK K
          try simp only [List.setIfInBounds_toArray, List.set_cons_succ, List.set_cons_zero]
          refine rx_done (by kernel_rfl) ?_
          clear f5 p0 p1 p2 p3 p4
          go_wp2_with fail
          go_ret
          exact ⟨1, true, _, s.set kn true, q ++ ks, rfl, X5.out, by simp, by rw [List.length_append]; have := HUN.out; have := HNK.out; omega, by omega, by omega, .inl ⟨rfl, rfl⟩⟩
      · have hlB : leafB r ⟨true, ks, ds⟩ = true := by unfold leafB; rw [hd0]; simp; right; have := HNK.out; omega
        have hk0' : ((nk : Int) == 0) = false := by rw [beq_eq_false_iff_ne]; omega
        rw [hlB, if_pos rfl]
        clear hlB hd0 hk0
        go_enter Try.func167, Try.ntmps167
        go_wp2_with fail
        refine (HIN.out _).mono ?_
        rintro e w' ⟨rfl, rfl⟩
        go_wp2_with fail
        have HN3 := Lib.hid (show Blk _ w.heap.size _ _ by have h := HNB.out; rw [World.size_setCell] at h; exact h)
        have HM3 := Lib.hid HM2.out
        generalize ((w.setCell ⟨sb, kn, none⟩ (.bool true)).alloc (.cells #[.bool true, .slice Ak nk pk, .slice Ai 0 pi] 193)) = w3 at HN3 HM3 ⊢
        clear m0 m1 m2 hfs hfl j0 j1 j2 j3 j4 p0 p1 p2 p3 p4 pf b0 b1 b2
        refine rx_start (fun W => Blk W xb 200 (lkHd root (some ⟨bn, on, none⟩) nn pn sb true (.slice Av q.length cav)) ∧ Blk W w.heap.size 193 [.bool true, .slice Ak nk pk, .slice Ai 0 pi]) 10 (by kernel_rfl) ⟨HM3.out.bx, HN3.out⟩ (fun hS0 => ?_)
        have HM4 := Lib.hid (HM3.out.ext (Ext.refl w3).drew)
        have HN4 := Lib.hid HN3.out.drew
        generalize w3.drew = w4 at HM4 HN4 hS0 ⊢
        clear HM3 HN3
        (refine rx_take (v := ?_) 0 rfl (by kernel_rfl) (by kernel_rfl) (by kernel_rfl) (by kernel_rfl) (fun _ _ _ h => h) (by rfl) (by assumption) (fun W hW => ?_) ?_; rotate_left; (focus (go_simp; try with_reducible rfl)); (try simp only [List.setIfInBounds_toArray, List.set_cons_succ, List.set_cons_zero]))
        (refine rx_take (v := ?_) 1 rfl (by kernel_rfl) (by kernel_rfl) (by kernel_rfl) (by kernel_rfl) (fun _ _ _ h => h) (by rfl) (by assumption) (fun W hW => ?_) ?_; rotate_left; (focus (go_simp; try with_reducible rfl)); (try simp only [List.setIfInBounds_toArray, List.set_cons_succ, List.set_cons_zero]))
        (refine rx_take (v := ?_) 2 rfl (by kernel_rfl) (by kernel_rfl) (by kernel_rfl) (by kernel_rfl) (fun _ _ _ h => h) (by rfl) (by assumption) (fun W hW => ?_) ?_; rotate_left; (focus (go_simp; try with_reducible rfl)); (try simp only [List.setIfInBounds_toArray, List.set_cons_succ, List.set_cons_zero]))
        (refine rx_take (v := ?_) 3 rfl (by kernel_rfl) (by kernel_rfl) (by kernel_rfl) (by kernel_rfl) (fun _ _ _ h => h) (by rfl) (by assumption) (fun W hW => ?_) ?_; rotate_left; (focus (go_simp; try with_reducible rfl)); (try simp only [List.setIfInBounds_toArray, List.set_cons_succ, List.set_cons_zero]))
        (refine rx_take (v := ?_) 4 rfl (by kernel_rfl) (by kernel_rfl) (by kernel_rfl) (by kernel_rfl) (fun _ _ _ h => h) (by rfl) (by assumption) (fun W hW => ?_) ?_; rotate_left; (focus (obtain ⟨p0, p1, p2, p3, p4⟩ := lk5 hW.1; go_simp; try with_reducible rfl)); (try simp only [List.setIfInBounds_toArray, List.set_cons_succ, List.set_cons_zero]))
        (refine rx_take (v := ?_) 5 rfl (by kernel_rfl) (by kernel_rfl) (by kernel_rfl) (by kernel_rfl) (fun _ _ _ h => h) (by rfl) (by assumption) (fun W hW => ?_) ?_; rotate_left; (focus (go_simp; try with_reducible rfl)); (try simp only [List.setIfInBounds_toArray, List.set_cons_succ, List.set_cons_zero]))
        (refine rx_take (v := ?_) 6 rfl (by kernel_rfl) (by kernel_rfl) (by kernel_rfl) (by kernel_rfl) (fun _ _ _ h => h) (by rfl) (by assumption) (fun W hW => ?_) ?_; rotate_left; (focus (have b1 := hW.2.cell (i := 1) (by simp); simp only [List.getElem_cons_zero, List.getElem_cons_succ] at b1; go_simp; try with_reducible rfl)); (try simp only [List.setIfInBounds_toArray, List.set_cons_succ, List.set_cons_zero]))
        refine rx_one 7 (by kernel_rfl) rfl (by rfl) (fun K hK => ?_)
        refine wp_append_rd (.tmp 81) (.tmp 83) 22 B 9 i0 (.string ByteArray.empty) 16 Try.underlying22 hi hz0 hz1 hz2 rfl _ q.length _ rfl HM4.out.row Ak nk pk _ rfl (by rw [List.length_map]; exact HNK.out) (hok1.ext HM4.out.ex) (str_one ks) (by have := HPOT.out; unfold maxLen; omega) (by have := HPOT.out; omega) HM4.out.hBw ?_
        intro v5 w5 ho5 hg5
        have HM5 := Lib.hid (HM4.out.app (n := q.length + nk) (q' := q ++ ks) (by rw [List.length_append, HNK.out]) (by rw [List.map_append]; exact ho5) hg5)
        have HN5 := Lib.hid (((TFr.refl 200 4 9 w4).row HM4.out.row hg5) _ _ _ HN4.out (by decide) (by decide) (by decide))
        refine hK _ _ (.inr ⟨HM5.out.bx, HN5.out⟩) (fun _ => ?_)
        clear hK K
        try dsimp only
        obtain ⟨A5, cap5, rfl⟩ := own_slice ho5
        have f5 := HM5.out.bx.frozen 4
        obtain ⟨p0, p1, p2, p3, p4⟩ := lk5 HM5.out.bx
        clear ho5 hg5
        have hS5 := And.intro HM5.out.bx HN5.out
        try simp only [List.setIfInBounds_toArray, List.set_cons_succ, List.set_cons_zero]
        (refine rx_take2 (v := ?_) 8 9 rfl (by kernel_rfl) (by kernel_rfl) (by kernel_rfl) (by kernel_rfl) (by kernel_rfl) (by kernel_rfl) (fun _ _ _ h => h) (by rfl) (by assumption) (fun W hW => ?_) ?_; rotate_left; (focus (go_simp; try with_reducible rfl)); (try simp only [List.setIfInBounds_toArray, List.set_cons_succ, List.set_cons_zero]))
        (refine rx_take (v := ?_) 9 rfl (by kernel_rfl) (by kernel_rfl) (by kernel_rfl) (by kernel_rfl) (fun _ _ _ h => h) (by rfl) (by assumption) (fun W hW => ?_) ?_; rotate_left; (focus (go_simp; try with_reducible rfl)); (try simp only [List.setIfInBounds_toArray, List.set_cons_succ, List.set_cons_zero]))
        (refine rx_one 10 (by kernel_rfl) rfl (by rfl) (fun K hK => ?_); go_simp)
        have X5 := Lib.hid (HM5.out.setV 4 (.slice A5 (q.length + nk) cap5) (hd' := lkHd root (some ⟨bn, on, none⟩) nn pn sb true (.slice A5 (q.length + nk) cap5)) rfl)
        refine hK _ _ (.inl rfl) (fun _ => ?_)
        clear hK K
        try simp only [List.setIfInBounds_toArray, List.set_cons_succ, List.set_cons_zero]
        refine rx_done (by kernel_rfl) ?_
        clear f5 p0 p1 p2 p3 p4
        go_wp2_with fail
        go_ret
        exact ⟨1, true, _, s.set kn true, q ++ ks, rfl, X5.out, by simp, by rw [List.length_append]; have := HUN.out; have := HNK.out; omega, by omega, by omega, .inl ⟨rfl, rfl⟩⟩
  rw [if_neg (by decide)]
  by_cases hA : nd = nk + 1
  rotate_left
  · have hI : innerB ⟨false, ks, ds⟩ = false := by unfold innerB; simp; intro h1; exfalso; have := HNK.out; have := HND.out; omega
    rw [hI, if_neg (by decide)]
    have hA' : ((nd : Int) != (nk : Int) + 1) = true := by rw [bne_iff_ne]; omega
    clear hI hA
    have X2 := Lib.hid ((HM2.out.setV 3 (.bool false) (hd' := lkHd root (some ⟨bn, on, none⟩) nn pn sb false (.slice Av q.length cav)) rfl))
    go_enter Try.func167, Try.ntmps167
    go_wp2_with fail
    refine (HIN.out _).mono ?_
    rintro e w' ⟨rfl, rfl⟩
    go_wp2_with fail
    go_ret
    exact ⟨0, false, _, _, q, rfl, X2.out, Nat.le_refl _, by have := HUN.out; omega, by omega, by omega, .inr ⟨rfl, rfl⟩⟩
  have hA' : ((nd : Int) != (nk : Int) + 1) = false := by unfold bne; rw [Bool.not_eq_false', beq_iff_eq]; omega
  by_cases h2 : nd < 2
  · have hI : innerB ⟨false, ks, ds⟩ = false := by unfold innerB; simp; intro h1; have := HND.out; omega
    rw [hI, if_neg (by decide)]
    have h2' : (nd : Int) < 2 := by omega
    clear hI hA
    have X2 := Lib.hid ((HM2.out.setV 3 (.bool false) (hd' := lkHd root (some ⟨bn, on, none⟩) nn pn sb false (.slice Av q.length cav)) rfl))
    go_enter Try.func167, Try.ntmps167
    go_wp2_with fail
    refine (HIN.out _).mono ?_
    rintro e w' ⟨rfl, rfl⟩
    go_wp2_with fail
    go_ret
    exact ⟨0, false, _, _, q, rfl, X2.out, Nat.le_refl _, by have := HUN.out; omega, by omega, by omega, .inr ⟨rfl, rfl⟩⟩
  have hI : innerB ⟨false, ks, ds⟩ = true := by unfold innerB; simp; have := HNK.out; have := HND.out; omega
  rw [hI, if_pos rfl]
  generalize hRK : kidsV (visit N f false) ks ds 0 (0, s.set kn true, q) = RK
  have HKS := Lib.hid (show KRel (visit N f false) ks ds RK 0 0 true (s.set kn true) q by rw [← hRK]; exact KRel.start _ _ _ _ _)
  generalize hRR : upV RK = RR
  have HRR := Lib.hid hRR
  clear hRK hRR
  have h2' : ¬ (nd : Int) < 2 := by omega
  have HA := Lib.hid hA
  clear hI hA h2
  go_enter Try.func167, Try.ntmps167
  go_wp2_with fail
  refine (HIN.out _).mono ?_
  rintro e w' ⟨rfl, rfl⟩
  go_wp2_with fail
  clear hA' h2' h4 h4' hrk
  have HN3 := Lib.hid (show Blk _ w.heap.size _ _ by have h := HNB.out; rw [World.size_setCell] at h; exact h)
  have HM3 := Lib.hid HM2.out
  have HUW := Lib.hid HT.out.bx.lt
  generalize ((w.setCell ⟨sb, kn, none⟩ (.bool true)).alloc (.cells #[.bool false, .slice Ak nk pk, .slice Ai nd pi] 193)) = w3 at HN3 HM3 ⊢
  clear m0 m1 m2 hfs hfl j0 j1 j2 j3 j4 p0 p1 p2 p3 p4 pf b0 b1 b2 k0 k1 k2 k3 k4 kf hsc HNB HM2 HM HVI hsk n0 n1 n2 hxc hs
  generalize w.heap.size = nb at HN3 ⊢
  have HRT := Lib.hid (show 0 ≤ root ∧ (s.set kn true)[root.toNat]? = some true by
    rcases HR.out with ⟨h1, h2⟩ | ⟨h1, h2, h3⟩
    · rw [← h2]; exact ⟨by omega, by rw [Int.toNat_natCast]; exact set_self HSK.out⟩
    · exact ⟨h2, set_mono _ h3⟩)
  have HS1 := Lib.hid (show (s.set kn true).length = nn by rw [List.length_set]; exact HS.out)
  generalize s.set kn true = s1 at HM3 HUN HRT HS1 HKS
  go_loopw [7, 6] (fun iv dv wr => ∃ (i d : Nat) (okr : Bool) (v' : Value) (s' : List Bool) (q' : List ByteArray), i ≤ nd ∧ iv = .int .i64 i ∧ dv = .int .i64 d ∧ d ≤ f ∧ TSt 200 4 9 B xb sb w0 w (lkHd root (some ⟨bn, on, none⟩) nn pn sb okr v') v' s' q' wr ∧ Blk wr nb 193 [.bool false, .slice Ak nk pk, .slice Ai nd pi] ∧
      KRel (visit N f false) ks ds RK i d okr s' q' ∧ (okr = true → s'.length = nn ∧ unseen s' ≤ unseen s1 ∧ s'[root.toNat]? = some true) ∧ q.length ≤ q'.length ∧ q'.length + 4 * unseen s' ≤ q.length + 4 * unseen s1) (fun iv _ _ => nd - (intOf iv).toNat)
  case atStart => exact ⟨0, 0, true, _, s1, q, Nat.zero_le _, rfl, rfl, Nat.zero_le _, HM3.out, HN3.out, HKS.out, fun _ => ⟨HS1.out, Nat.le_refl _, HRT.out.2⟩, Nat.le_refl _, Nat.le_refl _⟩
  case round =>
    obtain ⟨i, d, okr, v', s', q', hi, rfl, rfl, hd, hT3, hN3, hK3, hX3, hq1, hq2⟩ := hrel
    clear HM3 HN3 HKS
    have HT3 := Lib.hid hT3
    have HN3 := Lib.hid hN3
    have HK3 := Lib.hid hK3
    have HX3 := Lib.hid hX3
    have HQ1 := Lib.hid hq1
    have HQ2 := Lib.hid hq2
    obtain ⟨k0, k1, k2, k3, k4⟩ := lk5 hT3.bx
    have b1 := hN3.cell (i := 1) (by simp)
    have b2 := hN3.cell (i := 2) (by simp)
    simp only [List.getElem_cons_zero, List.getElem_cons_succ] at b1 b2
    clear hT3 hN3 hK3 hX3 hq1 hq2
    have hfI : (f : Int) ≤ 300 := by have := HF.out; omega
    have hdI : (d : Int) ≤ (f : Int) := by omega
    by_cases hin : i < nd
    rotate_left
    · have hinI : ¬ (i : Int) < (nd : Int) := by omega
      rcases okr with _ | _
      · go_wp2_with fail
        go_ret
        exact ⟨((d + 1 : Nat) : Int), false, v', s', q', rfl, HT3.out, HQ1.out, by have := HQ2.out; have := HUN.out; omega, by omega, by omega, .inr ⟨rfl, by rw [← HRR.out, HK3.out.no]; rfl⟩⟩
      · have HD := Lib.hid (HK3.out.done (by have := HND.out; omega))
        go_wp2_with fail
        go_ret
        exact ⟨((d + 1 : Nat) : Int), true, v', s', q', rfl, HT3.out, HQ1.out, by have := HQ2.out; have := HUN.out; omega, by omega, by omega, .inl ⟨rfl, by rw [← HRR.out, HD.out]; rfl⟩⟩
    have hinI : (i : Int) < (nd : Int) := by omega
    rcases okr with _ | _
    · go_wp2_with fail
      go_ret
      exact ⟨((d + 1 : Nat) : Int), false, v', s', q', rfl, HT3.out, HQ1.out, by have := HQ2.out; have := HUN.out; omega, by omega, by omega, .inr ⟨rfl, by rw [← HRR.out, HK3.out.no]; rfl⟩⟩
    have HX5 := Lib.hid (HX3.out rfl)
    clear HX3
    obtain ⟨hx1, hx2, hx3⟩ := HX5.out
    obtain ⟨kid, hkid⟩ : ∃ kid, ds[i]? = some kid := ⟨_, List.getElem?_eq_getElem (by have := HND.out; omega)⟩
    have hkc := hok2.ext HT3.out.ex
    obtain ⟨bi, oi, rfl, hci⟩ := hkc (by intro e; have h0 := congrArg List.length e; rw [List.length_map, List.length_nil] at h0; have := HND.out; omega)
    have hc1 : wr.cell? ⟨bi, oi + i, none⟩ = some (.int .i64 kid) := hci i _ (by rw [List.getElem?_map, hkid]; rfl)
    have HC := Lib.hid (HIH.out false kid s' q' v' wr (by have := HU.out; have := HUN.out; omega) (by omega) hx1 (by have := HPOT.out; have := HQ2.out; have := HUN.out; omega) (.inr ⟨rfl, HRT.out.1, hx3⟩) HT3.out.here)
    have HKD := Lib.hid hkid
    have HX := Lib.hid (visit_gr N f false kid s' q')
    obtain ⟨Av3, cav3, hv3⟩ := HT3.out.form
    subst hv3
    have HQL := Lib.hid (show q'.length ≤ 4000 by have := HPOT.out; have := HQ2.out; have := HUN.out; omega)
    clear hx1 hx2 hx3 hkid hkc hci
    go_wp2_with fail
    refine HC.out.mono ?_
    rintro e w4 ⟨d2, ok2, v2, s2, q2, rfl, hT4, hq3, hq4, hd1, hd2, hP⟩
    obtain ⟨dn, rfl⟩ : ∃ dn : Nat, d2 = (dn : Int) := ⟨d2.toNat, by omega⟩
    rw [Int.toNat_natCast] at hP
    have HT4 := Lib.hid (hT4.since HT3.out.fr)
    have HN4 := Lib.hid (hT4.fr nb 193 _ HN3.out (by decide) (by decide) (by decide))
    have HP := Lib.hid hP
    have HQ3 := Lib.hid hq3
    have HQ4 := Lib.hid hq4
    have HX4 := Lib.hid (show ok2 = true → s2.length = nn ∧ unseen s2 ≤ unseen s1 ∧ s2[root.toNat]? = some true by
      intro h
      rcases hP with ⟨-, hv⟩ | ⟨h', -⟩
      · have hg := HX.out _ _ _ hv
        obtain ⟨hx1, hx2, hx3⟩ := HX5.out
        exact ⟨hg.len.trans hx1, Nat.le_trans hg.un hx2, hg.mono _ hx3⟩
      · rw [h] at h'; cases h')
    have HNEW := Lib.hid (show ok2 = true → q'.length < q2.length by
      intro h
      rcases hP with ⟨-, hv⟩ | ⟨h', -⟩
      · exact (visit_new N f kid s' q' _ _ _ hv).1
      · rw [h] at h'; cases h')
    have hd2' : dn ≤ f := by omega
    have HE4 := Lib.hid (hT4.ex)
    clear hT4 hP hq3 hq4 k0 k1 k2 k3 k4 b1 b2 hc1 hd1 hd2
    obtain ⟨k0, k1, k2, k3, k4⟩ := lk5 HT4.out.bx
    have kf := HT4.out.bx.frozen 3
    obtain ⟨Aw, caw, hv2⟩ := HT4.out.form
    subst hv2
    have b1 := HN4.out.cell (i := 1) (by simp)
    simp only [List.getElem_cons_zero, List.getElem_cons_succ] at b1
    have HFR := Lib.hid kf
    dsimp only
    clear kf
    have hil : i ≤ 1152921504606846976 := by have := hsm1.2; omega
    have hqI : (q2.length : Int) ≤ 4000 := by have := HPOT.out; have := HQ2.out; have := HUN.out; have := HQ4.out; omega
    go_wp2_with fail
    have HIN2 := Lib.hid hin
    clear hin hinI hi
    rcases Nat.eq_zero_or_pos i with hi0 | hi0
    · subst hi0
      refine rg_start (by kernel_rfl) (Ext.refl w4) (fun hE0 => ?_)
      (refine rg_take (v := ?_) 0 rfl (by kernel_rfl) (by kernel_rfl) (by kernel_rfl) (fun _ _ _ h => h) (by rfl) (by assumption) (fun W hW => ?_) ?_; rotate_left; (focus (go_simp; try with_reducible rfl)); (try simp only [List.setIfInBounds_toArray, List.set_cons_succ, List.set_cons_zero]))
      (refine rg_take (v := ?_) 1 rfl (by kernel_rfl) (by kernel_rfl) (by kernel_rfl) (fun _ _ _ h => h) (by rfl) (by assumption) (fun W hW => ?_) ?_; rotate_left; (focus (go_simp; try with_reducible rfl)); (try simp only [List.setIfInBounds_toArray, List.set_cons_succ, List.set_cons_zero]))
      (refine rg_take (v := ?_) 2 rfl (by kernel_rfl) (by kernel_rfl) (by kernel_rfl) (fun _ _ _ h => h) (by rfl) (by assumption) (fun W hW => ?_) ?_; rotate_left; (focus (go_simp; try with_reducible rfl)); (try simp only [List.setIfInBounds_toArray, List.set_cons_succ, List.set_cons_zero]))
      (refine rg_skip 3 rfl (by kernel_rfl) (by kernel_rfl) (by kernel_rfl) (fun _ _ _ h => h) (by rfl) (by assumption) ?_; (try simp only [List.setIfInBounds_toArray, List.set_cons_succ, List.set_cons_zero]))
      (refine rg_skip 4 rfl (by kernel_rfl) (by kernel_rfl) (by kernel_rfl) (fun _ _ _ h => h) (by rfl) (by assumption) ?_; (try simp only [List.setIfInBounds_toArray, List.set_cons_succ, List.set_cons_zero]))
      (refine rg_skip 5 rfl (by kernel_rfl) (by kernel_rfl) (by kernel_rfl) (fun _ _ _ h => h) (by rfl) (by assumption) ?_; (try simp only [List.setIfInBounds_toArray, List.set_cons_succ, List.set_cons_zero]))
      (refine rg_skip 6 rfl (by kernel_rfl) (by kernel_rfl) (by kernel_rfl) (fun _ _ _ h => h) (by rfl) (by assumption) ?_; (try simp only [List.setIfInBounds_toArray, List.set_cons_succ, List.set_cons_zero]))
      (refine rg_skip 7 rfl (by kernel_rfl) (by kernel_rfl) (by kernel_rfl) (fun _ _ _ h => h) (by rfl) (by assumption) ?_; (try simp only [List.setIfInBounds_toArray, List.set_cons_succ, List.set_cons_zero]))
      (refine rg_skip 8 rfl (by kernel_rfl) (by kernel_rfl) (by kernel_rfl) (fun _ _ _ h => h) (by rfl) (by assumption) ?_; (try simp only [List.setIfInBounds_toArray, List.set_cons_succ, List.set_cons_zero]))
      (refine rg_skip 9 rfl (by kernel_rfl) (by kernel_rfl) (by kernel_rfl) (fun _ _ _ h => h) (by rfl) (by assumption) ?_; (try simp only [List.setIfInBounds_toArray, List.set_cons_succ, List.set_cons_zero]))
      (refine rg_skip 10 rfl (by kernel_rfl) (by kernel_rfl) (by kernel_rfl) (fun _ _ _ h => h) (by rfl) (by assumption) ?_; (try simp only [List.setIfInBounds_toArray, List.set_cons_succ, List.set_cons_zero]))
      (refine rg_skip 11 rfl (by kernel_rfl) (by kernel_rfl) (by kernel_rfl) (fun _ _ _ h => h) (by rfl) (by assumption) ?_; (try simp only [List.setIfInBounds_toArray, List.set_cons_succ, List.set_cons_zero]))
      (refine rg_skip 12 rfl (by kernel_rfl) (by kernel_rfl) (by kernel_rfl) (fun _ _ _ h => h) (by rfl) (by assumption) ?_; (try simp only [List.setIfInBounds_toArray, List.set_cons_succ, List.set_cons_zero]))
      (refine rg_skip 13 rfl (by kernel_rfl) (by kernel_rfl) (by kernel_rfl) (fun _ _ _ h => h) (by rfl) (by assumption) ?_; (try simp only [List.setIfInBounds_toArray, List.set_cons_succ, List.set_cons_zero]))
      (refine rg_skip 14 rfl (by kernel_rfl) (by kernel_rfl) (by kernel_rfl) (fun _ _ _ h => h) (by rfl) (by assumption) ?_; (try simp only [List.setIfInBounds_toArray, List.set_cons_succ, List.set_cons_zero]))
      (refine rg_skip 15 rfl (by kernel_rfl) (by kernel_rfl) (by kernel_rfl) (fun _ _ _ h => h) (by rfl) (by assumption) ?_; (try simp only [List.setIfInBounds_toArray, List.set_cons_succ, List.set_cons_zero]))
      (refine rg_skip 16 rfl (by kernel_rfl) (by kernel_rfl) (by kernel_rfl) (fun _ _ _ h => h) (by rfl) (by assumption) ?_; (try simp only [List.setIfInBounds_toArray, List.set_cons_succ, List.set_cons_zero]))
      (refine rg_skip 17 rfl (by kernel_rfl) (by kernel_rfl) (by kernel_rfl) (fun _ _ _ h => h) (by rfl) (by assumption) ?_; (try simp only [List.setIfInBounds_toArray, List.set_cons_succ, List.set_cons_zero]))
      (refine rg_skip 18 rfl (by kernel_rfl) (by kernel_rfl) (by kernel_rfl) (fun _ _ _ h => h) (by rfl) (by assumption) ?_; (try simp only [List.setIfInBounds_toArray, List.set_cons_succ, List.set_cons_zero]))
      (refine rg_skip 19 rfl (by kernel_rfl) (by kernel_rfl) (by kernel_rfl) (fun _ _ _ h => h) (by rfl) (by assumption) ?_; (try simp only [List.setIfInBounds_toArray, List.set_cons_succ, List.set_cons_zero]))
      (refine rg_skip 20 rfl (by kernel_rfl) (by kernel_rfl) (by kernel_rfl) (fun _ _ _ h => h) (by rfl) (by assumption) ?_; (try simp only [List.setIfInBounds_toArray, List.set_cons_succ, List.set_cons_zero]))
      (refine rg_skip 21 rfl (by kernel_rfl) (by kernel_rfl) (by kernel_rfl) (fun _ _ _ h => h) (by rfl) (by assumption) ?_; (try simp only [List.setIfInBounds_toArray, List.set_cons_succ, List.set_cons_zero]))
      (refine rg_skip 22 rfl (by kernel_rfl) (by kernel_rfl) (by kernel_rfl) (fun _ _ _ h => h) (by rfl) (by assumption) ?_; (try simp only [List.setIfInBounds_toArray, List.set_cons_succ, List.set_cons_zero]))
      (refine rg_skip 23 rfl (by kernel_rfl) (by kernel_rfl) (by kernel_rfl) (fun _ _ _ h => h) (by rfl) (by assumption) ?_; (try simp only [List.setIfInBounds_toArray, List.set_cons_succ, List.set_cons_zero]))
      (refine rg_skip 24 rfl (by kernel_rfl) (by kernel_rfl) (by kernel_rfl) (fun _ _ _ h => h) (by rfl) (by assumption) ?_; (try simp only [List.setIfInBounds_toArray, List.set_cons_succ, List.set_cons_zero]))
      (refine rg_skip 25 rfl (by kernel_rfl) (by kernel_rfl) (by kernel_rfl) (fun _ _ _ h => h) (by rfl) (by assumption) ?_; (try simp only [List.setIfInBounds_toArray, List.set_cons_succ, List.set_cons_zero]))
      (refine rg_skip 26 rfl (by kernel_rfl) (by kernel_rfl) (by kernel_rfl) (fun _ _ _ h => h) (by rfl) (by assumption) ?_; (try simp only [List.setIfInBounds_toArray, List.set_cons_succ, List.set_cons_zero]))
      (refine rg_skip 27 rfl (by kernel_rfl) (by kernel_rfl) (by kernel_rfl) (fun _ _ _ h => h) (by rfl) (by assumption) ?_; (try simp only [List.setIfInBounds_toArray, List.set_cons_succ, List.set_cons_zero]))
      (refine rg_skip 28 rfl (by kernel_rfl) (by kernel_rfl) (by kernel_rfl) (fun _ _ _ h => h) (by rfl) (by assumption) ?_; (try simp only [List.setIfInBounds_toArray, List.set_cons_succ, List.set_cons_zero]))
      (refine rg_skip 29 rfl (by kernel_rfl) (by kernel_rfl) (by kernel_rfl) (fun _ _ _ h => h) (by rfl) (by assumption) ?_; (try simp only [List.setIfInBounds_toArray, List.set_cons_succ, List.set_cons_zero]))
      (refine rg_skip 30 rfl (by kernel_rfl) (by kernel_rfl) (by kernel_rfl) (fun _ _ _ h => h) (by rfl) (by assumption) ?_; (try simp only [List.setIfInBounds_toArray, List.set_cons_succ, List.set_cons_zero]))
      (refine rg_take (v := ?_) 31 rfl (by kernel_rfl) (by kernel_rfl) (by kernel_rfl) (fun _ _ _ h => h) (by rfl) (by assumption) (fun W hW => ?_) ?_; rotate_left; (focus (go_simp; try with_reducible rfl)); (try simp only [List.setIfInBounds_toArray, List.set_cons_succ, List.set_cons_zero]))
      refine rg_done (by kernel_rfl) ?_
      go_wp2_with fail
      go_roundw
      case rel => exact ⟨1, dn, ok2, _, s2, q2, HIN2.out, by go_num, rfl, hd2', HT4.out.ext hE0, HN4.out.ext hE0, HK3.out.good HKD.out HP.out (kidOK_zero _ _ _ _ _), HX4.out, by have := HQ1.out; have := HQ3.out; omega, by have := HQ4.out; have := HQ2.out; omega⟩
      case measure => simp [intOf]; have := HIN2.out; omega
    · obtain ⟨j, hj⟩ : ∃ j, i = j + 1 := ⟨i - 1, by omega⟩
      have HJ := Lib.hid hj
      have hgt : (0 : Int) < (i : Int) := by omega
      have hjn : j < nk := by have := HA.out; have := HIN2.out; omega
      have hjI : (j : Int) < (nk : Int) := by omega
      have hw1 : IntKind.i64.wrap ((i : Int) - 1) = (j : Int) := by
        have he : (i : Int) - 1 = (j : Int) := by omega
        rw [he]; exact IntWalk.i64_in _ (by omega)
      obtain ⟨y, hy⟩ : ∃ y, ks[j]? = some y := ⟨_, List.getElem?_eq_getElem (by have := HNK.out; omega)⟩
      have hkc := hok1.ext HE4.out
      obtain ⟨bk, ok, rfl, hcj⟩ := hkc (by intro e; have h0 := congrArg List.length e; rw [List.length_map, List.length_nil] at h0; have := HNK.out; omega)
      have hcy : w4.cell? ⟨bk, ok + j, none⟩ = some (.string y) := hcj j _ (by rw [List.getElem?_map, hy]; rfl)
      have HY := Lib.hid hy
      have HNE := Lib.hid (show nb ≠ xb from fun e => by have h1 := HN4.out; rw [e] at h1; exact absurd (blk_ty h1 HT4.out.bx) (by decide))
      have HB := Lib.hid (((HT4.out.setV 3 (.bool false) (hd' := lkHd root (some ⟨bn, on, none⟩) nn pn sb false (.slice Aw q2.length caw)) rfl)).ext (Ext.refl _).drew)
      have HNB := Lib.hid ((HN4.out.far (p := ⟨xb, 3, none⟩) HNE.out (.bool false)).ext (Ext.refl _).drew)
      clear hj hy hkc hcj
      by_cases hdd : dn = d
      rotate_left
      · have hb : ((dn : Int) != (d : Int)) = true := by rw [bne_iff_ne]; omega
        have HK4 := Lib.hid (show KRel (visit N f false) ks ds RK (i + 1) dn false s2 q2 from HK3.out.bad HKD.out HP.out (by rw [HJ.out]; exact kidOK_depth hdd))
        refine rg_start (by kernel_rfl) (Ext.refl w4) (fun hE0 => ?_)
        (refine rg_take (v := ?_) 0 rfl (by kernel_rfl) (by kernel_rfl) (by kernel_rfl) (fun _ _ _ h => h) (by rfl) (by assumption) (fun W hW => ?_) ?_; rotate_left; (focus (go_simp; try with_reducible rfl)); (try simp only [List.setIfInBounds_toArray, List.set_cons_succ, List.set_cons_zero]))
        (refine rg_take (v := ?_) 1 rfl (by kernel_rfl) (by kernel_rfl) (by kernel_rfl) (fun _ _ _ h => h) (by rfl) (by assumption) (fun W hW => ?_) ?_; rotate_left; (focus (go_simp; try with_reducible rfl)); (try simp only [List.setIfInBounds_toArray, List.set_cons_succ, List.set_cons_zero]))
        (refine rg_take (v := ?_) 2 rfl (by kernel_rfl) (by kernel_rfl) (by kernel_rfl) (fun _ _ _ h => h) (by rfl) (by assumption) (fun W hW => ?_) ?_; rotate_left; (focus (go_simp; try with_reducible rfl)); (try simp only [List.setIfInBounds_toArray, List.set_cons_succ, List.set_cons_zero]))
        (refine rg_take (v := ?_) 3 rfl (by kernel_rfl) (by kernel_rfl) (by kernel_rfl) (fun _ _ _ h => h) (by rfl) (by assumption) (fun W hW => ?_) ?_; rotate_left; (focus (go_simp; try with_reducible rfl)); (try simp only [List.setIfInBounds_toArray, List.set_cons_succ, List.set_cons_zero]))
        (refine rg_take (v := ?_) 4 rfl (by kernel_rfl) (by kernel_rfl) (by kernel_rfl) (fun _ _ _ h => h) (by rfl) (by assumption) (fun W hW => ?_) ?_; rotate_left; (focus (go_simp; try with_reducible rfl)); (try simp only [List.setIfInBounds_toArray, List.set_cons_succ, List.set_cons_zero]))
        (refine rg_take (v := ?_) 5 rfl (by kernel_rfl) (by kernel_rfl) (by kernel_rfl) (fun _ _ _ h => h) (by rfl) (by assumption) (fun W hW => ?_) ?_; rotate_left; (focus (go_simp; try with_reducible rfl)); (try simp only [List.setIfInBounds_toArray, List.set_cons_succ, List.set_cons_zero]))
        (refine rg_take (v := ?_) 6 rfl (by kernel_rfl) (by kernel_rfl) (by kernel_rfl) (fun _ _ _ h => h) (by rfl) (by assumption) (fun W hW => ?_) ?_; rotate_left; (focus (go_simp; try with_reducible rfl)); (try simp only [List.setIfInBounds_toArray, List.set_cons_succ, List.set_cons_zero]))
        (refine rg_skip 7 rfl (by kernel_rfl) (by kernel_rfl) (by kernel_rfl) (fun _ _ _ h => h) (by rfl) (by assumption) ?_; (try simp only [List.setIfInBounds_toArray, List.set_cons_succ, List.set_cons_zero]))
        (refine rg_skip 8 rfl (by kernel_rfl) (by kernel_rfl) (by kernel_rfl) (fun _ _ _ h => h) (by rfl) (by assumption) ?_; (try simp only [List.setIfInBounds_toArray, List.set_cons_succ, List.set_cons_zero]))
        (refine rg_skip 9 rfl (by kernel_rfl) (by kernel_rfl) (by kernel_rfl) (fun _ _ _ h => h) (by rfl) (by assumption) ?_; (try simp only [List.setIfInBounds_toArray, List.set_cons_succ, List.set_cons_zero]))
        (refine rg_skip 10 rfl (by kernel_rfl) (by kernel_rfl) (by kernel_rfl) (fun _ _ _ h => h) (by rfl) (by assumption) ?_; (try simp only [List.setIfInBounds_toArray, List.set_cons_succ, List.set_cons_zero]))
        (refine rg_skip 11 rfl (by kernel_rfl) (by kernel_rfl) (by kernel_rfl) (fun _ _ _ h => h) (by rfl) (by assumption) ?_; (try simp only [List.setIfInBounds_toArray, List.set_cons_succ, List.set_cons_zero]))
        (refine rg_skip 12 rfl (by kernel_rfl) (by kernel_rfl) (by kernel_rfl) (fun _ _ _ h => h) (by rfl) (by assumption) ?_; (try simp only [List.setIfInBounds_toArray, List.set_cons_succ, List.set_cons_zero]))
        (refine rg_skip 13 rfl (by kernel_rfl) (by kernel_rfl) (by kernel_rfl) (fun _ _ _ h => h) (by rfl) (by assumption) ?_; (try simp only [List.setIfInBounds_toArray, List.set_cons_succ, List.set_cons_zero]))
        (refine rg_take (v := ?_) 14 rfl (by kernel_rfl) (by kernel_rfl) (by kernel_rfl) (fun _ _ _ h => h) (by rfl) (by assumption) (fun W hW => ?_) ?_; rotate_left; (focus (go_simp; try with_reducible rfl)); (try simp only [List.setIfInBounds_toArray, List.set_cons_succ, List.set_cons_zero]))
        (refine rg_take (v := ?_) 15 rfl (by kernel_rfl) (by kernel_rfl) (by kernel_rfl) (fun _ _ _ h => h) (by rfl) (by assumption) (fun W hW => ?_) ?_; rotate_left; (focus (go_simp; try with_reducible rfl)); (try simp only [List.setIfInBounds_toArray, List.set_cons_succ, List.set_cons_zero]))
        (refine rg_skip 16 rfl (by kernel_rfl) (by kernel_rfl) (by kernel_rfl) (fun _ _ _ h => h) (by rfl) (by assumption) ?_; (try simp only [List.setIfInBounds_toArray, List.set_cons_succ, List.set_cons_zero]))
        (refine rg_skip 17 rfl (by kernel_rfl) (by kernel_rfl) (by kernel_rfl) (fun _ _ _ h => h) (by rfl) (by assumption) ?_; (try simp only [List.setIfInBounds_toArray, List.set_cons_succ, List.set_cons_zero]))
        (refine rg_skip 18 rfl (by kernel_rfl) (by kernel_rfl) (by kernel_rfl) (fun _ _ _ h => h) (by rfl) (by assumption) ?_; (try simp only [List.setIfInBounds_toArray, List.set_cons_succ, List.set_cons_zero]))
        (refine rg_skip 19 rfl (by kernel_rfl) (by kernel_rfl) (by kernel_rfl) (fun _ _ _ h => h) (by rfl) (by assumption) ?_; (try simp only [List.setIfInBounds_toArray, List.set_cons_succ, List.set_cons_zero]))
        (refine rg_skip 20 rfl (by kernel_rfl) (by kernel_rfl) (by kernel_rfl) (fun _ _ _ h => h) (by rfl) (by assumption) ?_; (try simp only [List.setIfInBounds_toArray, List.set_cons_succ, List.set_cons_zero]))
        (refine rg_skip 21 rfl (by kernel_rfl) (by kernel_rfl) (by kernel_rfl) (fun _ _ _ h => h) (by rfl) (by assumption) ?_; (try simp only [List.setIfInBounds_toArray, List.set_cons_succ, List.set_cons_zero]))
        (refine rg_skip 22 rfl (by kernel_rfl) (by kernel_rfl) (by kernel_rfl) (fun _ _ _ h => h) (by rfl) (by assumption) ?_; (try simp only [List.setIfInBounds_toArray, List.set_cons_succ, List.set_cons_zero]))
        (refine rg_skip 23 rfl (by kernel_rfl) (by kernel_rfl) (by kernel_rfl) (fun _ _ _ h => h) (by rfl) (by assumption) ?_; (try simp only [List.setIfInBounds_toArray, List.set_cons_succ, List.set_cons_zero]))
        (refine rg_skip 24 rfl (by kernel_rfl) (by kernel_rfl) (by kernel_rfl) (fun _ _ _ h => h) (by rfl) (by assumption) ?_; (try simp only [List.setIfInBounds_toArray, List.set_cons_succ, List.set_cons_zero]))
        (refine rg_skip 25 rfl (by kernel_rfl) (by kernel_rfl) (by kernel_rfl) (fun _ _ _ h => h) (by rfl) (by assumption) ?_; (try simp only [List.setIfInBounds_toArray, List.set_cons_succ, List.set_cons_zero]))
        (refine rg_skip 26 rfl (by kernel_rfl) (by kernel_rfl) (by kernel_rfl) (fun _ _ _ h => h) (by rfl) (by assumption) ?_; (try simp only [List.setIfInBounds_toArray, List.set_cons_succ, List.set_cons_zero]))
        (refine rg_skip 27 rfl (by kernel_rfl) (by kernel_rfl) (by kernel_rfl) (fun _ _ _ h => h) (by rfl) (by assumption) ?_; (try simp only [List.setIfInBounds_toArray, List.set_cons_succ, List.set_cons_zero]))
        (refine rg_skip 28 rfl (by kernel_rfl) (by kernel_rfl) (by kernel_rfl) (fun _ _ _ h => h) (by rfl) (by assumption) ?_; (try simp only [List.setIfInBounds_toArray, List.set_cons_succ, List.set_cons_zero]))
        (refine rg_skip 29 rfl (by kernel_rfl) (by kernel_rfl) (by kernel_rfl) (fun _ _ _ h => h) (by rfl) (by assumption) ?_; (try simp only [List.setIfInBounds_toArray, List.set_cons_succ, List.set_cons_zero]))
        (refine rg_take (v := ?_) 30 rfl (by kernel_rfl) (by kernel_rfl) (by kernel_rfl) (fun _ _ _ h => h) (by rfl) (by assumption) (fun W hW => ?_) ?_; rotate_left; (focus (go_simp; try with_reducible rfl)); (try simp only [List.setIfInBounds_toArray, List.set_cons_succ, List.set_cons_zero]))
        (refine rg_take (v := ?_) 31 rfl (by kernel_rfl) (by kernel_rfl) (by kernel_rfl) (fun _ _ _ h => h) (by rfl) (by assumption) (fun W hW => ?_) ?_; rotate_left; (focus (go_simp; try with_reducible rfl)); (try simp only [List.setIfInBounds_toArray, List.set_cons_succ, List.set_cons_zero]))
        refine rg_done (by kernel_rfl) ?_
        have kf := HFR.out
        go_wp2_with fail
        go_roundw
        case rel => exact ⟨i + 1, dn, false, _, s2, q2, HIN2.out, by go_num, rfl, hd2', HB.out, HNB.out, HK4.out, (fun h => by cases h), by have := HQ1.out; have := HQ3.out; omega, by have := HQ4.out; have := HQ2.out; omega⟩
        case measure => simp [intOf]; have := HIN2.out; omega
      subst hdd
      have hb : ((dn : Int) != (dn : Int)) = false := by simp
      by_cases hfr : q'.length = q2.length
      · have hc : ((q'.length : Int) == (q2.length : Int)) = true := by rw [beq_iff_eq]; omega
        have HK4 := Lib.hid (show KRel (visit N f false) ks ds RK (i + 1) dn false s2 q2 from HK3.out.bad HKD.out HP.out (by rw [HJ.out]; exact kidOK_end (by omega)))
        clear hfr
        refine rg_start (by kernel_rfl) (Ext.refl w4) (fun hE0 => ?_)
        (refine rg_take (v := ?_) 0 rfl (by kernel_rfl) (by kernel_rfl) (by kernel_rfl) (fun _ _ _ h => h) (by rfl) (by assumption) (fun W hW => ?_) ?_; rotate_left; (focus (go_simp; try with_reducible rfl)); (try simp only [List.setIfInBounds_toArray, List.set_cons_succ, List.set_cons_zero]))
        (refine rg_take (v := ?_) 1 rfl (by kernel_rfl) (by kernel_rfl) (by kernel_rfl) (fun _ _ _ h => h) (by rfl) (by assumption) (fun W hW => ?_) ?_; rotate_left; (focus (go_simp; try with_reducible rfl)); (try simp only [List.setIfInBounds_toArray, List.set_cons_succ, List.set_cons_zero]))
        (refine rg_take (v := ?_) 2 rfl (by kernel_rfl) (by kernel_rfl) (by kernel_rfl) (fun _ _ _ h => h) (by rfl) (by assumption) (fun W hW => ?_) ?_; rotate_left; (focus (go_simp; try with_reducible rfl)); (try simp only [List.setIfInBounds_toArray, List.set_cons_succ, List.set_cons_zero]))
        (refine rg_take (v := ?_) 3 rfl (by kernel_rfl) (by kernel_rfl) (by kernel_rfl) (fun _ _ _ h => h) (by rfl) (by assumption) (fun W hW => ?_) ?_; rotate_left; (focus (go_simp; try with_reducible rfl)); (try simp only [List.setIfInBounds_toArray, List.set_cons_succ, List.set_cons_zero]))
        (refine rg_take (v := ?_) 4 rfl (by kernel_rfl) (by kernel_rfl) (by kernel_rfl) (fun _ _ _ h => h) (by rfl) (by assumption) (fun W hW => ?_) ?_; rotate_left; (focus (go_simp; try with_reducible rfl)); (try simp only [List.setIfInBounds_toArray, List.set_cons_succ, List.set_cons_zero]))
        (refine rg_take (v := ?_) 5 rfl (by kernel_rfl) (by kernel_rfl) (by kernel_rfl) (fun _ _ _ h => h) (by rfl) (by assumption) (fun W hW => ?_) ?_; rotate_left; (focus (go_simp; try with_reducible rfl)); (try simp only [List.setIfInBounds_toArray, List.set_cons_succ, List.set_cons_zero]))
        (refine rg_take (v := ?_) 6 rfl (by kernel_rfl) (by kernel_rfl) (by kernel_rfl) (fun _ _ _ h => h) (by rfl) (by assumption) (fun W hW => ?_) ?_; rotate_left; (focus (go_simp; try with_reducible rfl)); (try simp only [List.setIfInBounds_toArray, List.set_cons_succ, List.set_cons_zero]))
        (refine rg_take (v := ?_) 7 rfl (by kernel_rfl) (by kernel_rfl) (by kernel_rfl) (fun _ _ _ h => h) (by rfl) (by assumption) (fun W hW => ?_) ?_; rotate_left; (focus (go_simp; try with_reducible rfl)); (try simp only [List.setIfInBounds_toArray, List.set_cons_succ, List.set_cons_zero]))
        (refine rg_take (v := ?_) 8 rfl (by kernel_rfl) (by kernel_rfl) (by kernel_rfl) (fun _ _ _ h => h) (by rfl) (by assumption) (fun W hW => ?_) ?_; rotate_left; (focus (go_simp; try with_reducible rfl)); (try simp only [List.setIfInBounds_toArray, List.set_cons_succ, List.set_cons_zero]))
        (refine rg_take (v := ?_) 9 rfl (by kernel_rfl) (by kernel_rfl) (by kernel_rfl) (fun _ _ _ h => h) (by rfl) (by assumption) (fun W hW => ?_) ?_; rotate_left; (focus (go_simp; try with_reducible rfl)); (try simp only [List.setIfInBounds_toArray, List.set_cons_succ, List.set_cons_zero]))
        (refine rg_take (v := ?_) 10 rfl (by kernel_rfl) (by kernel_rfl) (by kernel_rfl) (fun _ _ _ h => h) (by rfl) (by assumption) (fun W hW => ?_) ?_; rotate_left; (focus (go_simp; try with_reducible rfl)); (try simp only [List.setIfInBounds_toArray, List.set_cons_succ, List.set_cons_zero]))
        (refine rg_take (v := ?_) 11 rfl (by kernel_rfl) (by kernel_rfl) (by kernel_rfl) (fun _ _ _ h => h) (by rfl) (by assumption) (fun W hW => ?_) ?_; rotate_left; (focus (have z1 := hW.cell k4; have z2 := hW.cell b1; go_simp; try with_reducible rfl)); (try simp only [List.setIfInBounds_toArray, List.set_cons_succ, List.set_cons_zero]))
        (refine rg_take (v := ?_) 12 rfl (by kernel_rfl) (by kernel_rfl) (by kernel_rfl) (fun _ _ _ h => h) (by rfl) (by assumption) (fun W hW => ?_) ?_; rotate_left; (focus (go_simp; try with_reducible rfl)); (try simp only [List.setIfInBounds_toArray, List.set_cons_succ, List.set_cons_zero]))
        (refine rg_take (v := ?_) 13 rfl (by kernel_rfl) (by kernel_rfl) (by kernel_rfl) (fun _ _ _ h => h) (by rfl) (by assumption) (fun W hW => ?_) ?_; rotate_left; (focus (go_simp; try with_reducible rfl)); (try simp only [List.setIfInBounds_toArray, List.set_cons_succ, List.set_cons_zero]))
        (refine rg_take (v := ?_) 14 rfl (by kernel_rfl) (by kernel_rfl) (by kernel_rfl) (fun _ _ _ h => h) (by rfl) (by assumption) (fun W hW => ?_) ?_; rotate_left; (focus (go_simp; try with_reducible rfl)); (try simp only [List.setIfInBounds_toArray, List.set_cons_succ, List.set_cons_zero]))
        (refine rg_take (v := ?_) 15 rfl (by kernel_rfl) (by kernel_rfl) (by kernel_rfl) (fun _ _ _ h => h) (by rfl) (by assumption) (fun W hW => ?_) ?_; rotate_left; (focus (go_simp; try with_reducible rfl)); (try simp only [List.setIfInBounds_toArray, List.set_cons_succ, List.set_cons_zero]))
        (refine rg_skip 16 rfl (by kernel_rfl) (by kernel_rfl) (by kernel_rfl) (fun _ _ _ h => h) (by rfl) (by assumption) ?_; (try simp only [List.setIfInBounds_toArray, List.set_cons_succ, List.set_cons_zero]))
        (refine rg_skip 17 rfl (by kernel_rfl) (by kernel_rfl) (by kernel_rfl) (fun _ _ _ h => h) (by rfl) (by assumption) ?_; (try simp only [List.setIfInBounds_toArray, List.set_cons_succ, List.set_cons_zero]))
        (refine rg_skip 18 rfl (by kernel_rfl) (by kernel_rfl) (by kernel_rfl) (fun _ _ _ h => h) (by rfl) (by assumption) ?_; (try simp only [List.setIfInBounds_toArray, List.set_cons_succ, List.set_cons_zero]))
        (refine rg_skip 19 rfl (by kernel_rfl) (by kernel_rfl) (by kernel_rfl) (fun _ _ _ h => h) (by rfl) (by assumption) ?_; (try simp only [List.setIfInBounds_toArray, List.set_cons_succ, List.set_cons_zero]))
        (refine rg_skip 20 rfl (by kernel_rfl) (by kernel_rfl) (by kernel_rfl) (fun _ _ _ h => h) (by rfl) (by assumption) ?_; (try simp only [List.setIfInBounds_toArray, List.set_cons_succ, List.set_cons_zero]))
        (refine rg_skip 21 rfl (by kernel_rfl) (by kernel_rfl) (by kernel_rfl) (fun _ _ _ h => h) (by rfl) (by assumption) ?_; (try simp only [List.setIfInBounds_toArray, List.set_cons_succ, List.set_cons_zero]))
        (refine rg_skip 22 rfl (by kernel_rfl) (by kernel_rfl) (by kernel_rfl) (fun _ _ _ h => h) (by rfl) (by assumption) ?_; (try simp only [List.setIfInBounds_toArray, List.set_cons_succ, List.set_cons_zero]))
        (refine rg_skip 23 rfl (by kernel_rfl) (by kernel_rfl) (by kernel_rfl) (fun _ _ _ h => h) (by rfl) (by assumption) ?_; (try simp only [List.setIfInBounds_toArray, List.set_cons_succ, List.set_cons_zero]))
        (refine rg_skip 24 rfl (by kernel_rfl) (by kernel_rfl) (by kernel_rfl) (fun _ _ _ h => h) (by rfl) (by assumption) ?_; (try simp only [List.setIfInBounds_toArray, List.set_cons_succ, List.set_cons_zero]))
        (refine rg_skip 25 rfl (by kernel_rfl) (by kernel_rfl) (by kernel_rfl) (fun _ _ _ h => h) (by rfl) (by assumption) ?_; (try simp only [List.setIfInBounds_toArray, List.set_cons_succ, List.set_cons_zero]))
        (refine rg_skip 26 rfl (by kernel_rfl) (by kernel_rfl) (by kernel_rfl) (fun _ _ _ h => h) (by rfl) (by assumption) ?_; (try simp only [List.setIfInBounds_toArray, List.set_cons_succ, List.set_cons_zero]))
        (refine rg_skip 27 rfl (by kernel_rfl) (by kernel_rfl) (by kernel_rfl) (fun _ _ _ h => h) (by rfl) (by assumption) ?_; (try simp only [List.setIfInBounds_toArray, List.set_cons_succ, List.set_cons_zero]))
        (refine rg_skip 28 rfl (by kernel_rfl) (by kernel_rfl) (by kernel_rfl) (fun _ _ _ h => h) (by rfl) (by assumption) ?_; (try simp only [List.setIfInBounds_toArray, List.set_cons_succ, List.set_cons_zero]))
        (refine rg_skip 29 rfl (by kernel_rfl) (by kernel_rfl) (by kernel_rfl) (fun _ _ _ h => h) (by rfl) (by assumption) ?_; (try simp only [List.setIfInBounds_toArray, List.set_cons_succ, List.set_cons_zero]))
        (refine rg_take (v := ?_) 30 rfl (by kernel_rfl) (by kernel_rfl) (by kernel_rfl) (fun _ _ _ h => h) (by rfl) (by assumption) (fun W hW => ?_) ?_; rotate_left; (focus (go_simp; try with_reducible rfl)); (try simp only [List.setIfInBounds_toArray, List.set_cons_succ, List.set_cons_zero]))
        (refine rg_take (v := ?_) 31 rfl (by kernel_rfl) (by kernel_rfl) (by kernel_rfl) (fun _ _ _ h => h) (by rfl) (by assumption) (fun W hW => ?_) ?_; rotate_left; (focus (go_simp; try with_reducible rfl)); (try simp only [List.setIfInBounds_toArray, List.set_cons_succ, List.set_cons_zero]))
        refine rg_done (by kernel_rfl) ?_
        have kf := HFR.out
        go_wp2_with fail
        go_roundw
        case rel => exact ⟨i + 1, dn, false, _, s2, q2, HIN2.out, by go_num, rfl, hd2', HB.out, HNB.out, HK4.out, (fun h => by cases h), by have := HQ1.out; have := HQ3.out; omega, by have := HQ4.out; have := HQ2.out; omega⟩
        case measure => simp [intOf]; have := HIN2.out; omega
      have hc : ((q'.length : Int) == (q2.length : Int)) = false := by rw [beq_eq_false_iff_ne]; omega
      have hl : q'.length < q2.length := by have := HQ3.out; omega
      have hlI : (q'.length : Int) < (q2.length : Int) := by omega
      obtain ⟨x, hx⟩ : ∃ x, q2[q'.length]? = some x := ⟨_, List.getElem?_eq_getElem hl⟩
      obtain ⟨g, cg, hv, hcx⟩ := HT4.out.key hx
      injection hv with hv1 _ hv2
      subst hv1; subst hv2
      have HXX := Lib.hid hx
      clear hx hfr
      rcases hxy : (x.toList == y.toList) with _ | _
      · have hxn : (x.toList != y.toList) = true := by unfold bne; rw [hxy]; rfl
        have HK4 := Lib.hid (show KRel (visit N f false) ks ds RK (i + 1) dn false s2 q2 from HK3.out.bad HKD.out HP.out (by rw [HJ.out, kidOK_key HXX.out HY.out]; exact hxy))
        refine rg_start (by kernel_rfl) (Ext.refl w4) (fun hE0 => ?_)
        (refine rg_take (v := ?_) 0 rfl (by kernel_rfl) (by kernel_rfl) (by kernel_rfl) (fun _ _ _ h => h) (by rfl) (by assumption) (fun W hW => ?_) ?_; rotate_left; (focus (go_simp; try with_reducible rfl)); (try simp only [List.setIfInBounds_toArray, List.set_cons_succ, List.set_cons_zero]))
        (refine rg_take (v := ?_) 1 rfl (by kernel_rfl) (by kernel_rfl) (by kernel_rfl) (fun _ _ _ h => h) (by rfl) (by assumption) (fun W hW => ?_) ?_; rotate_left; (focus (go_simp; try with_reducible rfl)); (try simp only [List.setIfInBounds_toArray, List.set_cons_succ, List.set_cons_zero]))
        (refine rg_take (v := ?_) 2 rfl (by kernel_rfl) (by kernel_rfl) (by kernel_rfl) (fun _ _ _ h => h) (by rfl) (by assumption) (fun W hW => ?_) ?_; rotate_left; (focus (go_simp; try with_reducible rfl)); (try simp only [List.setIfInBounds_toArray, List.set_cons_succ, List.set_cons_zero]))
        (refine rg_take (v := ?_) 3 rfl (by kernel_rfl) (by kernel_rfl) (by kernel_rfl) (fun _ _ _ h => h) (by rfl) (by assumption) (fun W hW => ?_) ?_; rotate_left; (focus (go_simp; try with_reducible rfl)); (try simp only [List.setIfInBounds_toArray, List.set_cons_succ, List.set_cons_zero]))
        (refine rg_take (v := ?_) 4 rfl (by kernel_rfl) (by kernel_rfl) (by kernel_rfl) (fun _ _ _ h => h) (by rfl) (by assumption) (fun W hW => ?_) ?_; rotate_left; (focus (go_simp; try with_reducible rfl)); (try simp only [List.setIfInBounds_toArray, List.set_cons_succ, List.set_cons_zero]))
        (refine rg_take (v := ?_) 5 rfl (by kernel_rfl) (by kernel_rfl) (by kernel_rfl) (fun _ _ _ h => h) (by rfl) (by assumption) (fun W hW => ?_) ?_; rotate_left; (focus (go_simp; try with_reducible rfl)); (try simp only [List.setIfInBounds_toArray, List.set_cons_succ, List.set_cons_zero]))
        (refine rg_take (v := ?_) 6 rfl (by kernel_rfl) (by kernel_rfl) (by kernel_rfl) (fun _ _ _ h => h) (by rfl) (by assumption) (fun W hW => ?_) ?_; rotate_left; (focus (go_simp; try with_reducible rfl)); (try simp only [List.setIfInBounds_toArray, List.set_cons_succ, List.set_cons_zero]))
        (refine rg_take (v := ?_) 7 rfl (by kernel_rfl) (by kernel_rfl) (by kernel_rfl) (fun _ _ _ h => h) (by rfl) (by assumption) (fun W hW => ?_) ?_; rotate_left; (focus (go_simp; try with_reducible rfl)); (try simp only [List.setIfInBounds_toArray, List.set_cons_succ, List.set_cons_zero]))
        (refine rg_take (v := ?_) 8 rfl (by kernel_rfl) (by kernel_rfl) (by kernel_rfl) (fun _ _ _ h => h) (by rfl) (by assumption) (fun W hW => ?_) ?_; rotate_left; (focus (go_simp; try with_reducible rfl)); (try simp only [List.setIfInBounds_toArray, List.set_cons_succ, List.set_cons_zero]))
        (refine rg_take (v := ?_) 9 rfl (by kernel_rfl) (by kernel_rfl) (by kernel_rfl) (fun _ _ _ h => h) (by rfl) (by assumption) (fun W hW => ?_) ?_; rotate_left; (focus (go_simp; try with_reducible rfl)); (try simp only [List.setIfInBounds_toArray, List.set_cons_succ, List.set_cons_zero]))
        (refine rg_take (v := ?_) 10 rfl (by kernel_rfl) (by kernel_rfl) (by kernel_rfl) (fun _ _ _ h => h) (by rfl) (by assumption) (fun W hW => ?_) ?_; rotate_left; (focus (go_simp; try with_reducible rfl)); (try simp only [List.setIfInBounds_toArray, List.set_cons_succ, List.set_cons_zero]))
        (refine rg_take (v := ?_) 11 rfl (by kernel_rfl) (by kernel_rfl) (by kernel_rfl) (fun _ _ _ h => h) (by rfl) (by assumption) (fun W hW => ?_) ?_; rotate_left; (focus (have z1 := hW.cell k4; have z2 := hW.cell b1; have z3 := hW.cell hcx; have z4 := hW.cell hcy; go_simp; try with_reducible rfl)); (try simp only [List.setIfInBounds_toArray, List.set_cons_succ, List.set_cons_zero]))
        (refine rg_take (v := ?_) 12 rfl (by kernel_rfl) (by kernel_rfl) (by kernel_rfl) (fun _ _ _ h => h) (by rfl) (by assumption) (fun W hW => ?_) ?_; rotate_left; (focus (go_simp; try with_reducible rfl)); (try simp only [List.setIfInBounds_toArray, List.set_cons_succ, List.set_cons_zero]))
        (refine rg_take (v := ?_) 13 rfl (by kernel_rfl) (by kernel_rfl) (by kernel_rfl) (fun _ _ _ h => h) (by rfl) (by assumption) (fun W hW => ?_) ?_; rotate_left; (focus (go_simp; try with_reducible rfl)); (try simp only [List.setIfInBounds_toArray, List.set_cons_succ, List.set_cons_zero]))
        (refine rg_take (v := ?_) 14 rfl (by kernel_rfl) (by kernel_rfl) (by kernel_rfl) (fun _ _ _ h => h) (by rfl) (by assumption) (fun W hW => ?_) ?_; rotate_left; (focus (go_simp; try with_reducible rfl)); (try simp only [List.setIfInBounds_toArray, List.set_cons_succ, List.set_cons_zero]))
        (refine rg_take (v := ?_) 15 rfl (by kernel_rfl) (by kernel_rfl) (by kernel_rfl) (fun _ _ _ h => h) (by rfl) (by assumption) (fun W hW => ?_) ?_; rotate_left; (focus (go_simp; try with_reducible rfl)); (try simp only [List.setIfInBounds_toArray, List.set_cons_succ, List.set_cons_zero]))
        (refine rg_take (v := ?_) 16 rfl (by kernel_rfl) (by kernel_rfl) (by kernel_rfl) (fun _ _ _ h => h) (by rfl) (by assumption) (fun W hW => ?_) ?_; rotate_left; (focus (go_simp; try with_reducible rfl)); (try simp only [List.setIfInBounds_toArray, List.set_cons_succ, List.set_cons_zero]))
        (refine rg_take (v := ?_) 17 rfl (by kernel_rfl) (by kernel_rfl) (by kernel_rfl) (fun _ _ _ h => h) (by rfl) (by assumption) (fun W hW => ?_) ?_; rotate_left; (focus (go_simp; try with_reducible rfl)); (try simp only [List.setIfInBounds_toArray, List.set_cons_succ, List.set_cons_zero]))
        (refine rg_take (v := ?_) 18 rfl (by kernel_rfl) (by kernel_rfl) (by kernel_rfl) (fun _ _ _ h => h) (by rfl) (by assumption) (fun W hW => ?_) ?_; rotate_left; (focus (go_simp; try with_reducible rfl)); (try simp only [List.setIfInBounds_toArray, List.set_cons_succ, List.set_cons_zero]))
        (refine rg_take (v := ?_) 19 rfl (by kernel_rfl) (by kernel_rfl) (by kernel_rfl) (fun _ _ _ h => h) (by rfl) (by assumption) (fun W hW => ?_) ?_; rotate_left; (focus (have z1 := hW.cell k4; have z2 := hW.cell b1; have z3 := hW.cell hcx; have z4 := hW.cell hcy; go_simp; try with_reducible rfl)); (try simp only [List.setIfInBounds_toArray, List.set_cons_succ, List.set_cons_zero]))
        (refine rg_take (v := ?_) 20 rfl (by kernel_rfl) (by kernel_rfl) (by kernel_rfl) (fun _ _ _ h => h) (by rfl) (by assumption) (fun W hW => ?_) ?_; rotate_left; (focus (go_simp; try with_reducible rfl)); (try simp only [List.setIfInBounds_toArray, List.set_cons_succ, List.set_cons_zero]))
        (refine rg_take (v := ?_) 21 rfl (by kernel_rfl) (by kernel_rfl) (by kernel_rfl) (fun _ _ _ h => h) (by rfl) (by assumption) (fun W hW => ?_) ?_; rotate_left; (focus (go_simp; try with_reducible rfl)); (try simp only [List.setIfInBounds_toArray, List.set_cons_succ, List.set_cons_zero]))
        (refine rg_take (v := ?_) 22 rfl (by kernel_rfl) (by kernel_rfl) (by kernel_rfl) (fun _ _ _ h => h) (by rfl) (by assumption) (fun W hW => ?_) ?_; rotate_left; (focus (have z1 := hW.cell k4; have z2 := hW.cell b1; have z3 := hW.cell hcx; have z4 := hW.cell hcy; go_simp; try with_reducible rfl)); (try simp only [List.setIfInBounds_toArray, List.set_cons_succ, List.set_cons_zero]))
        (refine rg_take (v := ?_) 23 rfl (by kernel_rfl) (by kernel_rfl) (by kernel_rfl) (fun _ _ _ h => h) (by rfl) (by assumption) (fun W hW => ?_) ?_; rotate_left; (focus (go_simp; try with_reducible rfl)); (try simp only [List.setIfInBounds_toArray, List.set_cons_succ, List.set_cons_zero]))
        (refine rg_take (v := ?_) 24 rfl (by kernel_rfl) (by kernel_rfl) (by kernel_rfl) (fun _ _ _ h => h) (by rfl) (by assumption) (fun W hW => ?_) ?_; rotate_left; (focus (have z1 := hW.cell k4; have z2 := hW.cell b1; have z3 := hW.cell hcx; have z4 := hW.cell hcy; go_simp; try with_reducible rfl)); (try simp only [List.setIfInBounds_toArray, List.set_cons_succ, List.set_cons_zero]))
        (refine rg_take (v := ?_) 25 rfl (by kernel_rfl) (by kernel_rfl) (by kernel_rfl) (fun _ _ _ h => h) (by rfl) (by assumption) (fun W hW => ?_) ?_; rotate_left; (focus (go_simp; try with_reducible rfl)); (try simp only [List.setIfInBounds_toArray, List.set_cons_succ, List.set_cons_zero]))
        (refine rg_take (v := ?_) 26 rfl (by kernel_rfl) (by kernel_rfl) (by kernel_rfl) (fun _ _ _ h => h) (by rfl) (by assumption) (fun W hW => ?_) ?_; rotate_left; (focus (go_simp; try with_reducible rfl)); (try simp only [List.setIfInBounds_toArray, List.set_cons_succ, List.set_cons_zero]))
        (refine rg_take (v := ?_) 27 rfl (by kernel_rfl) (by kernel_rfl) (by kernel_rfl) (fun _ _ _ h => h) (by rfl) (by assumption) (fun W hW => ?_) ?_; rotate_left; (focus (go_simp; try with_reducible rfl)); (try simp only [List.setIfInBounds_toArray, List.set_cons_succ, List.set_cons_zero]))
        (refine rg_take (v := ?_) 28 rfl (by kernel_rfl) (by kernel_rfl) (by kernel_rfl) (fun _ _ _ h => h) (by rfl) (by assumption) (fun W hW => ?_) ?_; rotate_left; (focus (have z1 := hW.cell k4; have z2 := hW.cell b1; have z3 := hW.cell hcx; have z4 := hW.cell hcy; go_simp; try with_reducible rfl)); (try simp only [List.setIfInBounds_toArray, List.set_cons_succ, List.set_cons_zero]))
        (refine rg_take (v := ?_) 29 rfl (by kernel_rfl) (by kernel_rfl) (by kernel_rfl) (fun _ _ _ h => h) (by rfl) (by assumption) (fun W hW => ?_) ?_; rotate_left; (focus (go_simp; try with_reducible rfl)); (try simp only [List.setIfInBounds_toArray, List.set_cons_succ, List.set_cons_zero]))
        (refine rg_take (v := ?_) 30 rfl (by kernel_rfl) (by kernel_rfl) (by kernel_rfl) (fun _ _ _ h => h) (by rfl) (by assumption) (fun W hW => ?_) ?_; rotate_left; (focus (go_simp; try with_reducible rfl)); (try simp only [List.setIfInBounds_toArray, List.set_cons_succ, List.set_cons_zero]))
        (refine rg_take (v := ?_) 31 rfl (by kernel_rfl) (by kernel_rfl) (by kernel_rfl) (fun _ _ _ h => h) (by rfl) (by assumption) (fun W hW => ?_) ?_; rotate_left; (focus (go_simp; try with_reducible rfl)); (try simp only [List.setIfInBounds_toArray, List.set_cons_succ, List.set_cons_zero]))
        refine rg_done (by kernel_rfl) ?_
        have kf := HFR.out
        go_wp2_with fail
        go_roundw
        case rel => exact ⟨i + 1, dn, false, _, s2, q2, HIN2.out, by go_num, rfl, hd2', HB.out, HNB.out, HK4.out, (fun h => by cases h), by have := HQ1.out; have := HQ3.out; omega, by have := HQ4.out; have := HQ2.out; omega⟩
        case measure => simp [intOf]; have := HIN2.out; omega
      · have hxn : (x.toList != y.toList) = false := by unfold bne; rw [hxy]; rfl
        have HK4 := Lib.hid (show KRel (visit N f false) ks ds RK (i + 1) dn ok2 s2 q2 from HK3.out.good HKD.out HP.out (by rw [HJ.out, kidOK_key HXX.out HY.out]; exact hxy))
        refine rg_start (by kernel_rfl) (Ext.refl w4) (fun hE0 => ?_)
        (refine rg_take (v := ?_) 0 rfl (by kernel_rfl) (by kernel_rfl) (by kernel_rfl) (fun _ _ _ h => h) (by rfl) (by assumption) (fun W hW => ?_) ?_; rotate_left; (focus (go_simp; try with_reducible rfl)); (try simp only [List.setIfInBounds_toArray, List.set_cons_succ, List.set_cons_zero]))
        (refine rg_take (v := ?_) 1 rfl (by kernel_rfl) (by kernel_rfl) (by kernel_rfl) (fun _ _ _ h => h) (by rfl) (by assumption) (fun W hW => ?_) ?_; rotate_left; (focus (go_simp; try with_reducible rfl)); (try simp only [List.setIfInBounds_toArray, List.set_cons_succ, List.set_cons_zero]))
        (refine rg_take (v := ?_) 2 rfl (by kernel_rfl) (by kernel_rfl) (by kernel_rfl) (fun _ _ _ h => h) (by rfl) (by assumption) (fun W hW => ?_) ?_; rotate_left; (focus (go_simp; try with_reducible rfl)); (try simp only [List.setIfInBounds_toArray, List.set_cons_succ, List.set_cons_zero]))
        (refine rg_take (v := ?_) 3 rfl (by kernel_rfl) (by kernel_rfl) (by kernel_rfl) (fun _ _ _ h => h) (by rfl) (by assumption) (fun W hW => ?_) ?_; rotate_left; (focus (go_simp; try with_reducible rfl)); (try simp only [List.setIfInBounds_toArray, List.set_cons_succ, List.set_cons_zero]))
        (refine rg_take (v := ?_) 4 rfl (by kernel_rfl) (by kernel_rfl) (by kernel_rfl) (fun _ _ _ h => h) (by rfl) (by assumption) (fun W hW => ?_) ?_; rotate_left; (focus (go_simp; try with_reducible rfl)); (try simp only [List.setIfInBounds_toArray, List.set_cons_succ, List.set_cons_zero]))
        (refine rg_take (v := ?_) 5 rfl (by kernel_rfl) (by kernel_rfl) (by kernel_rfl) (fun _ _ _ h => h) (by rfl) (by assumption) (fun W hW => ?_) ?_; rotate_left; (focus (go_simp; try with_reducible rfl)); (try simp only [List.setIfInBounds_toArray, List.set_cons_succ, List.set_cons_zero]))
        (refine rg_take (v := ?_) 6 rfl (by kernel_rfl) (by kernel_rfl) (by kernel_rfl) (fun _ _ _ h => h) (by rfl) (by assumption) (fun W hW => ?_) ?_; rotate_left; (focus (go_simp; try with_reducible rfl)); (try simp only [List.setIfInBounds_toArray, List.set_cons_succ, List.set_cons_zero]))
        (refine rg_take (v := ?_) 7 rfl (by kernel_rfl) (by kernel_rfl) (by kernel_rfl) (fun _ _ _ h => h) (by rfl) (by assumption) (fun W hW => ?_) ?_; rotate_left; (focus (go_simp; try with_reducible rfl)); (try simp only [List.setIfInBounds_toArray, List.set_cons_succ, List.set_cons_zero]))
        (refine rg_take (v := ?_) 8 rfl (by kernel_rfl) (by kernel_rfl) (by kernel_rfl) (fun _ _ _ h => h) (by rfl) (by assumption) (fun W hW => ?_) ?_; rotate_left; (focus (go_simp; try with_reducible rfl)); (try simp only [List.setIfInBounds_toArray, List.set_cons_succ, List.set_cons_zero]))
        (refine rg_take (v := ?_) 9 rfl (by kernel_rfl) (by kernel_rfl) (by kernel_rfl) (fun _ _ _ h => h) (by rfl) (by assumption) (fun W hW => ?_) ?_; rotate_left; (focus (go_simp; try with_reducible rfl)); (try simp only [List.setIfInBounds_toArray, List.set_cons_succ, List.set_cons_zero]))
        (refine rg_take (v := ?_) 10 rfl (by kernel_rfl) (by kernel_rfl) (by kernel_rfl) (fun _ _ _ h => h) (by rfl) (by assumption) (fun W hW => ?_) ?_; rotate_left; (focus (go_simp; try with_reducible rfl)); (try simp only [List.setIfInBounds_toArray, List.set_cons_succ, List.set_cons_zero]))
        (refine rg_take (v := ?_) 11 rfl (by kernel_rfl) (by kernel_rfl) (by kernel_rfl) (fun _ _ _ h => h) (by rfl) (by assumption) (fun W hW => ?_) ?_; rotate_left; (focus (have z1 := hW.cell k4; have z2 := hW.cell b1; have z3 := hW.cell hcx; have z4 := hW.cell hcy; go_simp; try with_reducible rfl)); (try simp only [List.setIfInBounds_toArray, List.set_cons_succ, List.set_cons_zero]))
        (refine rg_take (v := ?_) 12 rfl (by kernel_rfl) (by kernel_rfl) (by kernel_rfl) (fun _ _ _ h => h) (by rfl) (by assumption) (fun W hW => ?_) ?_; rotate_left; (focus (go_simp; try with_reducible rfl)); (try simp only [List.setIfInBounds_toArray, List.set_cons_succ, List.set_cons_zero]))
        (refine rg_take (v := ?_) 13 rfl (by kernel_rfl) (by kernel_rfl) (by kernel_rfl) (fun _ _ _ h => h) (by rfl) (by assumption) (fun W hW => ?_) ?_; rotate_left; (focus (go_simp; try with_reducible rfl)); (try simp only [List.setIfInBounds_toArray, List.set_cons_succ, List.set_cons_zero]))
        (refine rg_take (v := ?_) 14 rfl (by kernel_rfl) (by kernel_rfl) (by kernel_rfl) (fun _ _ _ h => h) (by rfl) (by assumption) (fun W hW => ?_) ?_; rotate_left; (focus (go_simp; try with_reducible rfl)); (try simp only [List.setIfInBounds_toArray, List.set_cons_succ, List.set_cons_zero]))
        (refine rg_take (v := ?_) 15 rfl (by kernel_rfl) (by kernel_rfl) (by kernel_rfl) (fun _ _ _ h => h) (by rfl) (by assumption) (fun W hW => ?_) ?_; rotate_left; (focus (go_simp; try with_reducible rfl)); (try simp only [List.setIfInBounds_toArray, List.set_cons_succ, List.set_cons_zero]))
        (refine rg_take (v := ?_) 16 rfl (by kernel_rfl) (by kernel_rfl) (by kernel_rfl) (fun _ _ _ h => h) (by rfl) (by assumption) (fun W hW => ?_) ?_; rotate_left; (focus (go_simp; try with_reducible rfl)); (try simp only [List.setIfInBounds_toArray, List.set_cons_succ, List.set_cons_zero]))
        (refine rg_take (v := ?_) 17 rfl (by kernel_rfl) (by kernel_rfl) (by kernel_rfl) (fun _ _ _ h => h) (by rfl) (by assumption) (fun W hW => ?_) ?_; rotate_left; (focus (go_simp; try with_reducible rfl)); (try simp only [List.setIfInBounds_toArray, List.set_cons_succ, List.set_cons_zero]))
        (refine rg_take (v := ?_) 18 rfl (by kernel_rfl) (by kernel_rfl) (by kernel_rfl) (fun _ _ _ h => h) (by rfl) (by assumption) (fun W hW => ?_) ?_; rotate_left; (focus (go_simp; try with_reducible rfl)); (try simp only [List.setIfInBounds_toArray, List.set_cons_succ, List.set_cons_zero]))
        (refine rg_take (v := ?_) 19 rfl (by kernel_rfl) (by kernel_rfl) (by kernel_rfl) (fun _ _ _ h => h) (by rfl) (by assumption) (fun W hW => ?_) ?_; rotate_left; (focus (have z1 := hW.cell k4; have z2 := hW.cell b1; have z3 := hW.cell hcx; have z4 := hW.cell hcy; go_simp; try with_reducible rfl)); (try simp only [List.setIfInBounds_toArray, List.set_cons_succ, List.set_cons_zero]))
        (refine rg_take (v := ?_) 20 rfl (by kernel_rfl) (by kernel_rfl) (by kernel_rfl) (fun _ _ _ h => h) (by rfl) (by assumption) (fun W hW => ?_) ?_; rotate_left; (focus (go_simp; try with_reducible rfl)); (try simp only [List.setIfInBounds_toArray, List.set_cons_succ, List.set_cons_zero]))
        (refine rg_take (v := ?_) 21 rfl (by kernel_rfl) (by kernel_rfl) (by kernel_rfl) (fun _ _ _ h => h) (by rfl) (by assumption) (fun W hW => ?_) ?_; rotate_left; (focus (go_simp; try with_reducible rfl)); (try simp only [List.setIfInBounds_toArray, List.set_cons_succ, List.set_cons_zero]))
        (refine rg_take (v := ?_) 22 rfl (by kernel_rfl) (by kernel_rfl) (by kernel_rfl) (fun _ _ _ h => h) (by rfl) (by assumption) (fun W hW => ?_) ?_; rotate_left; (focus (have z1 := hW.cell k4; have z2 := hW.cell b1; have z3 := hW.cell hcx; have z4 := hW.cell hcy; go_simp; try with_reducible rfl)); (try simp only [List.setIfInBounds_toArray, List.set_cons_succ, List.set_cons_zero]))
        (refine rg_take (v := ?_) 23 rfl (by kernel_rfl) (by kernel_rfl) (by kernel_rfl) (fun _ _ _ h => h) (by rfl) (by assumption) (fun W hW => ?_) ?_; rotate_left; (focus (go_simp; try with_reducible rfl)); (try simp only [List.setIfInBounds_toArray, List.set_cons_succ, List.set_cons_zero]))
        (refine rg_take (v := ?_) 24 rfl (by kernel_rfl) (by kernel_rfl) (by kernel_rfl) (fun _ _ _ h => h) (by rfl) (by assumption) (fun W hW => ?_) ?_; rotate_left; (focus (have z1 := hW.cell k4; have z2 := hW.cell b1; have z3 := hW.cell hcx; have z4 := hW.cell hcy; go_simp; try with_reducible rfl)); (try simp only [List.setIfInBounds_toArray, List.set_cons_succ, List.set_cons_zero]))
        (refine rg_take (v := ?_) 25 rfl (by kernel_rfl) (by kernel_rfl) (by kernel_rfl) (fun _ _ _ h => h) (by rfl) (by assumption) (fun W hW => ?_) ?_; rotate_left; (focus (go_simp; try with_reducible rfl)); (try simp only [List.setIfInBounds_toArray, List.set_cons_succ, List.set_cons_zero]))
        (refine rg_take (v := ?_) 26 rfl (by kernel_rfl) (by kernel_rfl) (by kernel_rfl) (fun _ _ _ h => h) (by rfl) (by assumption) (fun W hW => ?_) ?_; rotate_left; (focus (go_simp; try with_reducible rfl)); (try simp only [List.setIfInBounds_toArray, List.set_cons_succ, List.set_cons_zero]))
        (refine rg_take (v := ?_) 27 rfl (by kernel_rfl) (by kernel_rfl) (by kernel_rfl) (fun _ _ _ h => h) (by rfl) (by assumption) (fun W hW => ?_) ?_; rotate_left; (focus (go_simp; try with_reducible rfl)); (try simp only [List.setIfInBounds_toArray, List.set_cons_succ, List.set_cons_zero]))
        (refine rg_take (v := ?_) 28 rfl (by kernel_rfl) (by kernel_rfl) (by kernel_rfl) (fun _ _ _ h => h) (by rfl) (by assumption) (fun W hW => ?_) ?_; rotate_left; (focus (have z1 := hW.cell k4; have z2 := hW.cell b1; have z3 := hW.cell hcx; have z4 := hW.cell hcy; go_simp; try with_reducible rfl)); (try simp only [List.setIfInBounds_toArray, List.set_cons_succ, List.set_cons_zero]))
        (refine rg_take (v := ?_) 29 rfl (by kernel_rfl) (by kernel_rfl) (by kernel_rfl) (fun _ _ _ h => h) (by rfl) (by assumption) (fun W hW => ?_) ?_; rotate_left; (focus (go_simp; try with_reducible rfl)); (try simp only [List.setIfInBounds_toArray, List.set_cons_succ, List.set_cons_zero]))
        (refine rg_take (v := ?_) 30 rfl (by kernel_rfl) (by kernel_rfl) (by kernel_rfl) (fun _ _ _ h => h) (by rfl) (by assumption) (fun W hW => ?_) ?_; rotate_left; (focus (go_simp; try with_reducible rfl)); (try simp only [List.setIfInBounds_toArray, List.set_cons_succ, List.set_cons_zero]))
        (refine rg_take (v := ?_) 31 rfl (by kernel_rfl) (by kernel_rfl) (by kernel_rfl) (fun _ _ _ h => h) (by rfl) (by assumption) (fun W hW => ?_) ?_; rotate_left; (focus (go_simp; try with_reducible rfl)); (try simp only [List.setIfInBounds_toArray, List.set_cons_succ, List.set_cons_zero]))
        refine rg_done (by kernel_rfl) ?_
        go_wp2_with fail
        go_roundw
        case rel => exact ⟨i + 1, dn, ok2, _, s2, q2, HIN2.out, by go_num, rfl, hd2', HT4.out.ext hE0, HN4.out.ext hE0, HK4.out, HX4.out, by have := HQ1.out; have := HQ3.out; omega, by have := HQ4.out; have := HQ2.out; omega⟩
        case measure => simp [intOf]; have := HIN2.out; omega
end Go.Proofs.Ytnbfjkebakaigaa
