/- TreeDepth: both sides. -/
import Derived.Test.YthfkfdfcgldbeaaTreeOK
namespace Go.Proofs.Ythfkfdfcgldbeaa
open Go.RowKit Go.Deep
set_option linter.unusedVariables false
set_option maxRecDepth 100000
def dpV (N : List CNode) (rt : Int) : Int := match treeV N rt with | some (d, _) => (d : Int) | none => 0
def dpC (N : List CNode) (rt : Int) : Int := match treeV N rt with | some _ => 0 | none => 1
theorem dp_some {N : List CNode} {rt : Int} {d : Nat} {q : List ByteArray} (h : treeV N rt = some (d, q)) : dpV N rt = (d : Int) ∧ dpC N rt = 0 := by unfold dpV dpC; rw [h]; exact ⟨rfl, rfl⟩
theorem dp_none {N : List CNode} {rt : Int} (h : treeV N rt = none) : dpV N rt = 0 ∧ dpC N rt = 1 := by unfold dpV dpC; rw [h]; exact ⟨rfl, rfl⟩
theorem treeV_chain {N : List CNode} {rt : Int} {d : Nat} {q : List ByteArray} (h : treeV N rt = some (d, q)) : chain N d rt ∧ N.length ≤ 200 := by
  unfold treeV at h
  split at h
  · cases h
  · next hb =>
    refine ⟨?_, by omega⟩
    rcases hv : visit N 201 true rt (List.replicate N.length false) [] with _ | ⟨d1, s1, q1⟩
    · rw [hv] at h; cases h
    · rw [hv] at h
      dsimp only at h
      split at h
      · injection h with h
        injection h with h1 h2
        subst h1
        exact visit_chain N _ _ _ _ _ _ _ _ hv
      · cases h
theorem visit_depth (N : List CNode) : ∀ (f : Nat) (r : Bool) (k : Int) (s : List Bool) (q : List ByteArray) (d : Nat) (s' : List Bool) (q' : List ByteArray), visit N f r k s q = some (d, s', q') → d ≤ f := by
  intro f
  induction f with
  | zero => intro r k s q d s' q' h; cases h
  | succ f ih =>
    intro r k s q d s' q' h
    rw [visit] at h
    split at h
    · split at h
      · cases h
      · next n hn =>
        split at h
        · split at h
          · cases h
          · split at h
            · split at h
              · simp only [Option.some.injEq, Prod.mk.injEq] at h
                obtain ⟨rfl, -, -⟩ := h
                omega
              · cases h
            · split at h
              · split at h
                · cases h
                · next hk =>
                  simp only [Option.some.injEq, Prod.mk.injEq] at h
                  obtain ⟨rfl, -, -⟩ := h
                  rcases hds : n.ds with _ | ⟨k0, r⟩
                  · rw [hds] at hk
                    simp only [kidsV, Option.some.injEq, Prod.mk.injEq] at hk
                    omega
                  · rw [hds, kidsV] at hk
                    rcases hv : visit N f false k0 (s.set k.toNat true) q with _ | ⟨d1, s1, q1⟩
                    · rw [hv] at hk; cases hk
                    · rw [hv] at hk
                      dsimp only at hk
                      split at hk
                      · have h1 := kidsV_depth _ _ _ _ _ _ _ _ _ (by omega) hk
                        have h2 := ih _ _ _ _ _ _ _ hv
                        omega
                      · cases hk
              · cases h
        · cases h
    · cases h
theorem treeV_depth {N : List CNode} {rt : Int} {d : Nat} {q : List ByteArray} (h : treeV N rt = some (d, q)) : d ≤ 201 := by
  unfold treeV at h
  split at h
  · cases h
  · rcases hv : visit N 201 true rt (List.replicate N.length false) [] with _ | ⟨d1, s1, q1⟩
    · rw [hv] at h; cases h
    · rw [hv] at h
      dsimp only at h
      split at h
      · injection h with h
        injection h with h1 h2
        subst h1
        exact visit_depth N _ _ _ _ _ _ _ _ hv
      · cases h
/-- what TreeDepth answers -/
def DpPost (w : World) (V C : Int) (e : Ending) (w' : World) : Prop := e = .returned (.tuple #[.int .i64 V, .int .i64 C]) ∧ Ext w w'
set_option maxHeartbeats 1000000 in
theorem spec_TreeDepth (rt : Int) (An : Option Addr) (nn pn : Nat) (l : List XNode) (N : List CNode) (w : World) (hl : l.length = nn) (hN : l.map XNode.c = N) (hns : nn ≤ 1099511627776) (hx : XSm l) (hr : NsR w An l) :
    Calls Try.prog 56 #[.agg #[.int .i64 rt, .slice An nn pn]] w (DpPost w (dpV N rt) (dpC N rt)) := by
  have hE0 : Ext w (w.alloc (.cells #[.int .i64 rt, .slice An nn pn] 74)) := (by repeat (first | exact Ext.refl _ | assumption | refine Ext.alloc ?_ _ | refine Ext.drewN ?_ _ | refine Ext.drew ?_ | refine Ext.set ?_ (by dsimp only; omega) _ | refine Ext.trans ?_ (by assumption)))
  have HC := Lib.hid (spec_l09Walk rt An nn pn l N _ hl hN hns hx (hr.ext hE0))
  have HE0 := Lib.hid hE0
  clear hl hN hx hr hE0
  go_enter Try.func56, Try.ntmps56
  go_wp2_with fail
  refine HC.out.mono ?_
  rintro e w1 ⟨d, v, q, ok, rfl, ho, hE, -, hd0, hd1, hP⟩
  obtain ⟨A1, c1, rfl⟩ := own_slice ho
  clear ho
  rcases hP with ⟨rfl, h⟩ | ⟨rfl, h⟩
  · have HV := Lib.hid (dp_some h)
    clear h
    go_wp2_with fail
    go_ret2
    refine ⟨?_, HE0.out.trans hE⟩
    rw [HV.out.1, HV.out.2, Int.toNat_of_nonneg hd0]
    try rfl
  · have HV := Lib.hid (dp_none h)
    clear h
    go_wp2_with fail
    go_ret2
    refine ⟨?_, HE0.out.trans hE⟩
    rw [HV.out.1, HV.out.2]
    try rfl
set_option maxHeartbeats 4000000 in
theorem impl_TreeDepth (rt : Int) (An : Option Addr) (nn pn : Nat) (l : List XNode) (N : List CNode) (w : World) (hl : l.length = nn) (hN : l.map XNode.c = N) (hns : nn ≤ 1099511627776) (hx : XSm l) (hr : NsR w An l) :
    Calls Try.prog 57 #[.agg #[.int .i64 rt, .slice An nn pn]] w (DpPost w (dpV N rt) (dpC N rt)) := by
  have hE0 : Ext w (w.alloc (.cells #[.int .i64 rt, .slice An nn pn] 74)) := (by repeat (first | exact Ext.refl _ | assumption | refine Ext.alloc ?_ _ | refine Ext.drewN ?_ _ | refine Ext.drew ?_ | refine Ext.set ?_ (by dsimp only; omega) _ | refine Ext.trans ?_ (by assumption)))
  have HC := Lib.hid (impl_TreeOK rt An nn pn l N _ hl hN hns hx (hr.ext hE0))
  have HB := Lib.hid (Blk.new w 74 [.int .i64 rt, .slice An nn pn])
  have HE0 := Lib.hid hE0
  have HR := Lib.hid (hr.ext hE0)
  have HN := Lib.hid hN
  have HL := Lib.hid hl
  clear hl hN hx hr hE0
  rcases hv : treeV N rt with _ | ⟨d, q⟩
  · have HV := Lib.hid (dp_none hv)
    rw [okT_none hv] at HC
    clear hv
    go_enter Try.func57, Try.ntmps57
    go_wp2_with fail
    refine HC.out.mono ?_
    rintro e w1 ⟨rfl, hE⟩
    go_wp2_with fail
    go_ret2
    refine ⟨?_, HE0.out.trans hE⟩
    rw [HV.out.1, HV.out.2]
    try rfl
  have HV := Lib.hid (dp_some hv)
  rw [okT_some hv] at HC
  obtain ⟨hch, hn2⟩ := treeV_chain hv
  have hd201 := treeV_depth hv
  have HCH := Lib.hid hch
  have hnn : nn ≤ 200 := by rw [← HN.out, List.length_map, HL.out] at hn2; exact hn2
  clear hv hch hn2
  go_enter Try.func57, Try.ntmps57
  go_wp2_with fail
  refine HC.out.mono ?_
  rintro e w1 ⟨rfl, hE⟩
  have HB1 := Lib.hid (HB.out.ext hE)
  have HR1 := Lib.hid (HR.out.ext hE)
  have HE1 := Lib.hid (HE0.out.trans hE)
  clear hE HB HR HE0 HC
  obtain ⟨b0, b1⟩ := HB1.out.cells2
  go_wp2_with fail
  refine rg_start (by kernel_rfl) (Ext.refl w1) (fun hE0 => ?_)
  (refine rg_take (v := ?_) 0 rfl (by kernel_rfl) (by kernel_rfl) (by kernel_rfl) (fun _ _ _ h => h) (by rfl) (by assumption) (fun W hW => ?_) ?_; rotate_left; (focus (go_simp; try with_reducible rfl)); (try simp only [List.setIfInBounds_toArray, List.set_cons_succ, List.set_cons_zero]))
  (refine rg_take (v := ?_) 1 rfl (by kernel_rfl) (by kernel_rfl) (by kernel_rfl) (fun _ _ _ h => h) (by rfl) (by assumption) (fun W hW => ?_) ?_; rotate_left; (focus (have z0 := hW.cell b0; go_simp; try with_reducible rfl)); (try simp only [List.setIfInBounds_toArray, List.set_cons_succ, List.set_cons_zero]))
  (refine rg_take (v := ?_) 2 rfl (by kernel_rfl) (by kernel_rfl) (by kernel_rfl) (fun _ _ _ h => h) (by rfl) (by assumption) (fun W hW => ?_) ?_; rotate_left; (focus (go_simp; try with_reducible rfl)); (try simp only [List.setIfInBounds_toArray, List.set_cons_succ, List.set_cons_zero]))
  (refine rg_take (v := ?_) 3 rfl (by kernel_rfl) (by kernel_rfl) (by kernel_rfl) (fun _ _ _ h => h) (by rfl) (by assumption) (fun W hW => ?_) ?_; rotate_left; (focus (go_simp; try with_reducible rfl)); (try simp only [List.setIfInBounds_toArray, List.set_cons_succ, List.set_cons_zero]))
  refine rg_done (by kernel_rfl) ?_
  have HB2 := Lib.hid (HB1.out.ext hE0)
  have HR2 := Lib.hid (HR1.out.ext hE0)
  have HE2 := Lib.hid (HE1.out.trans hE0)
  generalize w1.drew = w2 at HB2 HR2 HE2 ⊢
  clear HB1 HR1 HE1 b0 b1 hE0
  go_wp2_with fail
  go_loopw [4, 5] (fun av kv wr => ∃ (a m : Nat) (k : Int), av = .int .i64 a ∧ kv = .int .i64 k ∧ chain N (m + 1) k ∧ a + m = d ∧ 1 ≤ a ∧ Ext w2 wr) (fun av _ _ => d - (intOf av).toNat)
  case atStart =>
    obtain ⟨m, rfl⟩ : ∃ m, d = m + 1 := by
      rcases d with _ | m
      · exact absurd HCH.out (by unfold chain; exact id)
      · exact ⟨m, rfl⟩
    exact ⟨1, m, rt, rfl, rfl, HCH.out, by omega, by omega, Ext.refl _⟩
  case round =>
    obtain ⟨a, m, k, rfl, rfl, hch, ham, ha1, hE⟩ := hrel
    unfold chain at hch
    obtain ⟨hk0, n, hn, hcase⟩ := hch
    obtain ⟨kn, rfl⟩ : ∃ kn : Nat, k = (kn : Int) := ⟨k.toNat, by omega⟩
    rw [Int.toNat_natCast] at hn
    obtain ⟨b0, b1⟩ := (HB2.out.ext hE).cells2
    have hkl : kn < l.length := by
      rcases Nat.lt_or_ge kn N.length with h | h
      · rw [← HN.out, List.length_map] at h; exact h
      · rw [List.getElem?_eq_none h] at hn; cases hn
    have hxc : l[kn].c = n := by
      have h := hn
      rw [← HN.out, List.getElem?_map, List.getElem?_eq_getElem hkl] at h
      exact Option.some.inj h
    have hkn : kn < nn := by rw [← HL.out]; exact hkl
    have hknI : (kn : Int) < (nn : Int) := by omega
    obtain ⟨bn, on, rfl, hc⟩ := (HR2.out.ext hE).1.flat XNode.len (by decide) hkl
    have n0 : wr.cell? ⟨bn, on + kn * 3, none⟩ = some (.bool l[kn].lf) := by exact hc 0 _ rfl
    have n2 : wr.cell? ⟨bn, on + kn * 3 + 2, none⟩ = some (.slice l[kn].Ai l[kn].ds.length l[kn].pi) := by rw [Nat.add_assoc]; exact hc 2 _ rfl
    have hok := ((HR2.out.2 _ (List.getElem_mem hkl)).ext hE).2
    generalize l[kn] = x at hxc n0 n2 hok
    subst hxc
    obtain ⟨lf, ks, ds, Ak, pk, Ai, pi⟩ := x
    unfold XNode.ci at hok
    unfold XNode.c at hcase
    dsimp only at n0 n2 hok hcase
    clear hc hn hk0
    rcases lf with _ | _
    rotate_left
    · have hm : m = 0 := by
        rcases hcase with ⟨h, -⟩ | ⟨h, -⟩
        · exact h
        · cases h
      have HA := Lib.hid (show a = d by omega)
      clear hcase hm ham
      go_wp2_with fail
      go_ret2
      refine ⟨?_, HE2.out.trans hE⟩
      rw [HV.out.1, HV.out.2, HA.out]
      try rfl
    · obtain ⟨k', hk', hch'⟩ : ∃ k', ds[0]? = some k' ∧ chain N m k' := by
        rcases hcase with ⟨-, h⟩ | ⟨-, h⟩
        · cases h
        · exact h
      obtain ⟨m', hm'⟩ : ∃ m', m = m' + 1 := by
        rcases m with _ | m'
        · exact absurd hch' (by unfold chain; exact id)
        · exact ⟨m', rfl⟩
      have hd0 : 0 < ds.length := by
        rcases ds with _ | ⟨_, _⟩
        · cases hk'
        · simp
      have hd0I : (0 : Int) < (ds.length : Int) := by omega
      obtain ⟨bi, oi, rfl, hci⟩ := hok (by intro e; have h0 := congrArg List.length e; rw [List.length_map, List.length_nil] at h0; omega)
      have hc0 : wr.cell? ⟨bi, oi, none⟩ = some (.int .i64 k') := by have h := hci 0 (.int .i64 k') (by rw [List.getElem?_map, hk']; rfl); rwa [Nat.add_zero] at h
      have HCH2 := Lib.hid (show chain N (m' + 1) k' by rw [← hm']; exact hch')
      have HAM := Lib.hid (show a + 1 + m' = d by omega)
      generalize hdl : ds.length = nd at n2 hd0 hd0I
      have haI : (a : Int) ≤ 201 := by omega
      have hw1 : IntKind.i64.wrap ((a : Int) + 1) = (a : Int) + 1 := IntWalk.i64_in _ (by omega)
      clear hcase hk' hch' hm' hci hok hdl ham
      go_wp2_with fail
      refine rg_start (by kernel_rfl) (Ext.refl wr) (fun hE0 => ?_)
      (refine rg_take (v := ?_) 0 rfl (by kernel_rfl) (by kernel_rfl) (by kernel_rfl) (fun _ _ _ h => h) (by rfl) (by assumption) (fun W hW => ?_) ?_; rotate_left; (focus (go_simp; try with_reducible rfl)); (try simp only [List.setIfInBounds_toArray, List.set_cons_succ, List.set_cons_zero]))
      (refine rg_take (v := ?_) 1 rfl (by kernel_rfl) (by kernel_rfl) (by kernel_rfl) (fun _ _ _ h => h) (by rfl) (by assumption) (fun W hW => ?_) ?_; rotate_left; (focus (go_simp; try with_reducible rfl)); (try simp only [List.setIfInBounds_toArray, List.set_cons_succ, List.set_cons_zero]))
      (refine rg_take (v := ?_) 2 rfl (by kernel_rfl) (by kernel_rfl) (by kernel_rfl) (fun _ _ _ h => h) (by rfl) (by assumption) (fun W hW => ?_) ?_; rotate_left; (focus (go_simp; try with_reducible rfl)); (try simp only [List.setIfInBounds_toArray, List.set_cons_succ, List.set_cons_zero]))
      (refine rg_take (v := ?_) 3 rfl (by kernel_rfl) (by kernel_rfl) (by kernel_rfl) (fun _ _ _ h => h) (by rfl) (by assumption) (fun W hW => ?_) ?_; rotate_left; (focus (have z0 := hW.cell b1; go_simp; try with_reducible rfl)); (try simp only [List.setIfInBounds_toArray, List.set_cons_succ, List.set_cons_zero]))
      (refine rg_take (v := ?_) 4 rfl (by kernel_rfl) (by kernel_rfl) (by kernel_rfl) (fun _ _ _ h => h) (by rfl) (by assumption) (fun W hW => ?_) ?_; rotate_left; (focus (go_simp; try with_reducible rfl)); (try simp only [List.setIfInBounds_toArray, List.set_cons_succ, List.set_cons_zero]))
      (refine rg_take (v := ?_) 5 rfl (by kernel_rfl) (by kernel_rfl) (by kernel_rfl) (fun _ _ _ h => h) (by rfl) (by assumption) (fun W hW => ?_) ?_; rotate_left; (focus (go_simp; try with_reducible rfl)); (try simp only [List.setIfInBounds_toArray, List.set_cons_succ, List.set_cons_zero]))
      (refine rg_take (v := ?_) 6 rfl (by kernel_rfl) (by kernel_rfl) (by kernel_rfl) (fun _ _ _ h => h) (by rfl) (by assumption) (fun W hW => ?_) ?_; rotate_left; (focus (go_simp; try with_reducible rfl)); (try simp only [List.setIfInBounds_toArray, List.set_cons_succ, List.set_cons_zero]))
      (refine rg_take (v := ?_) 7 rfl (by kernel_rfl) (by kernel_rfl) (by kernel_rfl) (fun _ _ _ h => h) (by rfl) (by assumption) (fun W hW => ?_) ?_; rotate_left; (focus (have z0 := hW.cell n2; go_simp; try with_reducible rfl)); (try simp only [List.setIfInBounds_toArray, List.set_cons_succ, List.set_cons_zero]))
      (refine rg_take (v := ?_) 8 rfl (by kernel_rfl) (by kernel_rfl) (by kernel_rfl) (fun _ _ _ h => h) (by rfl) (by assumption) (fun W hW => ?_) ?_; rotate_left; (focus (go_simp; try with_reducible rfl)); (try simp only [List.setIfInBounds_toArray, List.set_cons_succ, List.set_cons_zero]))
      (refine rg_take (v := ?_) 9 rfl (by kernel_rfl) (by kernel_rfl) (by kernel_rfl) (fun _ _ _ h => h) (by rfl) (by assumption) (fun W hW => ?_) ?_; rotate_left; (focus (have z0 := hW.cell hc0; go_simp; try with_reducible rfl)); (try simp only [List.setIfInBounds_toArray, List.set_cons_succ, List.set_cons_zero]))
      (refine rg_take (v := ?_) 10 rfl (by kernel_rfl) (by kernel_rfl) (by kernel_rfl) (fun _ _ _ h => h) (by rfl) (by assumption) (fun W hW => ?_) ?_; rotate_left; (focus (go_simp; try with_reducible rfl)); (try simp only [List.setIfInBounds_toArray, List.set_cons_succ, List.set_cons_zero]))
      (refine rg_take (v := ?_) 11 rfl (by kernel_rfl) (by kernel_rfl) (by kernel_rfl) (fun _ _ _ h => h) (by rfl) (by assumption) (fun W hW => ?_) ?_; rotate_left; (focus (go_simp; try with_reducible rfl)); (try simp only [List.setIfInBounds_toArray, List.set_cons_succ, List.set_cons_zero]))
      refine rg_done (by kernel_rfl) ?_
      go_wp2_with fail
      go_roundw
      case rel => exact ⟨a + 1, m', k', by go_num, rfl, HCH2.out, HAM.out, by omega, hE.trans hE0⟩
      case measure => simp [intOf]; have := HAM.out; omega
end Go.Proofs.Ythfkfdfcgldbeaa
