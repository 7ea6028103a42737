/- The walks of the laws' marking helpers over a tree in memory of its own. -/
import Derived.Test.YtnbfjkebakaigaaTreeC2
import Derived.Test.YtnbfjkebakaigaaTreeM
import Derived.Test.YtnbfjkebakaigaaMarkS
namespace Go.Proofs.Ytnbfjkebakaigaa
open Go.RowKit Go.Deep
set_option linter.unusedVariables false
set_option maxRecDepth 100000
/-- what lies below lo, and from hi on, stays -/
structure MkP (lo hi : Nat) (w w' : World) : Prop where
  low : Below lo w w'
  high : ∀ b, hi ≤ b → b < w.heap.size → w'.heap[b]? = w.heap[b]?
theorem MkP.refl (lo hi : Nat) (w : World) : MkP lo hi w w := ⟨Below.refl _ _, fun _ _ _ => rfl⟩
theorem MkP.grown {lo hi g : Nat} {w w' w'' : World} (h : MkP lo hi w w') (hg : w'.grownBy w'' (some g)) (h1 : lo ≤ g) (h2 : g < hi) (hlo : lo ≤ w'.heap.size) : MkP lo hi w w'' :=
  ⟨Below.grown h.low hg hlo (fun k hk => by injection hk with hk; omega), fun b hb hl => (hg.block b (Nat.lt_of_lt_of_le hl (Below.size h.low)) (fun e => by injection e with e; omega)).trans (h.high b hb hl)⟩
theorem MkP.set {lo hi b i : Nat} {w w' : World} (h : MkP lo hi w w') (h1 : lo ≤ b) (h2 : b < hi) (u : Value) (hlo : lo ≤ w'.heap.size) : MkP lo hi w (w'.setCell ⟨b, i, none⟩ u) :=
  h.grown (g := b) (grown_step (World.grownBy.refl _ _) (Ext.refl _) b i u) h1 h2 hlo
theorem MkP.own {lo hi n size : Nat} {e : TypeId} {v : Value} {xs : List Value} {w w' : World} (h : MkP lo hi w w') (ho : w.ownsRow hi e size v n xs) : w'.ownsRow hi e size v n xs := by
  obtain ⟨hl, ho⟩ := ho
  refine ⟨hl, ?_⟩
  rcases ho with h0 | ⟨g, cap, cur, hv, hg, hh, hr⟩
  · exact .inl h0
  · refine .inr ⟨g, cap, cur, hv, hg, (h.high g hg ?_).trans hh, hr⟩
    rcases Nat.lt_or_ge g w.heap.size with h1 | h1
    · exact h1
    · rw [Array.getElem?_eq_none h1] at hh; cases hh
theorem MkP.ext {w0 w w' : World} {hi : Nat} (h : MkP w0.heap.size hi w w') (E : Ext w0 w) : Ext w0 w' := Below.trans E h.low
theorem XOwn.grown {w w' : World} {TS TI : TypeId} {B g : Nat} {x : XNode} (h : XOwn w TS TI B x) (hg : w.grownBy w' (some g)) (h1 : x.gu ≠ g) (h2 : x.gd ≠ g) : XOwn w' TS TI B x :=
  ⟨h.hk, h.hi, h.bk, h.bi, (hg.block x.gu h.Bk.lt (fun e => by injection e with e; exact h1 e)).trans h.Bk, (hg.block x.gd h.Bi.lt (fun e => by injection e with e; exact h2 e)).trans h.Bi⟩
theorem blk_gr {w w' : World} {b g : Nat} {t : TypeId} {cs : List Value} (h : Blk w b t cs) (hg : w.grownBy w' (some g)) (hne : b ≠ g) : Blk w' b t cs :=
  (hg.block b h.lt (fun e => by injection e with e; exact hne e)).trans h
theorem xTot_drop {l : List XNode} {j : Nat} (hj : j < l.length) : xTot (l.drop j) = (1 + l[j].ks.length + l[j].ds.length) + xTot (l.drop (j + 1)) := by
  unfold xTot; rw [List.drop_eq_getElem_cons hj, List.map_cons, List.sum_cons]
theorem drop_pair {l : List XNode} {j : Nat} (hj : j < l.length) (hp : l.Pairwise XLt) : ∀ y ∈ l.drop (j + 1), XLt l[j] y := by
  have h := hp.sublist (List.drop_sublist j l)
  rw [List.drop_eq_getElem_cons hj, List.pairwise_cons] at h
  exact h.1
theorem drop_sub {l : List XNode} {j : Nat} {P : XNode → Prop} (h : ∀ x ∈ l.drop j, P x) : ∀ x ∈ l.drop (j + 1), P x := fun x hx => h x (by
  rw [← List.drop_drop] at hx
  exact List.mem_of_mem_drop hx)
theorem cs_next {cs0 : List Value} {b : Value} {x : XNode} {r : List Value} : cs0 ++ ([b, .slice x.Ak x.ks.length x.pk, .slice x.Ai x.ds.length x.pi] ++ r) = (cs0 ++ [b, .slice x.Ak x.ks.length x.pk, .slice x.Ai x.ds.length x.pi]) ++ r := by simp
set_option maxHeartbeats 400000 in
theorem markInts_t (b n cp : Nat) (k : Int) (cs : List Value) (w : World) (hn : n ≤ 1099511627776) (h1 : 1 ≤ k) (h2 : k ≤ 1099511627776) (hl : n ≤ cs.length) (hB : Blk w b 3 cs) :
    Calls Try.prog 31 #[.slice (some ⟨b, 0, none⟩) n cp, .int .i64 k] w fun e w' => e = .returned (.int .i64 (k + n)) ∧ w.grownBy w' (some b) := by
  have HL := Lib.hid hl
  clear hl
  go_enter Try.func31, Try.ntmps31
  go_wp2
  go_loopw [5, 1] (fun i t wr => ∃ (j : Nat) (cs' : List Value), j ≤ n ∧ i = .int .i64 j ∧ t = .int .i64 (k + j) ∧ cs'.length = cs.length ∧ Blk wr b 3 cs' ∧ w.grownBy wr (some b)) (fun i _ _ => n - (intOf i).toNat)
  case atStart => exact ⟨0, cs, Nat.zero_le _, rfl, by simp, rfl, hB, World.grownBy.refl _ _⟩
  case round =>
    obtain ⟨j, cs', hj, rfl, rfl, hcl, hBr, hG⟩ := hrel
    have HB := Lib.hid hBr
    have HG := Lib.hid hG
    have HCL := Lib.hid hcl
    clear hBr hG hcl
    by_cases hlt : j < n
    · have hjc : j < cs'.length := by have := HL.out; have := HCL.out; omega
      obtain ⟨u, hc⟩ : ∃ u, wr.cell? ⟨b, j, none⟩ = some u := ⟨_, HB.out.cell hjc⟩
      have hf := HB.out.frozen j
      have hlt2 : (j : Int) < (n : Int) := by omega
      go_wp2_with fail
      go_roundw
      case rel => exact ⟨j + 1, _, by omega, by go_num, by go_num, by rw [List.length_set]; exact HCL.out, HB.out.set j _, grown_step HG.out (Ext.refl _) b j _⟩
      case measure => simp [intOf]; omega
    · have hj4 : j = n := by omega
      subst hj4
      go_wp2_with fail
      go_ret
      exact ⟨rfl, HG.out⟩
set_option maxHeartbeats 2000000 in
theorem markTreeNodeS_any (bn n cp : Nat) (k : Int) (l : List XNode) (B hi : Nat) (w : World) (hl : l.length = n) (h1 : 1 ≤ k) (h2 : k + (xTot l : Int) ≤ 1048600) (hBn : B ≤ bn) (hnh : bn < hi) (hsz : B ≤ w.heap.size) (hB : Blk w bn 193 (l.flatMap XNode.cs)) (ho : ∀ x ∈ l, XOwn w 9 3 B x) (hol : ∀ x ∈ l, x.gu < hi ∧ x.gd < hi) (hp : l.Pairwise XLt) :
    Calls Try.prog 131 #[.slice (some ⟨bn, 0, none⟩) n cp, .int .i64 k] w fun e w' => e = .returned (.int .i64 (k + (xTot l : Int))) ∧ MkP B hi w w' := by
  have HL := Lib.hid hl
  have HOL := Lib.hid hol
  have HPW := Lib.hid hp
  have hn : n ≤ 1048600 := by have := xTot_len l; omega
  have H2 := Lib.hid h2
  clear hl hol hp h2
  go_enter Try.func131, Try.ntmps131
  go_wp2_with fail
  go_loopw [5, 1] (fun i t wr => ∃ (j : Nat) (kk : Int) (cs0 : List Value), j ≤ n ∧ i = .int .i64 j ∧ t = .int .i64 kk ∧ 1 ≤ kk ∧ kk + (xTot (l.drop j) : Int) = k + (xTot l : Int) ∧ cs0.length = j * 3 ∧ Blk wr bn 193 (cs0 ++ (l.drop j).flatMap XNode.cs) ∧ (∀ x ∈ l.drop j, XOwn wr 9 3 B x) ∧ MkP B hi w wr) (fun i _ _ => n - (intOf i).toNat)
  case atStart => exact ⟨0, k, [], Nat.zero_le _, rfl, rfl, h1, by rw [List.drop_zero], rfl, by simpa using hB, by simpa using ho, MkP.refl _ _ _⟩
  case round =>
    obtain ⟨j, kk, cs0, hj, rfl, rfl, hk1, hkt, hc0, hBr, hor, hM⟩ := hrel
    have HKT := Lib.hid hkt
    have HC0 := Lib.hid hc0
    have HBR := Lib.hid hBr
    have HOR := Lib.hid hor
    have HM := Lib.hid hM
    clear hkt hc0 hBr hor hM
    by_cases hin : j < n
    · have hinI : (j : Int) < (n : Int) := by omega
      have hjl : j < l.length := by rw [HL.out]; exact hin
      have hdr := List.drop_eq_getElem_cons hjl
      have htd := xTot_drop hjl
      have HPD := Lib.hid (drop_pair hjl HPW.out)
      have hlt := HOL.out _ (List.getElem_mem hjl)
      have hox := HOR.out l[j] (by rw [hdr]; exact List.mem_cons_self)
      have HOR1 := Lib.hid (drop_sub HOR.out)
      have HB1 := Lib.hid (HBR.out.of_eq (show cs0 ++ (l.drop j).flatMap XNode.cs = cs0 ++ (l[j].cs ++ (l.drop (j + 1)).flatMap XNode.cs) by rw [hdr]; rfl))
      clear HOR HBR hdr
      generalize l[j] = x at htd HPD hlt hox HB1
      obtain ⟨lf, ks, ds, Ak, pk, Ai, pi⟩ := x
      have hAk := hox.hk
      have hAi := hox.hi
      have hBk := hox.Bk
      have hBi := hox.Bi
      have hbk := hox.bk
      have hbi := hox.bi
      generalize hgu : XNode.gu ⟨lf, ks, ds, Ak, pk, Ai, pi⟩ = gu at hAk hBk hbk hlt
      generalize hgd : XNode.gd ⟨lf, ks, ds, Ak, pk, Ai, pi⟩ = gd at hAi hBi hbi hlt
      have HPX := Lib.hid (show ∀ y ∈ l.drop (j + 1), gu < y.gu ∧ gd < y.gd by
        intro y hy
        have h := HPD.out y hy
        unfold XLt at h
        rw [hgu, hgd] at h
        exact h)
      unfold XNode.ck at hBk
      unfold XNode.ci at hBi
      dsimp only at hAk hAi hBk hBi htd
      subst hAk; subst hAi
      have d0 : wr.cell? ⟨bn, j * 3, none⟩ = some (.bool lf) := Blk.mid HB1.out HC0.out (j := 0) (by simp [XNode.cs])
      have d1 : wr.cell? ⟨bn, j * 3 + 1, none⟩ = some (.slice (some ⟨gu, 0, none⟩) ks.length pk) := Blk.mid HB1.out HC0.out (j := 1) (by simp [XNode.cs])
      have d2 : wr.cell? ⟨bn, j * 3 + 2, none⟩ = some (.slice (some ⟨gd, 0, none⟩) ds.length pi) := Blk.mid HB1.out HC0.out (j := 2) (by simp [XNode.cs])
      have f0 := HB1.out.frozen (j * 3)
      have hun : bn ≠ gu := fun e => by have h := HB1.out; rw [e] at h; exact absurd (blk_ty h hBk) (by decide)
      have hdn : bn ≠ gd := fun e => by have h := HB1.out; rw [e] at h; exact absurd (blk_ty h hBi) (by decide)
      have hud : gu ≠ gd := fun e => by have h := hBk; rw [e] at h; exact absurd (blk_ty h hBi) (by decide)
      have HUD := Lib.hid (show ∀ y ∈ l.drop (j + 1), y.gu ≠ gd ∧ y.gd ≠ gu from fun y hy => ⟨fun e => by have h := hBi; rw [← e] at h; exact absurd (blk_ty h (HOR1.out y hy).Bk) (by decide), fun e => by have h := hBk; rw [← e] at h; exact absurd (blk_ty h (HOR1.out y hy).Bi) (by decide)⟩)
      have HSB := Lib.hid (fun b : Bool => Blk.setMid HB1.out HC0.out (j := 0) (by simp [XNode.cs]) (.bool b))
      have HSK := Lib.hid (fun b : Bool => Blk.far hBk (p := ⟨bn, j * 3, none⟩) (Ne.symm hun) (.bool b))
      have HSI := Lib.hid (fun b : Bool => Blk.far hBi (p := ⟨bn, j * 3, none⟩) (Ne.symm hdn) (.bool b))
      have HSO := Lib.hid (fun (b : Bool) y (hy : y ∈ l.drop (j + 1)) => (HOR1.out y hy).grown (grown_step (World.grownBy.refl _ _) (Ext.refl wr) bn (j * 3) (.bool b)) (fun e => by have h := HB1.out; rw [← e] at h; exact absurd (blk_ty h (HOR1.out y hy).Bk) (by decide)) (fun e => by have h := HB1.out; rw [← e] at h; exact absurd (blk_ty h (HOR1.out y hy).Bi) (by decide)))
      have hszr : B ≤ wr.heap.size := Nat.le_trans hsz (Below.size HM.out.low)
      have HSM := Lib.hid (fun b : Bool => HM.out.set (i := j * 3) hBn hnh (.bool b) hszr)
      have hkk : kk + (1 + (ks.length : Int) + (ds.length : Int)) ≤ 1048600 := by have := HKT.out; have := H2.out; omega
      generalize hnk : ks.length = nk at d1 htd hkk
      generalize hnd : ds.length = nd at d2 htd hkk
      have HNK := Lib.hid hnk
      have HND := Lib.hid hnd
      have HTD := Lib.hid htd
      clear hox hBk hBi hgu hgd htd HPD HB1 HOR1 HM hnk hnd
      go_wp2_with fail
      refine (markStringS_any gu nk pk (kk + 1) ks [] _ (by omega) (by omega) (by omega) HNK.out ((HSK.out _).of_eq (by simp))).mono ?_
      rintro e w1 ⟨rfl, -, hg1⟩
      have HB2 := Lib.hid (blk_gr (HSB.out _) hg1 hun)
      have HI2 := Lib.hid (blk_gr (HSI.out _) hg1 (Ne.symm hud))
      have HO2 := Lib.hid (fun y (hy : y ∈ l.drop (j + 1)) => ((HSO.out _ y hy).grown hg1 (by have := (HPX.out y hy).1; omega) (HUD.out y hy).2))
      have HM2 := Lib.hid ((HSM.out _).grown hg1 hbk hlt.1 (by rw [World.size_setCell]; exact hszr))
      have hsz1 : B ≤ w1.heap.size := by have h := hg1.size; rw [World.size_setCell] at h; omega
      clear hg1 HSB HSI HSO HSM HSK d0 d1 d2 f0
      have d2 : w1.cell? ⟨bn, j * 3 + 2, none⟩ = some (.slice (some ⟨gd, 0, none⟩) nd pi) := by rw [← HND.out]; exact Blk.mid HB2.out HC0.out (j := 2) (by simp [XNode.cs])
      go_wp2_with fail
      refine (markInts_t gd nd pi (kk + 1 + (nk : Int)) _ w1 (by omega) (by omega) (by omega) (by rw [List.length_map, HND.out]; exact Nat.le_refl _) HI2.out).mono ?_
      rintro e w2 ⟨rfl, hg2⟩
      have HB3 := Lib.hid (blk_gr HB2.out hg2 hdn)
      have HO3 := Lib.hid (fun y (hy : y ∈ l.drop (j + 1)) => ((HO2.out y hy).grown hg2 (HUD.out y hy).1 (by have := (HPX.out y hy).2; omega)))
      have HM3 := Lib.hid (HM2.out.grown hg2 hbi hlt.2 hsz1)
      clear hg2 d2
      go_wp2_with fail
      go_roundw
      case rel => exact ⟨j + 1, _, _, hin, by go_num, rfl, by omega, by have := HKT.out; have := HTD.out; omega, by rw [List.length_append, HC0.out]; simp; omega, HB3.out.of_eq cs_next, HO3.out, HM3.out⟩
      case measure => simp [intOf]; omega
    · obtain rfl : n = j := by omega
      have hin0 : ¬ (n : Int) < (n : Int) := by omega
      have HE := Lib.hid (show kk = k + (xTot l : Int) by have h := HKT.out; rw [List.drop_of_length_le (by rw [HL.out]; exact Nat.le_refl _)] at h; have h2 : xTot [] = 0 := rfl; omega)
      clear hin
      go_wp2_with fail
      go_ret
      exact ⟨by (rw [HE.out]; try rfl), HM.out⟩
theorem markTree_any (rt : Int) (bn n cp : Nat) (k : Int) (l : List XNode) (B hi : Nat) (w : World) (hl : l.length = n) (h1 : 1 ≤ k) (h2 : k + (xTot l : Int) ≤ 1048600) (hBn : B ≤ bn) (hnh : bn < hi) (hsz : B ≤ w.heap.size) (hih : hi ≤ w.heap.size) (hB : Blk w bn 193 (l.flatMap XNode.cs)) (ho : ∀ x ∈ l, XOwn w 9 3 B x) (hol : ∀ x ∈ l, x.gu < hi ∧ x.gd < hi) (hp : l.Pairwise XLt) :
    Calls Try.prog 61 #[.agg #[.int .i64 rt, .slice (some ⟨bn, 0, none⟩) n cp], .int .i64 k] w fun e w' => e = .returned (.int .i64 (k + (xTot l : Int))) ∧ MkP B hi w w' := by
  have hE0 : Ext w (w.alloc (.cells #[.int .i64 rt, .slice (some ⟨bn, 0, none⟩) n cp] 89)) := (by repeat (first | exact Ext.refl _ | assumption | refine Ext.alloc ?_ _ | refine Ext.drewN ?_ _ | refine Ext.drew ?_ | refine Ext.set ?_ (by dsimp only; omega) _ | refine Ext.trans ?_ (by assumption)))
  have HM := Lib.hid (markTreeNodeS_any bn n cp k l B hi _ hl h1 h2 hBn hnh (Nat.le_trans hsz hE0.le) (hB.ext hE0) (fun x hx => (ho x hx).ext hE0) hol hp)
  have HE0 := Lib.hid hE0
  clear hl h1 h2 hB ho hol hp hE0
  generalize k + (xTot l : Int) = r at HM ⊢
  go_enter Try.func61, Try.ntmps61
  go_wp2_with fail
  refine HM.out.mono ?_
  rintro e w1 ⟨rfl, hM⟩
  go_wp2_with fail
  go_ret
  exact ⟨rfl, Below.trans (Below.mono HE0.out hsz) hM.low, fun b hb hl => (hM.high b hb (Nat.lt_of_lt_of_le hl HE0.out.le)).trans (Below.block HE0.out b hl)⟩
end Go.Proofs.Ytnbfjkebakaigaa
