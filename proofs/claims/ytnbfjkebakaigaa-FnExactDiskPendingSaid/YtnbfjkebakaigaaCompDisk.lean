/- The walks of the laws' helpers over Disk (printed by gen_comp.py). -/
import Derived.Test.YtnbfjkebakaigaaTexts
import Derived.Test.YtnbfjkebakaigaaMarkS
import Derived.Test.YtnbfjkebakaigaaFlatPending
import Derived.Test.YtnbfjkebakaigaaInts
import Derived.Test.YtnbfjkebakaigaaNode
namespace Go.Proofs.Ytnbfjkebakaigaa
open Go.RowKit Go.Deep
set_option linter.unusedVariables false
set_option maxRecDepth 100000
set_option maxHeartbeats 2000000 in
theorem szDisk_any (As : Option Addr) (ns ps : Nat) (Ac : Option Addr) (nc pc : Nat) (ar : Bool) (Ak : Option Addr) (nk pk : Nat) (ls : List ByteArray) (lc : List CPending) (lk : List Int) (left : Int) (w : World) (hls : ls.length = ns) (hlc : lc.length = nc) (hlk : lk.length = nk) (hns : ns ≤ 9223372036854775807) (hnc : nc ≤ 9223372036854775807) (hnk : nk ≤ 9223372036854775807) (h0 : 0 ≤ left) (h1 : left ≤ 1048576) (hxs : ∀ s ∈ ls, s.size ≤ maxLen) (hxc : ∀ x ∈ lc, x.c.size ≤ maxLen) (hrs : Rd w As (ls.map fun c => Value.string c)) (hrc : Rd w Ac (lc.flatMap CPending.cs)) (hrk : Rd w Ak (lk.map fun c => Value.int .i64 c)) :
    Calls Try.prog 19 #[.agg #[.slice As ns ps, .slice Ac nc pc, .bool ar, .slice Ak nk pk], .int .i64 left] w (SzPost w left ((ns : Int) ≤ left ∧ (nc : Int) ≤ left ∧ (nk : Int) ≤ left)) := by
  have HLs := Lib.hid hls
  have HLc := Lib.hid hlc
  have HLk := Lib.hid hlk
  have HXs := Lib.hid hxs
  have HXc := Lib.hid hxc
  have HRs := Lib.hid hrs
  have HRc := Lib.hid hrc
  have HRk := Lib.hid hrk
  have HB := Lib.hid (Blk.new w 34 [.slice As ns ps, .slice Ac nc pc, .bool ar, .slice Ak nk pk])
  clear hls hlc hlk hrs hrc hrk hxs hxc
  go_enter Try.func19, Try.ntmps19
  go_wp2_with fail
  refine (szStringS_any As ns ps ls left _ HLs.out hns (by omega) (by omega) HXs.out (HRs.out.ext (by repeat (first | exact Ext.refl _ | assumption | refine Ext.alloc ?_ _ | refine Ext.drewN ?_ _ | refine Ext.drew ?_ | refine Ext.set ?_ (by dsimp only; omega) _ | refine Ext.trans ?_ (by assumption))))).mono ?_
  rintro e w0 ⟨v0, rfl, g0, i0, hG0, E0⟩
  have HG0 := Lib.hid hG0
  clear hG0
  by_cases hv0 : v0 < 0
  · go_wp2_with fail
    go_ret
    exact ⟨-1, rfl, by omega, by omega, fun h => by omega, (by repeat (first | exact Ext.refl _ | assumption | refine Ext.alloc ?_ _ | refine Ext.drewN ?_ _ | refine Ext.drew ?_ | refine Ext.set ?_ (by dsimp only; omega) _ | refine Ext.trans ?_ (by assumption)))⟩
  obtain ⟨z0, z1, z2, z3⟩ := (HB.out.ext E0).cells4
  go_wp2_with fail
  refine (szPendingS_any Ac nc pc lc v0 _ HLc.out hnc (by omega) (by omega) HXc.out (HRc.out.ext (by repeat (first | exact Ext.refl _ | assumption | refine Ext.alloc ?_ _ | refine Ext.drewN ?_ _ | refine Ext.drew ?_ | refine Ext.set ?_ (by dsimp only; omega) _ | refine Ext.trans ?_ (by assumption))))).mono ?_
  rintro e w1 ⟨v1, rfl, g1, i1, hG1, E1⟩
  have HG1 := Lib.hid hG1
  clear hG1
  by_cases hv1 : v1 < 0
  · go_wp2_with fail
    go_ret
    exact ⟨-1, rfl, by omega, by omega, fun h => by omega, (by repeat (first | exact Ext.refl _ | assumption | refine Ext.alloc ?_ _ | refine Ext.drewN ?_ _ | refine Ext.drew ?_ | refine Ext.set ?_ (by dsimp only; omega) _ | refine Ext.trans ?_ (by assumption)))⟩
  clear z0 z1 z2 z3
  obtain ⟨z0, z1, z2, z3⟩ := (HB.out.ext (E0.trans E1)).cells4
  go_wp2_with fail
  refine (szIntS_any Ak nk pk v1 _ hnk (by omega) (by omega)).mono ?_
  rintro e w2 ⟨v2, rfl, g2, i2, hG2, E2⟩
  have HG2 := Lib.hid hG2
  clear hG2
  by_cases hv2 : v2 < 0
  · go_wp2_with fail
    go_ret
    exact ⟨-1, rfl, by omega, by omega, fun h => by omega, (by repeat (first | exact Ext.refl _ | assumption | refine Ext.alloc ?_ _ | refine Ext.drewN ?_ _ | refine Ext.drew ?_ | refine Ext.set ?_ (by dsimp only; omega) _ | refine Ext.trans ?_ (by assumption)))⟩
  clear z0 z1 z2 z3
  go_wp2_with fail
  go_ret
  exact ⟨v2, rfl, by omega, by omega, fun _ => ⟨(by have := (HG0.out (by omega)).1; rw [HLs.out] at this; omega), (by have := (HG1.out (by omega)).1; rw [HLc.out] at this; omega), (by have := HG2.out (by omega); omega)⟩, (by repeat (first | exact Ext.refl _ | assumption | refine Ext.alloc ?_ _ | refine Ext.drewN ?_ _ | refine Ext.drew ?_ | refine Ext.set ?_ (by dsimp only; omega) _ | refine Ext.trans ?_ (by assumption)))⟩
/-- one in memory of its own -/
def FreshDisk (w : World) (Ts : TypeId) (ns : Nat) (Tc : TypeId) (nc : Nat) (Tk : TypeId) (nk : Nat) (ar : Bool) (ls : List ByteArray) (lc : List CPending) (lk : List Int) (e : Ending) (w' : World) : Prop :=
  ∃ bs bc bk, e = .returned (.agg #[.slice (some ⟨bs, 0, none⟩) ns ns, .slice (some ⟨bc, 0, none⟩) nc nc, .bool ar, .slice (some ⟨bk, 0, none⟩) nk nk]) ∧ w.heap.size ≤ bs ∧ Blk w' bs Ts (ls.map fun c => Value.string c) ∧ w.heap.size ≤ bc ∧ Blk w' bc Tc (lc.flatMap CPending.cs) ∧ w.heap.size ≤ bk ∧ Blk w' bk Tk (lk.map fun c => Value.int .i64 c) ∧ Ext w w'
set_option maxHeartbeats 2000000 in
theorem toDisk_any (As : Option Addr) (ns ps : Nat) (Ac : Option Addr) (nc pc : Nat) (ar : Bool) (Ak : Option Addr) (nk pk : Nat) (ls : List ByteArray) (lc : List CPending) (lk : List Int) (w : World) (hls : ls.length = ns) (hlc : lc.length = nc) (hlk : lk.length = nk) (hns : ns ≤ 1099511627776) (hnc : nc ≤ 1099511627776) (hnk : nk ≤ 1099511627776) (hrs : Rd w As (ls.map fun c => Value.string c)) (hrc : Rd w Ac (lc.flatMap CPending.cs)) (hrk : Rd w Ak (lk.map fun c => Value.int .i64 c)) :
    Calls Try.prog 21 #[.agg #[.slice As ns ps, .slice Ac nc pc, .bool ar, .slice Ak nk pk]] w (FreshDisk w 9 ns 118 nc 3 nk ar ls lc lk) := by
  have HLs := Lib.hid hls
  have HLc := Lib.hid hlc
  have HLk := Lib.hid hlk
  clear hls hlc hlk
  have HX0 := Lib.hid (((Blk.new w 34 [.slice As ns ps, .slice Ac nc pc, .bool ar, .slice Ak nk pk]).alloc (.cells #[.slice none 0 0, .slice none 0 0, .bool false, .slice none 0 0] 26)).alloc (.cells #[.slice none 0 0, .slice none 0 0, .bool false, .slice none 0 0] 26))
  have hR := (Blk.new (w.alloc (.cells #[.slice As ns ps, .slice Ac nc pc, .bool ar, .slice Ak nk pk] 34)) 26 [.slice none 0 0, .slice none 0 0, .bool false, .slice none 0 0]).alloc (.cells #[.slice none 0 0, .slice none 0 0, .bool false, .slice none 0 0] 26)
  rw [World.size_alloc] at hR
  have hO := Blk.new ((w.alloc (.cells #[.slice As ns ps, .slice Ac nc pc, .bool ar, .slice Ak nk pk] 34)).alloc (.cells #[.slice none 0 0, .slice none 0 0, .bool false, .slice none 0 0] 26)) 26 [.slice none 0 0, .slice none 0 0, .bool false, .slice none 0 0]
  rw [World.size_alloc, World.size_alloc] at hO
  have HE0 := Lib.hid (show Ext w (((w.alloc (.cells #[.slice As ns ps, .slice Ac nc pc, .bool ar, .slice Ak nk pk] 34)).alloc (.cells #[.slice none 0 0, .slice none 0 0, .bool false, .slice none 0 0] 26)).alloc (.cells #[.slice none 0 0, .slice none 0 0, .bool false, .slice none 0 0] 26)) from (by repeat (first | exact Ext.refl _ | assumption | refine Ext.alloc ?_ _ | refine Ext.drewN ?_ _ | refine Ext.drew ?_ | refine Ext.set ?_ (by dsimp only; omega) _ | refine Ext.trans ?_ (by assumption))))
  have HR0 := Lib.hid hR
  have HO0 := Lib.hid hO
  clear hR hO
  go_enter Try.func21, Try.ntmps21
  go_wp2_with fail
  generalize ((w.alloc (.cells #[.slice As ns ps, .slice Ac nc pc, .bool ar, .slice Ak nk pk] 34)).alloc (.cells #[.slice none 0 0, .slice none 0 0, .bool false, .slice none 0 0] 26)).alloc (.cells #[.slice none 0 0, .slice none 0 0, .bool false, .slice none 0 0] 26) = y0 at HX0 HR0 HO0 HE0 ⊢
  have HQs := Lib.hid (hrs.ext HE0.out)
  refine (toStringS_any As ns ps ls _ HLs.out hns HQs.out).mono ?_
  rintro e w0 ⟨rfl, hF, hs, E⟩
  have HFs := Lib.hid hF
  have HG0 := Lib.hid (HE0.out.trans E)
  have hX := HX0.out.ext E
  have hR := HR0.out.ext E
  have hO := HO0.out.ext E
  have hbs : w.heap.size ≤ y0.heap.size := HE0.out.le
  have hcs : w.heap.size + 1 + 1 < y0.heap.size := HO0.out.lt
  generalize y0.heap.size = bs at HFs hbs hcs ⊢
  obtain ⟨x0, x1, x2, x3⟩ := hX.cells4
  obtain ⟨r0, r1, r2, r3⟩ := hR.cells4
  obtain ⟨o0, o1, o2, o3⟩ := hO.cells4
  have s0 := hO.frozen 0
  have u0 := hR.frozen 0
  have s1 := hO.frozen 1
  have u1 := hR.frozen 1
  have s2 := hO.frozen 2
  have u2 := hR.frozen 2
  have s3 := hO.frozen 3
  have u3 := hR.frozen 3
  have HO1 := Lib.hid (show Blk (w0.setCell ⟨w.heap.size + 1 + 1, 0, none⟩ (.slice (some ⟨bs, 0, none⟩) ns ns)) (w.heap.size + 1 + 1) 26 [.slice (some ⟨bs, 0, none⟩) ns ns, .slice none 0 0, .bool false, .slice none 0 0] from (hO.set 0 (.slice (some ⟨bs, 0, none⟩) ns ns)))
  have HX1 := Lib.hid (show Blk (w0.setCell ⟨w.heap.size + 1 + 1, 0, none⟩ (.slice (some ⟨bs, 0, none⟩) ns ns)) w.heap.size 34 [.slice As ns ps, .slice Ac nc pc, .bool ar, .slice Ak nk pk] from (Blk.far hX (by dsimp only; omega) _))
  have HR1 := Lib.hid (show Blk (w0.setCell ⟨w.heap.size + 1 + 1, 0, none⟩ (.slice (some ⟨bs, 0, none⟩) ns ns)) (w.heap.size + 1) 26 [.slice none 0 0, .slice none 0 0, .bool false, .slice none 0 0] from (Blk.far hR (by dsimp only; omega) _))
  have HE1 := Lib.hid (show Ext w (w0.setCell ⟨w.heap.size + 1 + 1, 0, none⟩ (.slice (some ⟨bs, 0, none⟩) ns ns)) from (Ext.set HG0.out (by dsimp only; omega) _))
  have HFs := Lib.hid (show Blk (w0.setCell ⟨w.heap.size + 1 + 1, 0, none⟩ (.slice (some ⟨bs, 0, none⟩) ns ns)) bs 9 (ls.map fun c => Value.string c) from (Blk.far HFs.out (by dsimp only; omega) _))
  clear hX hR hO hF E hs
  go_wp2_with fail
  clear x0 r0 o0 s0 u0 x1 r1 o1 s1 u1 x2 r2 o2 s2 u2 x3 r3 o3 s3 u3
  generalize (w0.setCell ⟨w.heap.size + 1 + 1, 0, none⟩ (.slice (some ⟨bs, 0, none⟩) ns ns)) = y1 at HO1 HX1 HR1 HE1 HFs ⊢
  have HQc := Lib.hid (hrc.ext HE1.out)
  refine (toPendingS_any Ac nc pc lc _ HLc.out hnc HQc.out).mono ?_
  rintro e w1 ⟨rfl, hF, E⟩
  have HFc := Lib.hid hF
  have HG1 := Lib.hid (HE1.out.trans E)
  have hX := HX1.out.ext E
  have hR := HR1.out.ext E
  have hO := HO1.out.ext E
  have HFs := Lib.hid (HFs.out.ext E)
  have hbc : w.heap.size ≤ y1.heap.size := HE1.out.le
  have hcc : w.heap.size + 1 + 1 < y1.heap.size := HO1.out.lt
  generalize y1.heap.size = bc at HFc hbc hcc ⊢
  obtain ⟨x0, x1, x2, x3⟩ := hX.cells4
  obtain ⟨r0, r1, r2, r3⟩ := hR.cells4
  obtain ⟨o0, o1, o2, o3⟩ := hO.cells4
  have s0 := hO.frozen 0
  have u0 := hR.frozen 0
  have s1 := hO.frozen 1
  have u1 := hR.frozen 1
  have s2 := hO.frozen 2
  have u2 := hR.frozen 2
  have s3 := hO.frozen 3
  have u3 := hR.frozen 3
  have HO2 := Lib.hid (show Blk ((w1.setCell ⟨w.heap.size + 1 + 1, 1, none⟩ (.slice (some ⟨bc, 0, none⟩) nc nc)).setCell ⟨w.heap.size + 1 + 1, 2, none⟩ (.bool ar)) (w.heap.size + 1 + 1) 26 [.slice (some ⟨bs, 0, none⟩) ns ns, .slice (some ⟨bc, 0, none⟩) nc nc, .bool ar, .slice none 0 0] from ((hO.set 1 (.slice (some ⟨bc, 0, none⟩) nc nc)).set 2 (.bool ar)))
  have HX2 := Lib.hid (show Blk ((w1.setCell ⟨w.heap.size + 1 + 1, 1, none⟩ (.slice (some ⟨bc, 0, none⟩) nc nc)).setCell ⟨w.heap.size + 1 + 1, 2, none⟩ (.bool ar)) w.heap.size 34 [.slice As ns ps, .slice Ac nc pc, .bool ar, .slice Ak nk pk] from (Blk.far (Blk.far hX (by dsimp only; omega) _) (by dsimp only; omega) _))
  have HR2 := Lib.hid (show Blk ((w1.setCell ⟨w.heap.size + 1 + 1, 1, none⟩ (.slice (some ⟨bc, 0, none⟩) nc nc)).setCell ⟨w.heap.size + 1 + 1, 2, none⟩ (.bool ar)) (w.heap.size + 1) 26 [.slice none 0 0, .slice none 0 0, .bool false, .slice none 0 0] from (Blk.far (Blk.far hR (by dsimp only; omega) _) (by dsimp only; omega) _))
  have HE2 := Lib.hid (show Ext w ((w1.setCell ⟨w.heap.size + 1 + 1, 1, none⟩ (.slice (some ⟨bc, 0, none⟩) nc nc)).setCell ⟨w.heap.size + 1 + 1, 2, none⟩ (.bool ar)) from (Ext.set (Ext.set HG1.out (by dsimp only; omega) _) (by dsimp only; omega) _))
  have HFs := Lib.hid (show Blk ((w1.setCell ⟨w.heap.size + 1 + 1, 1, none⟩ (.slice (some ⟨bc, 0, none⟩) nc nc)).setCell ⟨w.heap.size + 1 + 1, 2, none⟩ (.bool ar)) bs 9 (ls.map fun c => Value.string c) from (Blk.far (Blk.far HFs.out (by dsimp only; omega) _) (by dsimp only; omega) _))
  have HFc := Lib.hid (show Blk ((w1.setCell ⟨w.heap.size + 1 + 1, 1, none⟩ (.slice (some ⟨bc, 0, none⟩) nc nc)).setCell ⟨w.heap.size + 1 + 1, 2, none⟩ (.bool ar)) bc 118 (lc.flatMap CPending.cs) from (Blk.far (Blk.far HFc.out (by dsimp only; omega) _) (by dsimp only; omega) _))
  clear hX hR hO hF E 
  go_wp2_with fail
  clear x0 r0 o0 s0 u0 x1 r1 o1 s1 u1 x2 r2 o2 s2 u2 x3 r3 o3 s3 u3
  generalize ((w1.setCell ⟨w.heap.size + 1 + 1, 1, none⟩ (.slice (some ⟨bc, 0, none⟩) nc nc)).setCell ⟨w.heap.size + 1 + 1, 2, none⟩ (.bool ar)) = y2 at HO2 HX2 HR2 HE2 HFs HFc ⊢
  have HQk := Lib.hid (hrk.ext HE2.out)
  refine (toIntS_any Ak nk pk lk _ HLk.out hnk HQk.out).mono ?_
  rintro e w2 ⟨rfl, hF, hs, E⟩
  have HFk := Lib.hid hF
  have HG2 := Lib.hid (HE2.out.trans E)
  have hX := HX2.out.ext E
  have hR := HR2.out.ext E
  have hO := HO2.out.ext E
  have HFs := Lib.hid (HFs.out.ext E)
  have HFc := Lib.hid (HFc.out.ext E)
  have hbk : w.heap.size ≤ y2.heap.size := HE2.out.le
  have hck : w.heap.size + 1 + 1 < y2.heap.size := HO2.out.lt
  generalize y2.heap.size = bk at HFk hbk hck ⊢
  obtain ⟨x0, x1, x2, x3⟩ := hX.cells4
  obtain ⟨r0, r1, r2, r3⟩ := hR.cells4
  obtain ⟨o0, o1, o2, o3⟩ := hO.cells4
  have s0 := hO.frozen 0
  have u0 := hR.frozen 0
  have s1 := hO.frozen 1
  have u1 := hR.frozen 1
  have s2 := hO.frozen 2
  have u2 := hR.frozen 2
  have s3 := hO.frozen 3
  have u3 := hR.frozen 3
  clear hF hs
  go_wp2_with fail
  refine bodyPost_ret (v := .agg #[.slice (some ⟨bs, 0, none⟩) ns ns, .slice (some ⟨bc, 0, none⟩) nc nc, .bool ar, .slice (some ⟨bk, 0, none⟩) nk nk]) (by simp [results, Try.results21, go_sem, r0, r1, r2, r3]) rfl ⟨bs, bc, bk, rfl, hbs, ?_, hbc, ?_, hbk, ?_, ?_⟩
  · exact (Blk.far (Blk.far (Blk.far (Blk.far (Blk.far HFs.out (by dsimp only; omega) _) (by dsimp only; omega) _) (by dsimp only; omega) _) (by dsimp only; omega) _) (by dsimp only; omega) _)
  · exact (Blk.far (Blk.far (Blk.far (Blk.far (Blk.far HFc.out (by dsimp only; omega) _) (by dsimp only; omega) _) (by dsimp only; omega) _) (by dsimp only; omega) _) (by dsimp only; omega) _)
  · exact (Blk.far (Blk.far (Blk.far (Blk.far (Blk.far HFk.out (by dsimp only; omega) _) (by dsimp only; omega) _) (by dsimp only; omega) _) (by dsimp only; omega) _) (by dsimp only; omega) _)
  · exact (Ext.set (Ext.set (Ext.set (Ext.set (Ext.set HG2.out (by dsimp only; omega) _) (by dsimp only; omega) _) (by dsimp only; omega) _) (by dsimp only; omega) _) (by dsimp only; omega) _)
set_option maxHeartbeats 2000000 in
theorem eqDisk_same (As As' : Option Addr) (ns ps ps' : Nat) (Ac Ac' : Option Addr) (nc pc pc' : Nat) (ar : Bool) (Ak Ak' : Option Addr) (nk pk pk' : Nat) (ls : List ByteArray) (lc : List CPending) (lk : List Int) (w : World) (hls : ls.length = ns) (hlc : lc.length = nc) (hlk : lk.length = nk) (hns : ns ≤ 1099511627776) (hnc : nc ≤ 1099511627776) (hnk : nk ≤ 1099511627776) (hrs : Rd w As (ls.map fun c => Value.string c)) (hrc : Rd w Ac (lc.flatMap CPending.cs)) (hrk : Rd w Ak (lk.map fun c => Value.int .i64 c)) (hrs' : Rd w As' (ls.map fun c => Value.string c)) (hrc' : Rd w Ac' (lc.flatMap CPending.cs)) (hrk' : Rd w Ak' (lk.map fun c => Value.int .i64 c)) :
    Calls Try.prog 16 #[.agg #[.slice As ns ps, .slice Ac nc pc, .bool ar, .slice Ak nk pk], .agg #[.slice As' ns ps', .slice Ac' nc pc', .bool ar, .slice Ak' nk pk']] w fun e w' => e = .returned (.bool true) ∧ Ext w w' := by
  have HLs := Lib.hid hls
  have HLc := Lib.hid hlc
  have HLk := Lib.hid hlk
  have HRs := Lib.hid hrs
  have HSs := Lib.hid hrs'
  have HRc := Lib.hid hrc
  have HSc := Lib.hid hrc'
  have HRk := Lib.hid hrk
  have HSk := Lib.hid hrk'
  have E0 : Ext w ((w.alloc (.cells #[.slice As ns ps, .slice Ac nc pc, .bool ar, .slice Ak nk pk] 26)).alloc (.cells #[.slice As' ns ps', .slice Ac' nc pc', .bool ar, .slice Ak' nk pk'] 26)) := (by repeat (first | exact Ext.refl _ | assumption | refine Ext.alloc ?_ _ | refine Ext.drewN ?_ _ | refine Ext.drew ?_ | refine Ext.set ?_ (by dsimp only; omega) _ | refine Ext.trans ?_ (by assumption)))
  have hB2 := Blk.new (w.alloc (.cells #[.slice As ns ps, .slice Ac nc pc, .bool ar, .slice Ak nk pk] 26)) 26 [.slice As' ns ps', .slice Ac' nc pc', .bool ar, .slice Ak' nk pk']
  rw [World.size_alloc] at hB2
  have HB1 := Lib.hid ((Blk.new w 26 [.slice As ns ps, .slice Ac nc pc, .bool ar, .slice Ak nk pk]).alloc (.cells #[.slice As' ns ps', .slice Ac' nc pc', .bool ar, .slice Ak' nk pk'] 26))
  have HB2 := Lib.hid hB2
  have HE0 := Lib.hid E0
  clear hls hrs hrs' hlc hrc hrc' hlk hrk hrk' hB2 E0
  have har : (ar != ar) = false := by simp
  go_enter Try.func16, Try.ntmps16
  go_wp2_with fail
  refine (eqStringS_same As As' ns ps ps' ls _ HLs.out hns (HRs.out.ext HE0.out) (HSs.out.ext HE0.out)).mono ?_
  rintro e w0 ⟨rfl, E, -⟩
  have HE1 := Lib.hid (HE0.out.trans E)
  have HT0 := Lib.hid (E)
  clear E
  obtain ⟨x0, x1, x2, x3⟩ := (HB1.out.ext HT0.out).cells4
  obtain ⟨o0, o1, o2, o3⟩ := (HB2.out.ext HT0.out).cells4
  go_wp2_with fail
  clear x0 o0 x1 o1 x2 o2 x3 o3
  refine (eqPendingS_same Ac Ac' nc pc pc' lc _ HLc.out hnc (HRc.out.ext HE1.out) (HSc.out.ext HE1.out)).mono ?_
  rintro e w1 ⟨rfl, E⟩
  have HE2 := Lib.hid (HE1.out.trans E)
  have HT1 := Lib.hid (HT0.out.trans E)
  clear E
  obtain ⟨x0, x1, x2, x3⟩ := (HB1.out.ext HT1.out).cells4
  obtain ⟨o0, o1, o2, o3⟩ := (HB2.out.ext HT1.out).cells4
  go_wp2_with fail
  clear x0 o0 x1 o1 x2 o2 x3 o3
  refine (eqIntS_same Ak Ak' nk pk pk' lk _ HLk.out hnk (HRk.out.ext HE2.out) (HSk.out.ext HE2.out)).mono ?_
  rintro e w2 ⟨rfl, E, -⟩
  have HE3 := Lib.hid (HE2.out.trans E)
  have HT2 := Lib.hid (HT1.out.trans E)
  clear E
  go_wp2_with fail
  go_ret
  exact ⟨rfl, HE3.out⟩
end Go.Proofs.Ytnbfjkebakaigaa
