/- The walks of the laws' helpers over TreeNode (printed by gen_comp.py). -/
import Derived.Test.YtnbfjkebakaigaaTexts
import Derived.Test.YtnbfjkebakaigaaMarkS
import Derived.Test.YtnbfjkebakaigaaInts
import Derived.Test.YtnbfjkebakaigaaNode
namespace Go.Proofs.Ytnbfjkebakaigaa
open Go.RowKit Go.Deep
set_option linter.unusedVariables false
set_option maxRecDepth 100000
set_option maxHeartbeats 2000000 in
theorem szTreeNode_any (lf : Bool) (Au : Option Addr) (nu pu : Nat) (Ad : Option Addr) (nd pd : Nat) (lu : List ByteArray) (ld : List Int) (left : Int) (w : World) (hlu : lu.length = nu) (hld : ld.length = nd) (hnu : nu ≤ 9223372036854775807) (hnd : nd ≤ 9223372036854775807) (h0 : 0 ≤ left) (h1 : left ≤ 1048576) (hxu : ∀ s ∈ lu, s.size ≤ maxLen) (hru : Rd w Au (lu.map fun c => Value.string c)) (hrd : Rd w Ad (ld.map fun c => Value.int .i64 c)) :
    Calls Try.prog 160 #[.agg #[.bool lf, .slice Au nu pu, .slice Ad nd pd], .int .i64 left] w (SzPost w left ((nu : Int) ≤ left ∧ (nd : Int) ≤ left)) := by
  have HLu := Lib.hid hlu
  have HLd := Lib.hid hld
  have HXu := Lib.hid hxu
  have HRu := Lib.hid hru
  have HRd := Lib.hid hrd
  have HB := Lib.hid (Blk.new w 192 [.bool lf, .slice Au nu pu, .slice Ad nd pd])
  clear hlu hld hru hrd hxu
  go_enter Try.func160, Try.ntmps160
  go_wp2_with fail
  refine (szStringS_any Au nu pu lu left _ HLu.out hnu (by omega) (by omega) HXu.out (HRu.out.ext (by repeat (first | exact Ext.refl _ | assumption | refine Ext.alloc ?_ _ | refine Ext.drewN ?_ _ | refine Ext.drew ?_ | refine Ext.set ?_ (by dsimp only; omega) _ | refine Ext.trans ?_ (by assumption))))).mono ?_
  rintro e w0 ⟨v0, rfl, g0, i0, hG0, E0⟩
  have HG0 := Lib.hid hG0
  clear hG0
  by_cases hv0 : v0 < 0
  · go_wp2_with fail
    go_ret
    exact ⟨-1, rfl, by omega, by omega, fun h => by omega, (by repeat (first | exact Ext.refl _ | assumption | refine Ext.alloc ?_ _ | refine Ext.drewN ?_ _ | refine Ext.drew ?_ | refine Ext.set ?_ (by dsimp only; omega) _ | refine Ext.trans ?_ (by assumption)))⟩
  obtain ⟨z0, z1, z2⟩ := (HB.out.ext E0).cells3
  go_wp2_with fail
  refine (szIntS_any Ad nd pd v0 _ hnd (by omega) (by omega)).mono ?_
  rintro e w1 ⟨v1, rfl, g1, i1, hG1, E1⟩
  have HG1 := Lib.hid hG1
  clear hG1
  by_cases hv1 : v1 < 0
  · go_wp2_with fail
    go_ret
    exact ⟨-1, rfl, by omega, by omega, fun h => by omega, (by repeat (first | exact Ext.refl _ | assumption | refine Ext.alloc ?_ _ | refine Ext.drewN ?_ _ | refine Ext.drew ?_ | refine Ext.set ?_ (by dsimp only; omega) _ | refine Ext.trans ?_ (by assumption)))⟩
  clear z0 z1 z2
  go_wp2_with fail
  go_ret
  exact ⟨v1, rfl, by omega, by omega, fun _ => ⟨(by have := (HG0.out (by omega)).1; rw [HLu.out] at this; omega), (by have := HG1.out (by omega); omega)⟩, (by repeat (first | exact Ext.refl _ | assumption | refine Ext.alloc ?_ _ | refine Ext.drewN ?_ _ | refine Ext.drew ?_ | refine Ext.set ?_ (by dsimp only; omega) _ | refine Ext.trans ?_ (by assumption)))⟩
/-- one in memory of its own -/
def FreshTreeNode (w : World) (Tu : TypeId) (nu : Nat) (Td : TypeId) (nd : Nat) (lf : Bool) (lu : List ByteArray) (ld : List Int) (e : Ending) (w' : World) : Prop :=
  ∃ bu bd, e = .returned (.agg #[.bool lf, .slice (some ⟨bu, 0, none⟩) nu nu, .slice (some ⟨bd, 0, none⟩) nd nd]) ∧ w.heap.size ≤ bu ∧ Blk w' bu Tu (lu.map fun c => Value.string c) ∧ w.heap.size ≤ bd ∧ Blk w' bd Td (ld.map fun c => Value.int .i64 c) ∧ Ext w w'
set_option maxHeartbeats 2000000 in
theorem toTreeNode_any (lf : Bool) (Au : Option Addr) (nu pu : Nat) (Ad : Option Addr) (nd pd : Nat) (lu : List ByteArray) (ld : List Int) (w : World) (hlu : lu.length = nu) (hld : ld.length = nd) (hnu : nu ≤ 1099511627776) (hnd : nd ≤ 1099511627776) (hru : Rd w Au (lu.map fun c => Value.string c)) (hrd : Rd w Ad (ld.map fun c => Value.int .i64 c)) :
    Calls Try.prog 162 #[.agg #[.bool lf, .slice Au nu pu, .slice Ad nd pd]] w (FreshTreeNode w 9 nu 3 nd lf lu ld) := by
  have HLu := Lib.hid hlu
  have HLd := Lib.hid hld
  clear hlu hld
  have HX0 := Lib.hid (((Blk.new w 192 [.bool lf, .slice Au nu pu, .slice Ad nd pd]).alloc (.cells #[.bool false, .slice none 0 0, .slice none 0 0] 193)).alloc (.cells #[.bool lf, .slice none 0 0, .slice none 0 0] 193))
  have hR := (Blk.new (w.alloc (.cells #[.bool lf, .slice Au nu pu, .slice Ad nd pd] 192)) 193 [.bool false, .slice none 0 0, .slice none 0 0]).alloc (.cells #[.bool lf, .slice none 0 0, .slice none 0 0] 193)
  rw [World.size_alloc] at hR
  have hO := Blk.new ((w.alloc (.cells #[.bool lf, .slice Au nu pu, .slice Ad nd pd] 192)).alloc (.cells #[.bool false, .slice none 0 0, .slice none 0 0] 193)) 193 [.bool lf, .slice none 0 0, .slice none 0 0]
  rw [World.size_alloc, World.size_alloc] at hO
  have HE0 := Lib.hid (show Ext w (((w.alloc (.cells #[.bool lf, .slice Au nu pu, .slice Ad nd pd] 192)).alloc (.cells #[.bool false, .slice none 0 0, .slice none 0 0] 193)).alloc (.cells #[.bool lf, .slice none 0 0, .slice none 0 0] 193)) from (by repeat (first | exact Ext.refl _ | assumption | refine Ext.alloc ?_ _ | refine Ext.drewN ?_ _ | refine Ext.drew ?_ | refine Ext.set ?_ (by dsimp only; omega) _ | refine Ext.trans ?_ (by assumption))))
  have HR0 := Lib.hid hR
  have HO0 := Lib.hid hO
  clear hR hO
  go_enter Try.func162, Try.ntmps162
  go_wp2_with fail
  generalize ((w.alloc (.cells #[.bool lf, .slice Au nu pu, .slice Ad nd pd] 192)).alloc (.cells #[.bool false, .slice none 0 0, .slice none 0 0] 193)).alloc (.cells #[.bool lf, .slice none 0 0, .slice none 0 0] 193) = y0 at HX0 HR0 HO0 HE0 ⊢
  have HQu := Lib.hid (hru.ext HE0.out)
  refine (toStringS_any Au nu pu lu _ HLu.out hnu HQu.out).mono ?_
  rintro e w0 ⟨rfl, hF, hs, E⟩
  have HFu := Lib.hid hF
  have HG0 := Lib.hid (HE0.out.trans E)
  have hX := HX0.out.ext E
  have hR := HR0.out.ext E
  have hO := HO0.out.ext E
  have hbu : w.heap.size ≤ y0.heap.size := HE0.out.le
  have hcu : w.heap.size + 1 + 1 < y0.heap.size := HO0.out.lt
  generalize y0.heap.size = bu at HFu hbu hcu ⊢
  obtain ⟨x0, x1, x2⟩ := hX.cells3
  obtain ⟨r0, r1, r2⟩ := hR.cells3
  obtain ⟨o0, o1, o2⟩ := hO.cells3
  have s0 := hO.frozen 0
  have u0 := hR.frozen 0
  have s1 := hO.frozen 1
  have u1 := hR.frozen 1
  have s2 := hO.frozen 2
  have u2 := hR.frozen 2
  have HO1 := Lib.hid (show Blk (w0.setCell ⟨w.heap.size + 1 + 1, 1, none⟩ (.slice (some ⟨bu, 0, none⟩) nu nu)) (w.heap.size + 1 + 1) 193 [.bool lf, .slice (some ⟨bu, 0, none⟩) nu nu, .slice none 0 0] from (hO.set 1 (.slice (some ⟨bu, 0, none⟩) nu nu)))
  have HX1 := Lib.hid (show Blk (w0.setCell ⟨w.heap.size + 1 + 1, 1, none⟩ (.slice (some ⟨bu, 0, none⟩) nu nu)) w.heap.size 192 [.bool lf, .slice Au nu pu, .slice Ad nd pd] from (Blk.far hX (by dsimp only; omega) _))
  have HR1 := Lib.hid (show Blk (w0.setCell ⟨w.heap.size + 1 + 1, 1, none⟩ (.slice (some ⟨bu, 0, none⟩) nu nu)) (w.heap.size + 1) 193 [.bool false, .slice none 0 0, .slice none 0 0] from (Blk.far hR (by dsimp only; omega) _))
  have HE1 := Lib.hid (show Ext w (w0.setCell ⟨w.heap.size + 1 + 1, 1, none⟩ (.slice (some ⟨bu, 0, none⟩) nu nu)) from (Ext.set HG0.out (by dsimp only; omega) _))
  have HFu := Lib.hid (show Blk (w0.setCell ⟨w.heap.size + 1 + 1, 1, none⟩ (.slice (some ⟨bu, 0, none⟩) nu nu)) bu 9 (lu.map fun c => Value.string c) from (Blk.far HFu.out (by dsimp only; omega) _))
  clear hX hR hO hF E hs
  go_wp2_with fail
  clear x0 r0 o0 s0 u0 x1 r1 o1 s1 u1 x2 r2 o2 s2 u2
  generalize (w0.setCell ⟨w.heap.size + 1 + 1, 1, none⟩ (.slice (some ⟨bu, 0, none⟩) nu nu)) = y1 at HO1 HX1 HR1 HE1 HFu ⊢
  have HQd := Lib.hid (hrd.ext HE1.out)
  refine (toIntS_any Ad nd pd ld _ HLd.out hnd HQd.out).mono ?_
  rintro e w1 ⟨rfl, hF, hs, E⟩
  have HFd := Lib.hid hF
  have HG1 := Lib.hid (HE1.out.trans E)
  have hX := HX1.out.ext E
  have hR := HR1.out.ext E
  have hO := HO1.out.ext E
  have HFu := Lib.hid (HFu.out.ext E)
  have hbd : w.heap.size ≤ y1.heap.size := HE1.out.le
  have hcd : w.heap.size + 1 + 1 < y1.heap.size := HO1.out.lt
  generalize y1.heap.size = bd at HFd hbd hcd ⊢
  obtain ⟨x0, x1, x2⟩ := hX.cells3
  obtain ⟨r0, r1, r2⟩ := hR.cells3
  obtain ⟨o0, o1, o2⟩ := hO.cells3
  have s0 := hO.frozen 0
  have u0 := hR.frozen 0
  have s1 := hO.frozen 1
  have u1 := hR.frozen 1
  have s2 := hO.frozen 2
  have u2 := hR.frozen 2
  clear hF hs
  go_wp2_with fail
  refine bodyPost_ret (v := .agg #[.bool lf, .slice (some ⟨bu, 0, none⟩) nu nu, .slice (some ⟨bd, 0, none⟩) nd nd]) (by simp [results, Try.results162, go_sem, r0, r1, r2]) rfl ⟨bu, bd, rfl, hbu, ?_, hbd, ?_, ?_⟩
  · exact (Blk.far (Blk.far (Blk.far (Blk.far HFu.out (by dsimp only; omega) _) (by dsimp only; omega) _) (by dsimp only; omega) _) (by dsimp only; omega) _)
  · exact (Blk.far (Blk.far (Blk.far (Blk.far HFd.out (by dsimp only; omega) _) (by dsimp only; omega) _) (by dsimp only; omega) _) (by dsimp only; omega) _)
  · exact (Ext.set (Ext.set (Ext.set (Ext.set HG1.out (by dsimp only; omega) _) (by dsimp only; omega) _) (by dsimp only; omega) _) (by dsimp only; omega) _)
set_option maxHeartbeats 2000000 in
theorem eqTreeNode_same (lf : Bool) (Au Au' : Option Addr) (nu pu pu' : Nat) (Ad Ad' : Option Addr) (nd pd pd' : Nat) (lu : List ByteArray) (ld : List Int) (w : World) (hlu : lu.length = nu) (hld : ld.length = nd) (hnu : nu ≤ 1099511627776) (hnd : nd ≤ 1099511627776) (hru : Rd w Au (lu.map fun c => Value.string c)) (hrd : Rd w Ad (ld.map fun c => Value.int .i64 c)) (hru' : Rd w Au' (lu.map fun c => Value.string c)) (hrd' : Rd w Ad' (ld.map fun c => Value.int .i64 c)) :
    Calls Try.prog 166 #[.agg #[.bool lf, .slice Au nu pu, .slice Ad nd pd], .agg #[.bool lf, .slice Au' nu pu', .slice Ad' nd pd']] w fun e w' => e = .returned (.bool true) ∧ Ext w w' := by
  have HLu := Lib.hid hlu
  have HLd := Lib.hid hld
  have HRu := Lib.hid hru
  have HSu := Lib.hid hru'
  have HRd := Lib.hid hrd
  have HSd := Lib.hid hrd'
  have E0 : Ext w ((w.alloc (.cells #[.bool lf, .slice Au nu pu, .slice Ad nd pd] 193)).alloc (.cells #[.bool lf, .slice Au' nu pu', .slice Ad' nd pd'] 193)) := (by repeat (first | exact Ext.refl _ | assumption | refine Ext.alloc ?_ _ | refine Ext.drewN ?_ _ | refine Ext.drew ?_ | refine Ext.set ?_ (by dsimp only; omega) _ | refine Ext.trans ?_ (by assumption)))
  have hB2 := Blk.new (w.alloc (.cells #[.bool lf, .slice Au nu pu, .slice Ad nd pd] 193)) 193 [.bool lf, .slice Au' nu pu', .slice Ad' nd pd']
  rw [World.size_alloc] at hB2
  have HB1 := Lib.hid ((Blk.new w 193 [.bool lf, .slice Au nu pu, .slice Ad nd pd]).alloc (.cells #[.bool lf, .slice Au' nu pu', .slice Ad' nd pd'] 193))
  have HB2 := Lib.hid hB2
  have HE0 := Lib.hid E0
  clear hlu hru hru' hld hrd hrd' hB2 E0
  have hlf : (lf != lf) = false := by simp
  go_enter Try.func166, Try.ntmps166
  go_wp2_with fail
  refine (eqStringS_same Au Au' nu pu pu' lu _ HLu.out hnu (HRu.out.ext HE0.out) (HSu.out.ext HE0.out)).mono ?_
  rintro e w0 ⟨rfl, E, -⟩
  have HE1 := Lib.hid (HE0.out.trans E)
  have HT0 := Lib.hid (E)
  clear E
  obtain ⟨x0, x1, x2⟩ := (HB1.out.ext HT0.out).cells3
  obtain ⟨o0, o1, o2⟩ := (HB2.out.ext HT0.out).cells3
  go_wp2_with fail
  clear x0 o0 x1 o1 x2 o2
  refine (eqIntS_same Ad Ad' nd pd pd' ld _ HLd.out hnd (HRd.out.ext HE1.out) (HSd.out.ext HE1.out)).mono ?_
  rintro e w1 ⟨rfl, E, -⟩
  have HE2 := Lib.hid (HE1.out.trans E)
  have HT1 := Lib.hid (HT0.out.trans E)
  clear E
  go_wp2_with fail
  go_ret
  exact ⟨rfl, HE2.out⟩
end Go.Proofs.Ytnbfjkebakaigaa
