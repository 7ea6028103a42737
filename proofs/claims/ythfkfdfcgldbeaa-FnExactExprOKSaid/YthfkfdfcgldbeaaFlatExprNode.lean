/- The walks of the laws' helpers over ExprNode and slices of it (printed by gen_flat.py). -/
import Derived.Test.YthfkfdfcgldbeaaFlat
import Derived.Test.YthfkfdfcgldbeaaFlatValue
import Derived.Test.YthfkfdfcgldbeaaMark
import Derived.Test.YthfkfdfcgldbeaaRg
namespace Go.Proofs.Ythfkfdfcgldbeaa
open Go.RowKit Go.Deep
set_option linter.unusedVariables false
set_option maxRecDepth 100000
structure CExprNode where
  a : Int
  b : Int
  c : Int
  d : Int
  g : Int
  h : Int
  s : ByteArray
/-- its cells -/
def CExprNode.cs (x : CExprNode) : List Value := [.int .i64 x.a, .int .i64 x.b, .int .i64 x.c, .int .i64 x.d, .int .i64 x.g, .int .i64 x.h, .string x.s]
theorem CExprNode.len (x : CExprNode) : x.cs.length = 7 := rfl
set_option maxHeartbeats 4000000 in
theorem toExprNode_any (a b c d g h : Int) (s : ByteArray) (w : World) : Calls Try.prog 117 #[.agg #[.int .i64 a, .int .i64 b, .int .i64 c, .int .i64 d, .int .i64 g, .int .i64 h, .string s]] w fun e w' => e = .returned (.agg #[.int .i64 a, .int .i64 b, .int .i64 c, .int .i64 d, .int .i64 g, .int .i64 h, .string s]) ∧ Ext w w' := by
  have HX0 := Lib.hid (((Blk.new w 153 [.int .i64 a, .int .i64 b, .int .i64 c, .int .i64 d, .int .i64 g, .int .i64 h, .string s]).alloc (.cells #[.int .i64 0, .int .i64 0, .int .i64 0, .int .i64 0, .int .i64 0, .int .i64 0, .string ⟨#[]⟩] 155)).alloc (.cells #[.int .i64 a, .int .i64 b, .int .i64 c, .int .i64 d, .int .i64 0, .int .i64 0, .string ⟨#[]⟩] 155))
  have hR := (Blk.new (w.alloc (.cells #[.int .i64 a, .int .i64 b, .int .i64 c, .int .i64 d, .int .i64 g, .int .i64 h, .string s] 153)) 155 [.int .i64 0, .int .i64 0, .int .i64 0, .int .i64 0, .int .i64 0, .int .i64 0, .string ⟨#[]⟩]).alloc (.cells #[.int .i64 a, .int .i64 b, .int .i64 c, .int .i64 d, .int .i64 0, .int .i64 0, .string ⟨#[]⟩] 155)
  rw [World.size_alloc] at hR
  have hO := Blk.new ((w.alloc (.cells #[.int .i64 a, .int .i64 b, .int .i64 c, .int .i64 d, .int .i64 g, .int .i64 h, .string s] 153)).alloc (.cells #[.int .i64 0, .int .i64 0, .int .i64 0, .int .i64 0, .int .i64 0, .int .i64 0, .string ⟨#[]⟩] 155)) 155 [.int .i64 a, .int .i64 b, .int .i64 c, .int .i64 d, .int .i64 0, .int .i64 0, .string ⟨#[]⟩]
  rw [World.size_alloc, World.size_alloc] at hO
  have HE0 := Lib.hid (show Ext w (((w.alloc (.cells #[.int .i64 a, .int .i64 b, .int .i64 c, .int .i64 d, .int .i64 g, .int .i64 h, .string s] 153)).alloc (.cells #[.int .i64 0, .int .i64 0, .int .i64 0, .int .i64 0, .int .i64 0, .int .i64 0, .string ⟨#[]⟩] 155)).alloc (.cells #[.int .i64 a, .int .i64 b, .int .i64 c, .int .i64 d, .int .i64 0, .int .i64 0, .string ⟨#[]⟩] 155)) from (by repeat (first | exact Ext.refl _ | assumption | refine Ext.alloc ?_ _ | refine Ext.drewN ?_ _ | refine Ext.drew ?_ | refine Ext.set ?_ (by dsimp only; omega) _ | refine Ext.trans ?_ (by assumption))))
  have HR0 := Lib.hid hR
  have HO0 := Lib.hid hO
  clear hR hO
  go_enter Try.func117, Try.ntmps117
  go_wp2_with fail
  generalize ((w.alloc (.cells #[.int .i64 a, .int .i64 b, .int .i64 c, .int .i64 d, .int .i64 g, .int .i64 h, .string s] 153)).alloc (.cells #[.int .i64 0, .int .i64 0, .int .i64 0, .int .i64 0, .int .i64 0, .int .i64 0, .string ⟨#[]⟩] 155)).alloc (.cells #[.int .i64 a, .int .i64 b, .int .i64 c, .int .i64 d, .int .i64 0, .int .i64 0, .string ⟨#[]⟩] 155) = y0 at HX0 HR0 HO0 HE0 ⊢
  refine (toValue_any g h s _).mono ?_
  rintro e w0 ⟨rfl, E⟩
  have HG0 := Lib.hid (HE0.out.trans E)
  have hX := HX0.out.ext E
  have hR := HR0.out.ext E
  have hO := HO0.out.ext E
  have x0 := hX.cell (i := 0) (by simp)
  have x1 := hX.cell (i := 1) (by simp)
  have x2 := hX.cell (i := 2) (by simp)
  have x3 := hX.cell (i := 3) (by simp)
  have x4 := hX.cell (i := 4) (by simp)
  have x5 := hX.cell (i := 5) (by simp)
  have x6 := hX.cell (i := 6) (by simp)
  simp only [List.getElem_cons_zero, List.getElem_cons_succ] at x0 x1 x2 x3 x4 x5 x6
  have r0 := hR.cell (i := 0) (by simp)
  have r1 := hR.cell (i := 1) (by simp)
  have r2 := hR.cell (i := 2) (by simp)
  have r3 := hR.cell (i := 3) (by simp)
  have r4 := hR.cell (i := 4) (by simp)
  have r5 := hR.cell (i := 5) (by simp)
  have r6 := hR.cell (i := 6) (by simp)
  simp only [List.getElem_cons_zero, List.getElem_cons_succ] at r0 r1 r2 r3 r4 r5 r6
  have o0 := hO.cell (i := 0) (by simp)
  have o1 := hO.cell (i := 1) (by simp)
  have o2 := hO.cell (i := 2) (by simp)
  have o3 := hO.cell (i := 3) (by simp)
  have o4 := hO.cell (i := 4) (by simp)
  have o5 := hO.cell (i := 5) (by simp)
  have o6 := hO.cell (i := 6) (by simp)
  simp only [List.getElem_cons_zero, List.getElem_cons_succ] at o0 o1 o2 o3 o4 o5 o6
  have f0 := hO.frozen 0
  have f1 := hO.frozen 1
  have f2 := hO.frozen 2
  have f3 := hO.frozen 3
  have f4 := hO.frozen 4
  have f5 := hO.frozen 5
  have f6 := hO.frozen 6
  have u0 := hR.frozen 0
  have u1 := hR.frozen 1
  have u2 := hR.frozen 2
  have u3 := hR.frozen 3
  have u4 := hR.frozen 4
  have u5 := hR.frozen 5
  have u6 := hR.frozen 6
  clear E
  go_wp2_with fail
  refine bodyPost_ret (v := .agg #[.int .i64 a, .int .i64 b, .int .i64 c, .int .i64 d, .int .i64 g, .int .i64 h, .string s]) (by simp [results, Try.results117, go_sem, r0, r1, r2, r3, r4, r5, r6]) rfl ⟨rfl, ?_⟩
  repeat (refine Ext.set ?_ (by dsimp only; omega) _)
  exact HG0.out
set_option maxHeartbeats 2000000 in
theorem eqExprNode_same (a b c d g h : Int) (s : ByteArray) (w : World) : Calls Try.prog 120 #[.agg #[.int .i64 a, .int .i64 b, .int .i64 c, .int .i64 d, .int .i64 g, .int .i64 h, .string s], .agg #[.int .i64 a, .int .i64 b, .int .i64 c, .int .i64 d, .int .i64 g, .int .i64 h, .string s]] w fun e w' => e = .returned (.bool true) ∧ Ext w w' := by
  have E0 : Ext w ((w.alloc (.cells #[.int .i64 a, .int .i64 b, .int .i64 c, .int .i64 d, .int .i64 g, .int .i64 h, .string s] 155)).alloc (.cells #[.int .i64 a, .int .i64 b, .int .i64 c, .int .i64 d, .int .i64 g, .int .i64 h, .string s] 155)) := (by repeat (first | exact Ext.refl _ | assumption | refine Ext.alloc ?_ _ | refine Ext.drewN ?_ _ | refine Ext.drew ?_ | refine Ext.set ?_ (by dsimp only; omega) _ | refine Ext.trans ?_ (by assumption)))
  have HE0 := Lib.hid E0
  clear E0
  have ha : (a != a) = false := by simp
  have hb : (b != b) = false := by simp
  have hc : (c != c) = false := by simp
  have hd : (d != d) = false := by simp
  go_enter Try.func120, Try.ntmps120
  go_wp2_with fail
  refine (eqValue_same g h s _).mono ?_
  rintro e w0 ⟨rfl, E⟩
  go_wp2_with fail
  go_ret
  exact ⟨rfl, HE0.out.trans E⟩
theorem szExprNode_any (a b c d g h : Int) (s : ByteArray) (left : Int) (w : World) (hs : s.size ≤ maxLen) (h0 : -1 ≤ left) (h1 : left ≤ 1048576) :
    Calls Try.prog 116 #[.agg #[.int .i64 a, .int .i64 b, .int .i64 c, .int .i64 d, .int .i64 g, .int .i64 h, .string s], .int .i64 left] w fun e w' => e = .returned (.int .i64 (if left < s.size then -1 else left - s.size)) ∧ Ext w w' := by
  have hz := fun W => szValue_any g h left s W hs h0 h1
  unfold maxLen at hs
  by_cases hl : left < s.size
  · simp only [if_pos hl] at hz ⊢
    have HZ := Lib.hid hz
    clear hz
    go_enter Try.func116, Try.ntmps116
    go_wp2_with fail
    refine (HZ.out _).mono ?_
    rintro e w0 ⟨rfl, E⟩
    go_wp2_with fail
    go_ret
    exact ⟨rfl, (by repeat (first | exact Ext.refl _ | assumption | refine Ext.alloc ?_ _ | refine Ext.drewN ?_ _ | refine Ext.drew ?_ | refine Ext.set ?_ (by dsimp only; omega) _ | refine Ext.trans ?_ (by assumption)))⟩
  · simp only [if_neg hl] at hz ⊢
    have HZ := Lib.hid hz
    have hlt : ¬ left - (s.size : Int) < 0 := by omega
    clear hz
    go_enter Try.func116, Try.ntmps116
    go_wp2_with fail
    refine (HZ.out _).mono ?_
    rintro e w0 ⟨rfl, E⟩
    go_wp2_with fail
    go_ret
    exact ⟨rfl, (by repeat (first | exact Ext.refl _ | assumption | refine Ext.alloc ?_ _ | refine Ext.drewN ?_ _ | refine Ext.drew ?_ | refine Ext.set ?_ (by dsimp only; omega) _ | refine Ext.trans ?_ (by assumption)))⟩
theorem info_ExprNode : (Try.prog.info? 155).map (fun i => (i.zero, i.size, i.bytes)) = some (some (Value.agg #[.int .i64 0, .int .i64 0, .int .i64 0, .int .i64 0, .int .i64 0, .int .i64 0, .string ByteArray.empty]), 7, 64) := by kernel_rfl
set_option maxHeartbeats 2000000 in
/-- a copy in a block of its own -/
theorem toExprNodeS_any (A : Option Addr) (n cp : Nat) (l : List CExprNode) (w : World) (hl : l.length = n) (hn : n ≤ 1099511627776) (hr : Rd w A (l.flatMap CExprNode.cs)) :
    Calls Try.prog 75 #[.slice A n cp] w fun e w' => e = .returned (.slice (some ⟨w.heap.size, 0, none⟩) n n) ∧ Blk w' w.heap.size 155 (l.flatMap CExprNode.cs) ∧ Ext w w' := by
  have HL := Lib.hid hl
  clear hl
  have hmk := run_make_rowF (P := Try.prog) 52 155 (Value.agg #[.int .i64 0, .int .i64 0, .int .i64 0, .int .i64 0, .int .i64 0, .int .i64 0, .string ByteArray.empty]) #[.int .i64 0, .int .i64 0, .int .i64 0, .int .i64 0, .int .i64 0, .int .i64 0, .string ByteArray.empty] 7 64 rfl Try.underlying52 info_ExprNode n (by omega) (by omega)
  go_enter Try.func75, Try.ntmps75
  go_wp2_with fail
  clear hmk
  go_loopw [4] (fun i wr => ∃ k : Nat, k ≤ n ∧ i = .int .i64 k ∧ Blk wr w.heap.size 155 (fillF CExprNode.cs [.int .i64 0, .int .i64 0, .int .i64 0, .int .i64 0, .int .i64 0, .int .i64 0, .string ByteArray.empty] l k n) ∧ Ext w wr) (fun i _ => n - (intOf i).toNat)
  case atStart => exact ⟨0, Nat.zero_le _, rfl, (Blk.madeF w _ _ n _ rfl).of_eq (fillF_zero _ _ _).symm, (Ext.refl _).alloc _⟩
  case round =>
    obtain ⟨k, hk, rfl, hB, hE⟩ := hrel
    have HB := Lib.hid hB
    clear hB
    by_cases hlt : k < n
    · have hkl : k < l.length := by rw [HL.out]; exact hlt
      obtain ⟨b, o, rfl, hc⟩ := (hr.ext hE).flat CExprNode.len (by decide) hkl
      have c0 : wr.cell? ⟨b, o + k * 7, none⟩ = some (.int .i64 l[k].a) := by exact hc 0 _ rfl
      have c1 : wr.cell? ⟨b, o + k * 7 + 1, none⟩ = some (.int .i64 l[k].b) := by rw [Nat.add_assoc]; exact hc 1 _ rfl
      have c2 : wr.cell? ⟨b, o + k * 7 + 2, none⟩ = some (.int .i64 l[k].c) := by rw [Nat.add_assoc]; exact hc 2 _ rfl
      have c3 : wr.cell? ⟨b, o + k * 7 + 3, none⟩ = some (.int .i64 l[k].d) := by rw [Nat.add_assoc]; exact hc 3 _ rfl
      have c4 : wr.cell? ⟨b, o + k * 7 + 4, none⟩ = some (.int .i64 l[k].g) := by rw [Nat.add_assoc]; exact hc 4 _ rfl
      have c5 : wr.cell? ⟨b, o + k * 7 + 5, none⟩ = some (.int .i64 l[k].h) := by rw [Nat.add_assoc]; exact hc 5 _ rfl
      have c6 : wr.cell? ⟨b, o + k * 7 + 6, none⟩ = some (.string l[k].s) := by rw [Nat.add_assoc]; exact hc 6 _ rfl
      go_wp2_with fail
      refine (toExprNode_any _ _ _ _ _ _ _ wr).mono ?_
      rintro e w1 ⟨rfl, E1⟩
      have HB1 := Lib.hid ((HB.out.ext E1).of_eq (fillF_head _ l k n hlt))
      have HP := Lib.hid (fillF_pre CExprNode.len l k (by omega))
      have d0 : w1.cell? ⟨w.heap.size, k * 7, none⟩ = some (.int .i64 0) := Blk.mid HB1.out HP.out (j := 0) (by first | decide | (simp; done) | simp [CExprNode.cs])
      have d1 : w1.cell? ⟨w.heap.size, k * 7 + 1, none⟩ = some (.int .i64 0) := Blk.mid HB1.out HP.out (j := 1) (by first | decide | (simp; done) | simp [CExprNode.cs])
      have d2 : w1.cell? ⟨w.heap.size, k * 7 + 2, none⟩ = some (.int .i64 0) := Blk.mid HB1.out HP.out (j := 2) (by first | decide | (simp; done) | simp [CExprNode.cs])
      have d3 : w1.cell? ⟨w.heap.size, k * 7 + 3, none⟩ = some (.int .i64 0) := Blk.mid HB1.out HP.out (j := 3) (by first | decide | (simp; done) | simp [CExprNode.cs])
      have d4 : w1.cell? ⟨w.heap.size, k * 7 + 4, none⟩ = some (.int .i64 0) := Blk.mid HB1.out HP.out (j := 4) (by first | decide | (simp; done) | simp [CExprNode.cs])
      have d5 : w1.cell? ⟨w.heap.size, k * 7 + 5, none⟩ = some (.int .i64 0) := Blk.mid HB1.out HP.out (j := 5) (by first | decide | (simp; done) | simp [CExprNode.cs])
      have d6 : w1.cell? ⟨w.heap.size, k * 7 + 6, none⟩ = some (.string ByteArray.empty) := Blk.mid HB1.out HP.out (j := 6) (by first | decide | (simp; done) | simp [CExprNode.cs])
      have f0 := HB1.out.frozen (k * 7)
      have f1 := HB1.out.frozen (k * 7 + 1)
      have f2 := HB1.out.frozen (k * 7 + 2)
      have f3 := HB1.out.frozen (k * 7 + 3)
      have f4 := HB1.out.frozen (k * 7 + 4)
      have f5 := HB1.out.frozen (k * 7 + 5)
      have f6 := HB1.out.frozen (k * 7 + 6)
      clear c0 c1 c2 c3 c4 c5 c6
      go_wp2_with fail
      go_roundw
      case rel => exact ⟨k + 1, by omega, by go_num, (Blk.setMid (Blk.setMid (Blk.setMid (Blk.setMid (Blk.setMid (Blk.setMid (Blk.setMid HB1.out HP.out (j := 0) (by first | decide | (simp; done) | simp [CExprNode.cs]) _) HP.out (j := 1) (by first | decide | (simp; done) | simp [CExprNode.cs]) _) HP.out (j := 2) (by first | decide | (simp; done) | simp [CExprNode.cs]) _) HP.out (j := 3) (by first | decide | (simp; done) | simp [CExprNode.cs]) _) HP.out (j := 4) (by first | decide | (simp; done) | simp [CExprNode.cs]) _) HP.out (j := 5) (by first | decide | (simp; done) | simp [CExprNode.cs]) _) HP.out (j := 6) (by first | decide | (simp; done) | simp [CExprNode.cs]) _).of_eq (fillF_step _ l k n hkl).symm, (Ext.set (Ext.set (Ext.set (Ext.set (Ext.set (Ext.set (Ext.set (hE.trans E1) (Nat.le_refl _) _) (Nat.le_refl _) _) (Nat.le_refl _) _) (Nat.le_refl _) _) (Nat.le_refl _) _) (Nat.le_refl _) _) (Nat.le_refl _) _)⟩
      case measure => simp [intOf]; omega
    · have hk2 : k = n := by omega
      subst hk2
      go_wp2_with fail
      go_ret
      exact ⟨rfl, HB.out.of_eq (fillF_done _ _ _ HL.out), hE⟩
set_option maxHeartbeats 2000000 in
theorem eqExprNodeS_same (A A' : Option Addr) (n cp cp' : Nat) (l : List CExprNode) (w : World) (hl : l.length = n) (hn : n ≤ 1099511627776) (hr : Rd w A (l.flatMap CExprNode.cs)) (hr' : Rd w A' (l.flatMap CExprNode.cs)) :
    Calls Try.prog 78 #[.slice A n cp, .slice A' n cp'] w fun e w' => e = .returned (.bool true) ∧ Ext w w' := by
  have HL := Lib.hid hl
  clear hl
  go_enter Try.func78, Try.ntmps78
  go_wp2_with fail
  go_loopw [5] (fun i wr => ∃ k : Nat, k ≤ n ∧ i = .int .i64 k ∧ Ext w wr) (fun i _ => n - (intOf i).toNat)
  case atStart => exact ⟨0, Nat.zero_le _, rfl, Ext.refl _⟩
  case round =>
    obtain ⟨k, hk, rfl, hE⟩ := hrel
    by_cases hlt : k < n
    · have hkl : k < l.length := by rw [HL.out]; exact hlt
      obtain ⟨b, o, rfl, hc⟩ := (hr.ext hE).flat CExprNode.len (by decide) hkl
      have c0 : wr.cell? ⟨b, o + k * 7, none⟩ = some (.int .i64 l[k].a) := by exact hc 0 _ rfl
      have c1 : wr.cell? ⟨b, o + k * 7 + 1, none⟩ = some (.int .i64 l[k].b) := by rw [Nat.add_assoc]; exact hc 1 _ rfl
      have c2 : wr.cell? ⟨b, o + k * 7 + 2, none⟩ = some (.int .i64 l[k].c) := by rw [Nat.add_assoc]; exact hc 2 _ rfl
      have c3 : wr.cell? ⟨b, o + k * 7 + 3, none⟩ = some (.int .i64 l[k].d) := by rw [Nat.add_assoc]; exact hc 3 _ rfl
      have c4 : wr.cell? ⟨b, o + k * 7 + 4, none⟩ = some (.int .i64 l[k].g) := by rw [Nat.add_assoc]; exact hc 4 _ rfl
      have c5 : wr.cell? ⟨b, o + k * 7 + 5, none⟩ = some (.int .i64 l[k].h) := by rw [Nat.add_assoc]; exact hc 5 _ rfl
      have c6 : wr.cell? ⟨b, o + k * 7 + 6, none⟩ = some (.string l[k].s) := by rw [Nat.add_assoc]; exact hc 6 _ rfl
      obtain ⟨b', o', rfl, hc'⟩ := (hr'.ext hE).flat CExprNode.len (by decide) hkl
      have d0 : wr.cell? ⟨b', o' + k * 7, none⟩ = some (.int .i64 l[k].a) := by exact hc' 0 _ rfl
      have d1 : wr.cell? ⟨b', o' + k * 7 + 1, none⟩ = some (.int .i64 l[k].b) := by rw [Nat.add_assoc]; exact hc' 1 _ rfl
      have d2 : wr.cell? ⟨b', o' + k * 7 + 2, none⟩ = some (.int .i64 l[k].c) := by rw [Nat.add_assoc]; exact hc' 2 _ rfl
      have d3 : wr.cell? ⟨b', o' + k * 7 + 3, none⟩ = some (.int .i64 l[k].d) := by rw [Nat.add_assoc]; exact hc' 3 _ rfl
      have d4 : wr.cell? ⟨b', o' + k * 7 + 4, none⟩ = some (.int .i64 l[k].g) := by rw [Nat.add_assoc]; exact hc' 4 _ rfl
      have d5 : wr.cell? ⟨b', o' + k * 7 + 5, none⟩ = some (.int .i64 l[k].h) := by rw [Nat.add_assoc]; exact hc' 5 _ rfl
      have d6 : wr.cell? ⟨b', o' + k * 7 + 6, none⟩ = some (.string l[k].s) := by rw [Nat.add_assoc]; exact hc' 6 _ rfl
      have hlt2 : (k : Int) < (n : Int) := by omega
      have C0 := Gr.cell c0
      have C1 := Gr.cell c1
      have C2 := Gr.cell c2
      have C3 := Gr.cell c3
      have C4 := Gr.cell c4
      have C5 := Gr.cell c5
      have C6 := Gr.cell c6
      have D0 := Gr.cell d0
      have D1 := Gr.cell d1
      have D2 := Gr.cell d2
      have D3 := Gr.cell d3
      have D4 := Gr.cell d4
      have D5 := Gr.cell d5
      have D6 := Gr.cell d6
      go_wp2_with fail
      (refine wp_region_gr (by kernel_rfl) (by kernel_rfl) ?_; (repeat (first | go_big_quiet_skip | (go_big_quiet_want; go_big_quiet_op; first | go_big_quiet_on | (apply Exists.intro; refine ⟨fun _ => ?_, ?_⟩; (focus ((go_at_call 120; exact Calls.gr (eqExprNode_same _ _ _ _ _ _ _ _)))); go_big_quiet_on)))); refine wpQuiet_nil ?_)
      rintro ⟨w1, E1⟩
      clear C0 C1 C2 C3 C4 C5 C6 D0 D1 D2 D3 D4 D5 D6 c0 c1 c2 c3 c4 c5 c6 d0 d1 d2 d3 d4 d5 d6
      go_wp2_with fail
      go_roundw
      case rel => exact ⟨k + 1, by omega, by go_num, (by repeat (first | exact Ext.refl _ | assumption | refine Ext.alloc ?_ _ | refine Ext.drewN ?_ _ | refine Ext.drew ?_ | refine Ext.set ?_ (by dsimp only; omega) _ | refine Ext.trans ?_ (by assumption)))⟩
      case measure => simp [intOf]; omega
    · have hlt2 : ¬ (k : Int) < (n : Int) := by omega
      go_wp2_with fail
      go_ret
      exact ⟨rfl, hE⟩
set_option maxHeartbeats 2000000 in
theorem szExprNodeS_any (A : Option Addr) (n cp : Nat) (l : List CExprNode) (left : Int) (w : World) (hl : l.length = n) (hn : n ≤ 9223372036854775807) (h0 : 0 ≤ left) (h1 : left ≤ 1048576) (hx : ∀ x ∈ l, x.s.size ≤ maxLen) (hr : Rd w A (l.flatMap CExprNode.cs)) :
    Calls Try.prog 73 #[.slice A n cp, .int .i64 left] w (SzPost w left ((l.length : Int) ≤ left ∧ ∀ x ∈ l, (x.s.size : Int) ≤ left)) := by
  have HL := Lib.hid hl
  have HX := Lib.hid hx
  clear hl hx
  by_cases hb : left < (n : Int)
  · have d : decide (left - (n : Int) < 0) = true := decide_eq_true (by omega)
    go_enter Try.func73, Try.ntmps73
    go_wp2
    go_ret
    exact ⟨-1, rfl, by omega, by omega, fun h => by omega, Ext.refl _⟩
  · have d : decide (left - (n : Int) < 0) = false := decide_eq_false (by omega)
    go_enter Try.func73, Try.ntmps73
    go_wp2
    clear d
    go_loopw [5, 1] (fun i t wr => ∃ (k : Nat) (L : Int), k ≤ n ∧ i = .int .i64 k ∧ t = .int .i64 L ∧ 0 ≤ L ∧ L ≤ left ∧ (∀ q, (hq : q < l.length) → q < k → ((l[q]'hq).s.size : Int) ≤ left) ∧ Ext w wr) (fun i _ _ => n - (intOf i).toNat)
    case atStart => exact ⟨0, _, Nat.zero_le _, rfl, rfl, by omega, by omega, fun q _ h => absurd h (Nat.not_lt_zero _), Ext.refl _⟩
    case round =>
      obtain ⟨k, L, hk, rfl, rfl, hL0, hL1, hq, hE⟩ := hrel
      have HQ := Lib.hid hq
      clear hq
      by_cases hlt : k < n
      · have hkl : k < l.length := by rw [HL.out]; exact hlt
        obtain ⟨b, o, rfl, hc⟩ := (hr.ext hE).flat CExprNode.len (by decide) hkl
        have c0 : wr.cell? ⟨b, o + k * 7, none⟩ = some (.int .i64 l[k].a) := by exact hc 0 _ rfl
        have c1 : wr.cell? ⟨b, o + k * 7 + 1, none⟩ = some (.int .i64 l[k].b) := by rw [Nat.add_assoc]; exact hc 1 _ rfl
        have c2 : wr.cell? ⟨b, o + k * 7 + 2, none⟩ = some (.int .i64 l[k].c) := by rw [Nat.add_assoc]; exact hc 2 _ rfl
        have c3 : wr.cell? ⟨b, o + k * 7 + 3, none⟩ = some (.int .i64 l[k].d) := by rw [Nat.add_assoc]; exact hc 3 _ rfl
        have c4 : wr.cell? ⟨b, o + k * 7 + 4, none⟩ = some (.int .i64 l[k].g) := by rw [Nat.add_assoc]; exact hc 4 _ rfl
        have c5 : wr.cell? ⟨b, o + k * 7 + 5, none⟩ = some (.int .i64 l[k].h) := by rw [Nat.add_assoc]; exact hc 5 _ rfl
        have c6 : wr.cell? ⟨b, o + k * 7 + 6, none⟩ = some (.string l[k].s) := by rw [Nat.add_assoc]; exact hc 6 _ rfl
        have hm := HX.out _ (List.getElem_mem hkl)
        have HZ := Lib.hid (szExprNode_any l[k].a l[k].b l[k].c l[k].d l[k].g l[k].h l[k].s L wr hm (by omega) (by omega))
        unfold maxLen at hm
        by_cases hb2 : L < (l[k].s.size : Int)
        · rw [if_pos hb2] at HZ
          go_wp2_with fail
          refine HZ.out.mono ?_
          rintro e w1 ⟨rfl, E1⟩
          go_wp2_with fail
          go_ret
          exact ⟨-1, rfl, by omega, by omega, fun h => by omega, hE.trans E1⟩
        · rw [if_neg hb2] at HZ
          have d : decide (L - (l[k].s.size : Int) < 0) = false := decide_eq_false (by omega)
          go_wp2_with fail
          refine HZ.out.mono ?_
          rintro e w1 ⟨rfl, E1⟩
          go_wp2_with fail
          go_roundw
          case rel => exact ⟨k + 1, _, by omega, by go_num, rfl, by omega, by omega, fun q hq hqk => by
            rcases Nat.lt_or_ge q k with h | h
            · exact HQ.out q hq h
            · have : q = k := by omega
              subst this; omega, hE.trans E1⟩
          case measure => simp [intOf]; omega
      · have hk2 : k = n := by omega
        subst hk2
        go_wp2_with fail
        go_ret
        exact ⟨L, rfl, by omega, hL1, fun _ => ⟨by rw [HL.out]; omega, fun x hx => by
          obtain ⟨q, hq, rfl⟩ := List.getElem_of_mem hx
          exact HQ.out q hq (by rw [HL.out] at hq; exact hq)⟩, hE⟩
/-- a marked one -/
def mkExprNode : Int → CExprNode := fun k => ⟨k, k + 1, k + 1 + 1, k + 1 + 1 + 1, k + 1 + 1 + 1 + 1, k + 1 + 1 + 1 + 1 + 1, mtext (k + 1 + 1 + 1 + 1 + 1 + 1).toNat⟩
end Go.Proofs.Ythfkfdfcgldbeaa
