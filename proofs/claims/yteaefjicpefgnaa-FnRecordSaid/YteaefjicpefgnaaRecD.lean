/- The walk of the source's drawn record (printed by gen_recd.py). -/
import Derived.Test.YteaefjicpefgnaaRecC
import Derived.Test.YteaefjicpefgnaaRecord
namespace Go.Proofs.Yteaefjicpefgnaa
open Go.RowKit Go.Deep
set_option linter.unusedVariables false
set_option maxRecDepth 100000
/-- a right record of small texts -/
def LrPost (w0 : World) (ls : Int) (e : Ending) (w' : World) : Prop := ∃ (ep tx k p nx pg sl : Int) (bf af : ByteArray), e = .returned (.agg #[.int .i64 ep, .int .i64 ls, .int .i64 tx, .int .i64 k, .int .i64 p, .int .i64 nx, .int .i64 pg, .int .i64 sl, .string bf, .string af]) ∧ recB ep ls tx k p nx pg sl bf af = true ∧ bf.size ≤ 30 ∧ af.size ≤ 30 ∧ Ext w0 w'
theorem LrPost.of {w0 w' : World} {ls : Int} (ep tx k p nx pg sl : Int) (bf af : ByteArray) (h : recB ep ls tx k p nx pg sl bf af = true) (hb : bf.size ≤ 30) (ha : af.size ≤ 30) (E : Ext w0 w') : LrPost w0 ls (.returned (.agg #[.int .i64 ep, .int .i64 ls, .int .i64 tx, .int .i64 k, .int .i64 p, .int .i64 nx, .int .i64 pg, .int .i64 sl, .string bf, .string af])) w' := ⟨ep, tx, k, p, nx, pg, sl, bf, af, rfl, h, hb, ha, E⟩
attribute [irreducible] LrPost
theorem emp_nil : (ByteArray.mk #[]).toList.isEmpty = true := by decide +kernel
theorem rec_6a {x : Int} (hx : 0 ≤ x) (hx2 : x < 2 ∨ x = 0) : recB (1 + x) 1 0 6 0 0 0 0 ⟨#[]⟩ ⟨#[0, 0]⟩ = true := by
  have : ckB (ByteArray.mk #[0, 0]).data.toList 1 = true := by decide +kernel
  unfold recB inB
  rw [if_pos rfl, this, emp_nil]
  simp; omega
theorem rec_6b {x L : Int} {q : Nat} (hx : 0 ≤ x) (hx2 : x < 2 ∨ x = 0) (h1 : 1 < L) (h2 : L ≤ 60) (hq : (q : Int) = L - 1) : recB (1 + x) L 0 6 0 0 0 0 ⟨#[]⟩ ⟨#[1, 1, 1, 1, 1, UInt8.ofNat q]⟩ = true := by
  have e : (UInt8.ofNat q).toNat = q := by rw [UInt8.toNat_ofNat']; omega
  have : ckB (ByteArray.mk #[1, 1, 1, 1, 1, UInt8.ofNat q]).data.toList L = true := by
    show ckB [1, 1, 1, 1, 1, UInt8.ofNat q] L = true
    unfold ckB ckL
    have n1 : ∀ r : List UInt8, nmV ((1 : UInt8) :: r) = 1 := fun r => rfl
    have nq : ∀ r : List UInt8, nmV (UInt8.ofNat q :: r) = q := fun r => e
    simp only [n1, List.tail_cons, ckI, List.isEmpty_cons, Bool.or_false, nq]
    simp [inB]; omega
  unfold recB inB
  rw [if_pos rfl, this, emp_nil]
  simp; omega
theorem rec_1 {x y L : Int} (hx : 0 ≤ x) (hx2 : x < 2 ∨ x = 0) (hy : 0 ≤ y) (hy2 : y < 3 ∨ y = 0) (h1 : 1 ≤ L) (h2 : L ≤ 60) : recB (1 + x) L (1 + y) 1 0 0 0 0 ⟨#[]⟩ ⟨#[]⟩ = true := by
  unfold recB inB
  rw [emp_nil]
  simp; omega
theorem rec_45 {x y z v L : Int} (hx : 0 ≤ x) (hx2 : x < 2 ∨ x = 0) (hy : 0 ≤ y) (hy2 : y < 3 ∨ y = 0) (h1 : 1 < L) (h2 : L ≤ 60) (hz : z = 3 ∨ z = 4) (hv : 0 ≤ v) (hv2 : v < L - 1 ∨ v = 0) : recB (1 + x) L (1 + y) (1 + z) (1 + v) 0 0 0 ⟨#[]⟩ ⟨#[]⟩ = true := by
  unfold recB inB
  rw [emp_nil]
  rcases hz with rfl | rfl <;> (simp; omega)
theorem rec_2 {x y v g s L : Int} {bf af : ByteArray} (hx : 0 ≤ x) (hx2 : x < 2 ∨ x = 0) (hy : 0 ≤ y) (hy2 : y < 3 ∨ y = 0) (h1 : 1 < L) (h2 : L ≤ 60) (hv : 0 ≤ v) (hv2 : v < L - 1 ∨ v = 0) (hg : 0 ≤ g) (hg2 : g < 8 ∨ g = 0) (hs : 0 ≤ s) (hs2 : s < 4 ∨ s = 0) (hb : bf.size ≤ 30) (ha : af.size ≤ 30) : recB (1 + x) L (1 + y) 2 (1 + v) 0 g s bf af = true := by
  unfold recB inB
  simp; omega
theorem rec_3 {x y v g s u L : Int} {af : ByteArray} (hx : 0 ≤ x) (hx2 : x < 2 ∨ x = 0) (hy : 0 ≤ y) (hy2 : y < 3 ∨ y = 0) (h1 : 1 < L) (h2 : L ≤ 60) (hv : 0 ≤ v) (hv2 : v < L - 1 ∨ v = 0) (hg : 0 ≤ g) (hg2 : g < 8 ∨ g = 0) (hs : 0 ≤ s) (hs2 : s < 4 ∨ s = 0) (hu : 0 ≤ u) (hu2 : u < L ∨ u = 0) (ha : af.size ≤ 30) : recB (1 + x) L (1 + y) 3 (1 + v) u g s ⟨#[]⟩ af = true := by
  unfold recB inB
  rw [emp_nil]
  simp; omega
def recAfter : List ByteArray := [⟨#[]⟩, ⟨#[114, 101, 99]⟩, ⟨#[114, 101, 99, 111, 114, 100]⟩]
def recBefore : List ByteArray := [⟨#[]⟩, ⟨#[111, 108, 100]⟩]
theorem recAfter_small : ∀ x ∈ recAfter, x.size ≤ 30 := by
  intro x hx
  simp only [recAfter, List.mem_cons, List.not_mem_nil, or_false] at hx
  rcases hx with rfl | rfl | rfl <;> decide
theorem recBefore_small : ∀ x ∈ recBefore, x.size ≤ 30 := by
  intro x hx
  simp only [recBefore, List.mem_cons, List.not_mem_nil, or_false] at hx
  rcases hx with rfl | rfl <;> decide
theorem Src.setX {w0 w : World} {b K X i : Nat} {T : TypeId} {u : Value} (h : Src w0 w b T K) (hX : w0.heap.size ≤ X) (hne : b ≠ X) : Src w0 (w.setCell ⟨X, i, none⟩ u) b T K := h.far grown_one hX hne
theorem Blk.cells10 {w : World} {b : Nat} {t : TypeId} {a0 a1 a2 a3 a4 a5 a6 a7 a8 a9 : Value} (h : Blk w b t [a0, a1, a2, a3, a4, a5, a6, a7, a8, a9]) : w.cell? ⟨b, 0, none⟩ = some a0 ∧ w.cell? ⟨b, 1, none⟩ = some a1 ∧ w.cell? ⟨b, 2, none⟩ = some a2 ∧ w.cell? ⟨b, 3, none⟩ = some a3 ∧ w.cell? ⟨b, 4, none⟩ = some a4 ∧ w.cell? ⟨b, 5, none⟩ = some a5 ∧ w.cell? ⟨b, 6, none⟩ = some a6 ∧ w.cell? ⟨b, 7, none⟩ = some a7 ∧ w.cell? ⟨b, 8, none⟩ = some a8 ∧ w.cell? ⟨b, 9, none⟩ = some a9 :=
  ⟨h.cell (i := 0) (by simp), h.cell (i := 1) (by simp), h.cell (i := 2) (by simp), h.cell (i := 3) (by simp), h.cell (i := 4) (by simp), h.cell (i := 5) (by simp), h.cell (i := 6) (by simp), h.cell (i := 7) (by simp), h.cell (i := 8) (by simp), h.cell (i := 9) (by simp)⟩
set_option maxHeartbeats 1000000 in
theorem src_nextI (w0 w : World) (b K : Nat) (n : Int) (hS : Src w0 w b 123 K) (hK : K ≤ 1000000000) (h2 : n ≤ 256) :
    Calls Try.prog 105 #[.pointer (some ⟨b, 0, none⟩), .int .i64 n] w fun e w' => (∃ v : Int, e = .returned (.int .i64 v) ∧ 0 ≤ v ∧ (v < n ∨ v = 0)) ∧ Src w0 w' b 123 (K + 1) ∧ w.grownBy w' (some b) := by
  by_cases h1 : n ≤ 1
  · have HS := Lib.hid hS
    clear hS
    go_enter Try.func105, Try.ntmps105
    go_wp2_with fail
    go_ret
    exact ⟨⟨0, rfl, by omega, .inr rfl⟩, HS.out.more (by omega), World.grownBy.refl _ _⟩
  · obtain ⟨m, rfl⟩ := Int.eq_ofNat_of_zero_le (show 0 ≤ n by omega)
    refine (src_next w0 w b K m hS hK (by omega) (by omega)).mono ?_
    rintro e w' ⟨⟨v, rfl, hv⟩, r⟩
    exact ⟨⟨(v : Int), rfl, by omega, .inl (by omega)⟩, r⟩
theorem src_pickN (w0 W : World) (b K a n : Nat) (l : List ByteArray) (ha : W.heap.size = a) (hS : Src w0 W b 123 K) (hK : K ≤ 1000000000) (hl : l.length = n) (h1 : 2 ≤ n) (h2 : n ≤ 256) :
    Calls Try.prog 106 #[.pointer (some ⟨b, 0, none⟩), .slice (some ⟨a, 0, none⟩) n n] (W.alloc (.cells (l.map fun c => Value.string c).toArray 9)) fun e w' => (∃ x, e = .returned (.string x) ∧ x ∈ l) ∧ Src w0 w' b 123 (K + 1) ∧ (W.alloc (.cells (l.map fun c => Value.string c).toArray 9)).grownBy w' (some b) := by
  subst ha
  exact src_pick w0 _ b K _ n n l (hS.ext ((Ext.refl W).alloc _)) hK hl h1 h2 (Blk.new W 9 (l.map fun c => Value.string c)).rd
set_option maxHeartbeats 1000000 in
theorem ret10 {Q : Ending → World → Prop} {tmps : Array Value} {W : World} (c0 c1 c2 c3 c4 c5 c6 c7 c8 c9 : Value) (R : Nat) {dfs : List Deferred} (h4 : tmps[4]? = some (.pointer (some ⟨R, 0, none⟩))) (hd : dfs = []) (hB : Blk W R 57 [c0, c1, c2, c3, c4, c5, c6, c7, c8, c9]) (hQ : Q (.returned (.agg #[c0, c1, c2, c3, c4, c5, c6, c7, c8, c9])) W) :
    bodyPost Try.prog Try.f91 Q .ret ⟨tmps, dfs⟩ W := by
  obtain ⟨p0, p1, p2, p3, p4, p5, p6, p7, p8, p9⟩ := hB.cells10
  refine bodyPost_ret (v := .agg #[c0, c1, c2, c3, c4, c5, c6, c7, c8, c9]) (by simp [results, Try.results91, go_sem, h4, p0, p1, p2, p3, p4, p5, p6, p7, p8, p9]; try rfl) hd hQ
theorem Blk.newS {W : World} {a : Nat} {t : TypeId} {cs : List Value} (h : W.heap.size = a) : Blk (W.alloc (.cells cs.toArray t)) a t cs := h ▸ Blk.new W t cs
theorem spec_l04Check1I (d t : Nat) (q : Int) (hq0 : 0 ≤ q) (hq : q < 256) (w : World) (hD : Blk w d 132 [.int .i64 1, .int .i64 1]) (hT : Blk w t 132 [.int .i64 1, .int .i64 q]) :
    Calls Try.prog 113 #[.slice (some ⟨d, 0, none⟩) 1 1, .slice (some ⟨t, 0, none⟩) 1 1] w fun e w' => e = .returned (.string ⟨#[1, 1, 1, 1, 1, UInt8.ofNat q.toNat]⟩) ∧ Ext w w' := by
  obtain ⟨n, rfl⟩ := Int.eq_ofNat_of_zero_le hq0
  exact spec_l04Check1 d t n (by omega) w hD hT
set_option maxHeartbeats 16000000 in
theorem src_logRecord (w0 w : World) (b K : Nat) (L : Int) (h1 : 1 ≤ L) (h2 : L ≤ 60) (hS : Src w0 w b 123 K) (hK : K ≤ 1000) :
    Calls Try.prog 91 #[.pointer (some ⟨b, 0, none⟩), .int .i64 L] w (LrPost w0 L) := by
  have E0 : Ext w (w.alloc (.cells #[.int .i64 0, .int .i64 0, .int .i64 0, .int .i64 0, .int .i64 0, .int .i64 0, .int .i64 0, .int .i64 0, .string ⟨#[]⟩, .string ⟨#[]⟩] 57)) := (by repeat (first | exact Ext.refl _ | assumption | refine Ext.alloc ?_ _ | refine Ext.drewN ?_ _ | refine Ext.drew ?_ | refine Ext.set ?_ (by dsimp only; omega) _ | refine Ext.trans ?_ (by assumption)))
  have HR := Lib.hid (Blk.new w 57 [.int .i64 0, .int .i64 0, .int .i64 0, .int .i64 0, .int .i64 0, .int .i64 0, .int .i64 0, .int .i64 0, .string ⟨#[]⟩, .string ⟨#[]⟩])
  have HS := Lib.hid (hS.ext E0)
  have hbw := hS.lt
  have hw0 := hS.2.1.le
  clear hS E0
  go_enter Try.func91, Try.ntmps91
  go_wp2_with fail
  refine (src_nextI w0 _ b K 2 HS.out (by omega) (by omega)).mono ?_
  rintro e w1 ⟨⟨x, rfl, hx, hx2⟩, hS1, hG1⟩
  have HS1 := Lib.hid (hS1.more (show _ ≤ K + 1 by omega))
  have HR1 := Lib.hid (HR.out.grown hG1 (by omega))
  have hRl : w.heap.size < w1.heap.size := HR1.out.lt
  clear hS1 hG1 HS HR
  go_wp2_with fail
  refine (src_nextI w0 _ b (K + 1) 3 HS1.out (by omega) (by omega)).mono ?_
  rintro e w2 ⟨⟨y, rfl, hy, hy2⟩, hS2, hG2⟩
  have HS2 := Lib.hid (hS2.more (show _ ≤ K + 2 by omega))
  have HR2 := Lib.hid (HR1.out.grown hG2 (by omega))
  have hRl2 : w.heap.size < w2.heap.size := HR2.out.lt
  clear hS2 hG2 HS1 HR1
  go_wp2_with fail
  refine (src_nextI w0 _ b (K + 2) 6 HS2.out (by omega) (by omega)).mono ?_
  rintro e w3 ⟨⟨z, rfl, hz, hz2⟩, hS3, hG3⟩
  have HS3 := Lib.hid (hS3.more (show _ ≤ K + 3 by omega))
  have HR3 := Lib.hid (HR2.out.grown hG3 (by omega))
  have hRl3 : w.heap.size < w3.heap.size := HR3.out.lt
  clear hS3 hG3 HS2 HR2
  have hb3 := HS3.out.lt
  have hE3 := HS3.out.2.1
  have hle3 := hE3.le
  have HE3 := Lib.hid hE3
  have hbR : b ≠ w.heap.size := by omega
  have hbX : b ≠ w3.heap.size := by omega
  have hRX : w.heap.size ≠ w3.heap.size := by omega
  have hXR : w3.heap.size ≠ w.heap.size := by omega
  clear hE3
  by_cases hz5 : z = 5
  · subst hz5
    go_wp2_with fail
    refine (spec_l04Check0 _ _ _ _ _).mono ?_
    rintro e w4 ⟨rfl, E4⟩
    have E34 : Ext w3 w4 := Ext.trans ((((Ext.refl w3).alloc _).alloc _).alloc _) E4
    have HX4 : Hid (Blk w4 w3.heap.size 57 [.int .i64 (1 + x), .int .i64 L, .int .i64 0, .int .i64 6, .int .i64 0, .int .i64 0, .int .i64 0, .int .i64 0, .string ⟨#[]⟩, .string ⟨#[]⟩]) := Lib.hid (((Blk.new w3 57 [.int .i64 (1 + x), .int .i64 L, .int .i64 0, .int .i64 6, .int .i64 0, .int .i64 0, .int .i64 0, .int .i64 0, .string ⟨#[]⟩, .string ⟨#[]⟩]).ext (((Ext.refl _).alloc _).alloc _)).ext E4)
    have HR4 := Lib.hid (HR3.out.ext E34)
    have HE4 := Lib.hid (HE3.out.trans E34)
    have hl4 := HX4.out.lt
    clear E4 E34 HR3 HE3 HS3
    obtain ⟨c0, c1, c2, c3, c4, c5, c6, c7, c8, c9⟩ := HX4.out.cells10
    have g0 := HX4.out.frozen 0
    have g1 := HX4.out.frozen 1
    have g2 := HX4.out.frozen 2
    have g3 := HX4.out.frozen 3
    have g4 := HX4.out.frozen 4
    have g5 := HX4.out.frozen 5
    have g6 := HX4.out.frozen 6
    have g7 := HX4.out.frozen 7
    have g8 := HX4.out.frozen 8
    have g9 := HX4.out.frozen 9
    by_cases hL : 1 < L
    · go_wp2_with fail
      refine (spec_l04Check1I _ _ (L - 1) (by omega) (by omega) _ ((Blk.newS (cs := [.int .i64 1, .int .i64 1]) (by simp)).ext ((Ext.refl _).alloc _)) (Blk.newS (cs := [.int .i64 1, .int .i64 (L - 1)]) (by simp))).mono ?_
      rintro e w5 ⟨rfl, E5⟩
      have HU1 := Lib.hid (rec_6b (x := x) (L := L) (q := (L - 1).toNat) hx hx2 hL h2 (by omega))
      have hU2 : (ByteArray.mk #[1, 1, 1, 1, 1, UInt8.ofNat (L - 1).toNat]).size ≤ 30 := by show 6 ≤ 30; omega
      generalize (ByteArray.mk #[1, 1, 1, 1, 1, UInt8.ofNat (L - 1).toNat]) = U at HU1 hU2 ⊢
      have E45 : Ext w0 w5 := Ext.trans (((Ext.set HE4.out (p := ⟨w3.heap.size, 9, none⟩) hle3 _).alloc _).alloc _) E5
      have HX5 := Lib.hid (((HX4.out.set 9 (.string ⟨#[0, 0]⟩)).ext (((Ext.refl _).alloc _).alloc _)).ext E5)
      have HR5 := Lib.hid (((HR4.out.far (p := ⟨w3.heap.size, 9, none⟩) hRX (.string ⟨#[0, 0]⟩)).ext (((Ext.refl _).alloc _).alloc _)).ext E5)
      have HE5 := Lib.hid E45
      clear E5 E45 HX4 HR4 HE4
      clear c0 c1 c2 c3 c4 c5 c6 c7 c8 c9 g0 g1 g2 g3 g4 g5 g6 g7 g8 g9
      obtain ⟨c0, c1, c2, c3, c4, c5, c6, c7, c8, c9⟩ := HX5.out.cells10
      have g0 := HX5.out.frozen 0
      have g1 := HX5.out.frozen 1
      have g2 := HX5.out.frozen 2
      have g3 := HX5.out.frozen 3
      have g4 := HX5.out.frozen 4
      have g5 := HX5.out.frozen 5
      have g6 := HX5.out.frozen 6
      have g7 := HX5.out.frozen 7
      have g8 := HX5.out.frozen 8
      have g9 := HX5.out.frozen 9
      have hEE := HE5.out
      obtain ⟨p0, p1, p2, p3, p4, p5, p6, p7, p8, p9⟩ := HR5.out.cells10
      have f0 := HR5.out.frozen 0
      have f1 := HR5.out.frozen 1
      have f2 := HR5.out.frozen 2
      have f3 := HR5.out.frozen 3
      have f4 := HR5.out.frozen 4
      have f5 := HR5.out.frozen 5
      have f6 := HR5.out.frozen 6
      have f7 := HR5.out.frozen 7
      have f8 := HR5.out.frozen 8
      have f9 := HR5.out.frozen 9
      go_wp2_with fail
      refine ret10 (.int .i64 (1 + x)) (.int .i64 L) (.int .i64 0) (.int .i64 6) (.int .i64 0) (.int .i64 0) (.int .i64 0) (.int .i64 0) (.string ⟨#[]⟩) (.string U) w.heap.size rfl rfl (((((((((((HR5.out.far (p := ⟨w3.heap.size, 9, none⟩) hRX _).set 0 (.int .i64 (1 + x))).set 1 (.int .i64 L)).set 2 (.int .i64 0)).set 3 (.int .i64 6)).set 4 (.int .i64 0)).set 5 (.int .i64 0)).set 6 (.int .i64 0)).set 7 (.int .i64 0)).set 8 (.string ⟨#[]⟩)).set 9 (.string U)) ?_
      exact .of (1 + x) 0 6 0 0 0 0 ⟨#[]⟩ U HU1.out (by decide) hU2 (Ext.set (Ext.set (Ext.set (Ext.set (Ext.set (Ext.set (Ext.set (Ext.set (Ext.set (Ext.set (Ext.set hEE (p := ⟨w3.heap.size, 9, none⟩) hle3 _) (p := ⟨w.heap.size, 0, none⟩) hw0 _) (p := ⟨w.heap.size, 1, none⟩) hw0 _) (p := ⟨w.heap.size, 2, none⟩) hw0 _) (p := ⟨w.heap.size, 3, none⟩) hw0 _) (p := ⟨w.heap.size, 4, none⟩) hw0 _) (p := ⟨w.heap.size, 5, none⟩) hw0 _) (p := ⟨w.heap.size, 6, none⟩) hw0 _) (p := ⟨w.heap.size, 7, none⟩) hw0 _) (p := ⟨w.heap.size, 8, none⟩) hw0 _) (p := ⟨w.heap.size, 9, none⟩) hw0 _)
    · obtain rfl : L = 1 := by omega
      have hEE := HE4.out
      obtain ⟨p0, p1, p2, p3, p4, p5, p6, p7, p8, p9⟩ := HR4.out.cells10
      have f0 := HR4.out.frozen 0
      have f1 := HR4.out.frozen 1
      have f2 := HR4.out.frozen 2
      have f3 := HR4.out.frozen 3
      have f4 := HR4.out.frozen 4
      have f5 := HR4.out.frozen 5
      have f6 := HR4.out.frozen 6
      have f7 := HR4.out.frozen 7
      have f8 := HR4.out.frozen 8
      have f9 := HR4.out.frozen 9
      go_wp2_with fail
      refine ret10 (.int .i64 (1 + x)) (.int .i64 1) (.int .i64 0) (.int .i64 6) (.int .i64 0) (.int .i64 0) (.int .i64 0) (.int .i64 0) (.string ⟨#[]⟩) (.string ⟨#[0, 0]⟩) w.heap.size rfl rfl (((((((((((HR4.out.far (p := ⟨w3.heap.size, 9, none⟩) hRX _).set 0 (.int .i64 (1 + x))).set 1 (.int .i64 1)).set 2 (.int .i64 0)).set 3 (.int .i64 6)).set 4 (.int .i64 0)).set 5 (.int .i64 0)).set 6 (.int .i64 0)).set 7 (.int .i64 0)).set 8 (.string ⟨#[]⟩)).set 9 (.string ⟨#[0, 0]⟩)) ?_
      exact .of (1 + x) 0 6 0 0 0 0 ⟨#[]⟩ _ (rec_6a hx hx2) (by decide) (by decide) (Ext.set (Ext.set (Ext.set (Ext.set (Ext.set (Ext.set (Ext.set (Ext.set (Ext.set (Ext.set (Ext.set hEE (p := ⟨w3.heap.size, 9, none⟩) hle3 _) (p := ⟨w.heap.size, 0, none⟩) hw0 _) (p := ⟨w.heap.size, 1, none⟩) hw0 _) (p := ⟨w.heap.size, 2, none⟩) hw0 _) (p := ⟨w.heap.size, 3, none⟩) hw0 _) (p := ⟨w.heap.size, 4, none⟩) hw0 _) (p := ⟨w.heap.size, 5, none⟩) hw0 _) (p := ⟨w.heap.size, 6, none⟩) hw0 _) (p := ⟨w.heap.size, 7, none⟩) hw0 _) (p := ⟨w.heap.size, 8, none⟩) hw0 _) (p := ⟨w.heap.size, 9, none⟩) hw0 _)
  have hn6 : (1 + z == 6) = false := by rw [beq_eq_false_iff_ne]; omega
  by_cases hL : 1 < L
  rotate_left
  · obtain rfl : L = 1 := by omega
    have hEE := HE3.out
    obtain ⟨p0, p1, p2, p3, p4, p5, p6, p7, p8, p9⟩ := HR3.out.cells10
    have f0 := HR3.out.frozen 0
    have f1 := HR3.out.frozen 1
    have f2 := HR3.out.frozen 2
    have f3 := HR3.out.frozen 3
    have f4 := HR3.out.frozen 4
    have f5 := HR3.out.frozen 5
    have f6 := HR3.out.frozen 6
    have f7 := HR3.out.frozen 7
    have f8 := HR3.out.frozen 8
    have f9 := HR3.out.frozen 9
    go_wp2_with fail
    refine ret10 (.int .i64 (1 + x)) (.int .i64 1) (.int .i64 (1 + y)) (.int .i64 1) (.int .i64 0) (.int .i64 0) (.int .i64 0) (.int .i64 0) (.string ⟨#[]⟩) (.string ⟨#[]⟩) w.heap.size rfl rfl (((((((((((HR3.out.set 0 (.int .i64 (1 + x))).set 1 (.int .i64 1)).set 2 (.int .i64 (1 + y))).set 3 (.int .i64 1)).set 4 (.int .i64 0)).set 5 (.int .i64 0)).set 6 (.int .i64 0)).set 7 (.int .i64 0)).set 8 (.string ⟨#[]⟩)).set 9 (.string ⟨#[]⟩)).ext ((Ext.refl _).alloc _)) ?_
    exact .of (1 + x) (1 + y) 1 0 0 0 0 ⟨#[]⟩ ⟨#[]⟩ (rec_1 hx hx2 hy hy2 h1 h2) (by decide) (by decide) ((Ext.set (Ext.set (Ext.set (Ext.set (Ext.set (Ext.set (Ext.set (Ext.set (Ext.set (Ext.set hEE (p := ⟨w.heap.size, 0, none⟩) hw0 _) (p := ⟨w.heap.size, 1, none⟩) hw0 _) (p := ⟨w.heap.size, 2, none⟩) hw0 _) (p := ⟨w.heap.size, 3, none⟩) hw0 _) (p := ⟨w.heap.size, 4, none⟩) hw0 _) (p := ⟨w.heap.size, 5, none⟩) hw0 _) (p := ⟨w.heap.size, 6, none⟩) hw0 _) (p := ⟨w.heap.size, 7, none⟩) hw0 _) (p := ⟨w.heap.size, 8, none⟩) hw0 _) (p := ⟨w.heap.size, 9, none⟩) hw0 _).alloc _)
  have hL1 : (L == 1) = false := by rw [beq_eq_false_iff_ne]; omega
  by_cases hz0 : z = 0
  · subst hz0
    have hEE := HE3.out
    obtain ⟨p0, p1, p2, p3, p4, p5, p6, p7, p8, p9⟩ := HR3.out.cells10
    have f0 := HR3.out.frozen 0
    have f1 := HR3.out.frozen 1
    have f2 := HR3.out.frozen 2
    have f3 := HR3.out.frozen 3
    have f4 := HR3.out.frozen 4
    have f5 := HR3.out.frozen 5
    have f6 := HR3.out.frozen 6
    have f7 := HR3.out.frozen 7
    have f8 := HR3.out.frozen 8
    have f9 := HR3.out.frozen 9
    go_wp2_with fail
    refine ret10 (.int .i64 (1 + x)) (.int .i64 L) (.int .i64 (1 + y)) (.int .i64 1) (.int .i64 0) (.int .i64 0) (.int .i64 0) (.int .i64 0) (.string ⟨#[]⟩) (.string ⟨#[]⟩) w.heap.size rfl rfl (((((((((((HR3.out.set 0 (.int .i64 (1 + x))).set 1 (.int .i64 L)).set 2 (.int .i64 (1 + y))).set 3 (.int .i64 1)).set 4 (.int .i64 0)).set 5 (.int .i64 0)).set 6 (.int .i64 0)).set 7 (.int .i64 0)).set 8 (.string ⟨#[]⟩)).set 9 (.string ⟨#[]⟩)).ext ((Ext.refl _).alloc _)) ?_
    exact .of (1 + x) (1 + y) 1 0 0 0 0 ⟨#[]⟩ ⟨#[]⟩ (rec_1 hx hx2 hy hy2 h1 h2) (by decide) (by decide) ((Ext.set (Ext.set (Ext.set (Ext.set (Ext.set (Ext.set (Ext.set (Ext.set (Ext.set (Ext.set hEE (p := ⟨w.heap.size, 0, none⟩) hw0 _) (p := ⟨w.heap.size, 1, none⟩) hw0 _) (p := ⟨w.heap.size, 2, none⟩) hw0 _) (p := ⟨w.heap.size, 3, none⟩) hw0 _) (p := ⟨w.heap.size, 4, none⟩) hw0 _) (p := ⟨w.heap.size, 5, none⟩) hw0 _) (p := ⟨w.heap.size, 6, none⟩) hw0 _) (p := ⟨w.heap.size, 7, none⟩) hw0 _) (p := ⟨w.heap.size, 8, none⟩) hw0 _) (p := ⟨w.heap.size, 9, none⟩) hw0 _).alloc _)
  have hn1 : (1 + z != 1) = true := by rw [bne_iff_ne]; omega
  by_cases hz34 : z = 3 ∨ z = 4
  · have hn2 : (1 + z == 2) = false := by rw [beq_eq_false_iff_ne]; omega
    have hn3 : (1 + z == 3) = false := by rw [beq_eq_false_iff_ne]; omega
    go_wp2_with fail
    refine (src_nextI w0 _ b (K + 3) (L - 1) (HS3.out.ext ((Ext.refl _).alloc _)) (by omega) (by omega)).mono ?_
    rintro e w4 ⟨⟨v, rfl, hv, hv2⟩, hS4, hG4⟩
    have HX4 : Hid (Blk w4 w3.heap.size 57 [.int .i64 (1 + x), .int .i64 L, .int .i64 (1 + y), .int .i64 (1 + z), .int .i64 0, .int .i64 0, .int .i64 0, .int .i64 0, .string ⟨#[]⟩, .string ⟨#[]⟩]) := Lib.hid ((Blk.new w3 57 [.int .i64 (1 + x), .int .i64 L, .int .i64 (1 + y), .int .i64 (1 + z), .int .i64 0, .int .i64 0, .int .i64 0, .int .i64 0, .string ⟨#[]⟩, .string ⟨#[]⟩]).grown hG4 hbX.symm)
    have HR4 := Lib.hid ((HR3.out.ext ((Ext.refl _).alloc _)).grown hG4 hbR.symm)
    have HE4 := Lib.hid hS4.2.1
    have HS4 := Lib.hid hS4
    have hl4 := HX4.out.lt
    clear hS4 hG4 HS3 HR3 HE3
    obtain ⟨c0, c1, c2, c3, c4, c5, c6, c7, c8, c9⟩ := HX4.out.cells10
    have g0 := HX4.out.frozen 0
    have g1 := HX4.out.frozen 1
    have g2 := HX4.out.frozen 2
    have g3 := HX4.out.frozen 3
    have g4 := HX4.out.frozen 4
    have g5 := HX4.out.frozen 5
    have g6 := HX4.out.frozen 6
    have g7 := HX4.out.frozen 7
    have g8 := HX4.out.frozen 8
    have g9 := HX4.out.frozen 9
    have hEE := HE4.out
    obtain ⟨p0, p1, p2, p3, p4, p5, p6, p7, p8, p9⟩ := HR4.out.cells10
    have f0 := HR4.out.frozen 0
    have f1 := HR4.out.frozen 1
    have f2 := HR4.out.frozen 2
    have f3 := HR4.out.frozen 3
    have f4 := HR4.out.frozen 4
    have f5 := HR4.out.frozen 5
    have f6 := HR4.out.frozen 6
    have f7 := HR4.out.frozen 7
    have f8 := HR4.out.frozen 8
    have f9 := HR4.out.frozen 9
    go_wp2_with fail
    refine ret10 (.int .i64 (1 + x)) (.int .i64 L) (.int .i64 (1 + y)) (.int .i64 (1 + z)) (.int .i64 (1 + v)) (.int .i64 0) (.int .i64 0) (.int .i64 0) (.string ⟨#[]⟩) (.string ⟨#[]⟩) w.heap.size rfl rfl (((((((((((HR4.out.far (p := ⟨w3.heap.size, 4, none⟩) hRX _).set 0 (.int .i64 (1 + x))).set 1 (.int .i64 L)).set 2 (.int .i64 (1 + y))).set 3 (.int .i64 (1 + z))).set 4 (.int .i64 (1 + v))).set 5 (.int .i64 0)).set 6 (.int .i64 0)).set 7 (.int .i64 0)).set 8 (.string ⟨#[]⟩)).set 9 (.string ⟨#[]⟩)) ?_
    exact .of (1 + x) (1 + y) (1 + z) (1 + v) 0 0 0 ⟨#[]⟩ ⟨#[]⟩ (rec_45 hx hx2 hy hy2 hL h2 hz34 hv hv2) (by decide) (by decide) (Ext.set (Ext.set (Ext.set (Ext.set (Ext.set (Ext.set (Ext.set (Ext.set (Ext.set (Ext.set (Ext.set hEE (p := ⟨w3.heap.size, 4, none⟩) hle3 _) (p := ⟨w.heap.size, 0, none⟩) hw0 _) (p := ⟨w.heap.size, 1, none⟩) hw0 _) (p := ⟨w.heap.size, 2, none⟩) hw0 _) (p := ⟨w.heap.size, 3, none⟩) hw0 _) (p := ⟨w.heap.size, 4, none⟩) hw0 _) (p := ⟨w.heap.size, 5, none⟩) hw0 _) (p := ⟨w.heap.size, 6, none⟩) hw0 _) (p := ⟨w.heap.size, 7, none⟩) hw0 _) (p := ⟨w.heap.size, 8, none⟩) hw0 _) (p := ⟨w.heap.size, 9, none⟩) hw0 _)
  by_cases hz1 : z = 1
  · subst hz1
    go_wp2_with fail
    refine (src_nextI w0 _ b (K + 3) (L - 1) (HS3.out.ext ((Ext.refl _).alloc _)) (by omega) (by omega)).mono ?_
    rintro e w4 ⟨⟨v, rfl, hv, hv2⟩, hS4, hG4⟩
    have HX4 : Hid (Blk w4 w3.heap.size 57 [.int .i64 (1 + x), .int .i64 L, .int .i64 (1 + y), .int .i64 2, .int .i64 0, .int .i64 0, .int .i64 0, .int .i64 0, .string ⟨#[]⟩, .string ⟨#[]⟩]) := Lib.hid ((Blk.new w3 57 [.int .i64 (1 + x), .int .i64 L, .int .i64 (1 + y), .int .i64 2, .int .i64 0, .int .i64 0, .int .i64 0, .int .i64 0, .string ⟨#[]⟩, .string ⟨#[]⟩]).grown hG4 hbX.symm)
    have HR4 := Lib.hid ((HR3.out.ext ((Ext.refl _).alloc _)).grown hG4 hbR.symm)
    have HE4 := Lib.hid hS4.2.1
    have HS4 := Lib.hid hS4
    have hl4 := HX4.out.lt
    clear hS4 hG4 HS3 HR3 HE3
    obtain ⟨c0, c1, c2, c3, c4, c5, c6, c7, c8, c9⟩ := HX4.out.cells10
    have g0 := HX4.out.frozen 0
    have g1 := HX4.out.frozen 1
    have g2 := HX4.out.frozen 2
    have g3 := HX4.out.frozen 3
    have g4 := HX4.out.frozen 4
    have g5 := HX4.out.frozen 5
    have g6 := HX4.out.frozen 6
    have g7 := HX4.out.frozen 7
    have g8 := HX4.out.frozen 8
    have g9 := HX4.out.frozen 9
    go_wp2_with fail
    refine (src_nextI w0 _ b (K + 4) 8 (HS4.out.setX hle3 hbX) (by omega) (by omega)).mono ?_
    rintro e w5 ⟨⟨pg, rfl, hpg, hpg2⟩, hS5, hG5⟩
    have HX5 := Lib.hid (((HX4.out.set 4 (.int .i64 (1 + v)))).grown hG5 hbX.symm)
    have HR5 := Lib.hid (((HR4.out.far (p := ⟨w3.heap.size, 4, none⟩) hRX (.int .i64 (1 + v)))).grown hG5 hbR.symm)
    have HE5 := Lib.hid hS5.2.1
    have HS5 := Lib.hid (hS5.more (show _ ≤ K + 5 by omega))
    have hl5 := HX5.out.lt
    clear hS5 hG5 HS4 HR4 HE4 HX4
    clear c0 c1 c2 c3 c4 c5 c6 c7 c8 c9 g0 g1 g2 g3 g4 g5 g6 g7 g8 g9
    obtain ⟨c0, c1, c2, c3, c4, c5, c6, c7, c8, c9⟩ := HX5.out.cells10
    have g0 := HX5.out.frozen 0
    have g1 := HX5.out.frozen 1
    have g2 := HX5.out.frozen 2
    have g3 := HX5.out.frozen 3
    have g4 := HX5.out.frozen 4
    have g5 := HX5.out.frozen 5
    have g6 := HX5.out.frozen 6
    have g7 := HX5.out.frozen 7
    have g8 := HX5.out.frozen 8
    have g9 := HX5.out.frozen 9
    go_wp2_with fail
    refine (src_nextI w0 _ b (K + 5) 4 (HS5.out.setX hle3 hbX) (by omega) (by omega)).mono ?_
    rintro e w6 ⟨⟨sl, rfl, hsl, hsl2⟩, hS6, hG6⟩
    have HX6 := Lib.hid (((HX5.out.set 6 (.int .i64 pg))).grown hG6 hbX.symm)
    have HR6 := Lib.hid (((HR5.out.far (p := ⟨w3.heap.size, 6, none⟩) hRX (.int .i64 pg))).grown hG6 hbR.symm)
    have HE6 := Lib.hid hS6.2.1
    have HS6 := Lib.hid (hS6.more (show _ ≤ K + 6 by omega))
    have hl6 := HX6.out.lt
    clear hS6 hG6 HS5 HR5 HE5 HX5
    clear c0 c1 c2 c3 c4 c5 c6 c7 c8 c9 g0 g1 g2 g3 g4 g5 g6 g7 g8 g9
    obtain ⟨c0, c1, c2, c3, c4, c5, c6, c7, c8, c9⟩ := HX6.out.cells10
    have g0 := HX6.out.frozen 0
    have g1 := HX6.out.frozen 1
    have g2 := HX6.out.frozen 2
    have g3 := HX6.out.frozen 3
    have g4 := HX6.out.frozen 4
    have g5 := HX6.out.frozen 5
    have g6 := HX6.out.frozen 6
    have g7 := HX6.out.frozen 7
    have g8 := HX6.out.frozen 8
    have g9 := HX6.out.frozen 9
    go_wp2_with fail
    refine (src_pickN w0 _ b (K + 6) _ 3 recAfter (by simp) (HS6.out.setX hle3 hbX) (by omega) rfl (by omega) (by omega)).mono ?_
    rintro e w7 ⟨⟨af, rfl, hmaf⟩, hS7, hG7⟩
    have haf := recAfter_small af hmaf
    clear hmaf
    have HX7 := Lib.hid (((HX6.out.set 7 (.int .i64 sl)).ext ((Ext.refl _).alloc _)).grown hG7 hbX.symm)
    have HR7 := Lib.hid (((HR6.out.far (p := ⟨w3.heap.size, 7, none⟩) hRX (.int .i64 sl)).ext ((Ext.refl _).alloc _)).grown hG7 hbR.symm)
    have HE7 := Lib.hid hS7.2.1
    have HS7 := Lib.hid (hS7.more (show _ ≤ K + 7 by omega))
    have hl7 := HX7.out.lt
    clear hS7 hG7 HS6 HR6 HE6 HX6
    clear c0 c1 c2 c3 c4 c5 c6 c7 c8 c9 g0 g1 g2 g3 g4 g5 g6 g7 g8 g9
    obtain ⟨c0, c1, c2, c3, c4, c5, c6, c7, c8, c9⟩ := HX7.out.cells10
    have g0 := HX7.out.frozen 0
    have g1 := HX7.out.frozen 1
    have g2 := HX7.out.frozen 2
    have g3 := HX7.out.frozen 3
    have g4 := HX7.out.frozen 4
    have g5 := HX7.out.frozen 5
    have g6 := HX7.out.frozen 6
    have g7 := HX7.out.frozen 7
    have g8 := HX7.out.frozen 8
    have g9 := HX7.out.frozen 9
    go_wp2_with fail
    refine (src_pickN w0 _ b (K + 7) _ 2 recBefore (by simp) (HS7.out.setX hle3 hbX) (by omega) rfl (by omega) (by omega)).mono ?_
    rintro e w8 ⟨⟨bf, rfl, hmbf⟩, hS8, hG8⟩
    have hbf := recBefore_small bf hmbf
    clear hmbf
    have HX8 := Lib.hid (((HX7.out.set 9 (.string af)).ext ((Ext.refl _).alloc _)).grown hG8 hbX.symm)
    have HR8 := Lib.hid (((HR7.out.far (p := ⟨w3.heap.size, 9, none⟩) hRX (.string af)).ext ((Ext.refl _).alloc _)).grown hG8 hbR.symm)
    have HE8 := Lib.hid hS8.2.1
    have HS8 := Lib.hid (hS8.more (show _ ≤ K + 8 by omega))
    have hl8 := HX8.out.lt
    clear hS8 hG8 HS7 HR7 HE7 HX7
    clear c0 c1 c2 c3 c4 c5 c6 c7 c8 c9 g0 g1 g2 g3 g4 g5 g6 g7 g8 g9
    obtain ⟨c0, c1, c2, c3, c4, c5, c6, c7, c8, c9⟩ := HX8.out.cells10
    have g0 := HX8.out.frozen 0
    have g1 := HX8.out.frozen 1
    have g2 := HX8.out.frozen 2
    have g3 := HX8.out.frozen 3
    have g4 := HX8.out.frozen 4
    have g5 := HX8.out.frozen 5
    have g6 := HX8.out.frozen 6
    have g7 := HX8.out.frozen 7
    have g8 := HX8.out.frozen 8
    have g9 := HX8.out.frozen 9
    have hEE := HE8.out
    obtain ⟨p0, p1, p2, p3, p4, p5, p6, p7, p8, p9⟩ := HR8.out.cells10
    have f0 := HR8.out.frozen 0
    have f1 := HR8.out.frozen 1
    have f2 := HR8.out.frozen 2
    have f3 := HR8.out.frozen 3
    have f4 := HR8.out.frozen 4
    have f5 := HR8.out.frozen 5
    have f6 := HR8.out.frozen 6
    have f7 := HR8.out.frozen 7
    have f8 := HR8.out.frozen 8
    have f9 := HR8.out.frozen 9
    go_wp2_with fail
    refine ret10 (.int .i64 (1 + x)) (.int .i64 L) (.int .i64 (1 + y)) (.int .i64 2) (.int .i64 (1 + v)) (.int .i64 0) (.int .i64 pg) (.int .i64 sl) (.string bf) (.string af) w.heap.size rfl rfl (((((((((((HR8.out.far (p := ⟨w3.heap.size, 8, none⟩) hRX _).set 0 (.int .i64 (1 + x))).set 1 (.int .i64 L)).set 2 (.int .i64 (1 + y))).set 3 (.int .i64 2)).set 4 (.int .i64 (1 + v))).set 5 (.int .i64 0)).set 6 (.int .i64 pg)).set 7 (.int .i64 sl)).set 8 (.string bf)).set 9 (.string af)) ?_
    exact .of (1 + x) (1 + y) 2 (1 + v) 0 pg sl bf af (rec_2 hx hx2 hy hy2 hL h2 hv hv2 hpg hpg2 hsl hsl2 hbf haf) hbf haf (Ext.set (Ext.set (Ext.set (Ext.set (Ext.set (Ext.set (Ext.set (Ext.set (Ext.set (Ext.set (Ext.set hEE (p := ⟨w3.heap.size, 8, none⟩) hle3 _) (p := ⟨w.heap.size, 0, none⟩) hw0 _) (p := ⟨w.heap.size, 1, none⟩) hw0 _) (p := ⟨w.heap.size, 2, none⟩) hw0 _) (p := ⟨w.heap.size, 3, none⟩) hw0 _) (p := ⟨w.heap.size, 4, none⟩) hw0 _) (p := ⟨w.heap.size, 5, none⟩) hw0 _) (p := ⟨w.heap.size, 6, none⟩) hw0 _) (p := ⟨w.heap.size, 7, none⟩) hw0 _) (p := ⟨w.heap.size, 8, none⟩) hw0 _) (p := ⟨w.heap.size, 9, none⟩) hw0 _)
  obtain rfl : z = 2 := by omega
  go_wp2_with fail
  refine (src_nextI w0 _ b (K + 3) (L - 1) (HS3.out.ext ((Ext.refl _).alloc _)) (by omega) (by omega)).mono ?_
  rintro e w4 ⟨⟨v, rfl, hv, hv2⟩, hS4, hG4⟩
  have HX4 : Hid (Blk w4 w3.heap.size 57 [.int .i64 (1 + x), .int .i64 L, .int .i64 (1 + y), .int .i64 3, .int .i64 0, .int .i64 0, .int .i64 0, .int .i64 0, .string ⟨#[]⟩, .string ⟨#[]⟩]) := Lib.hid ((Blk.new w3 57 [.int .i64 (1 + x), .int .i64 L, .int .i64 (1 + y), .int .i64 3, .int .i64 0, .int .i64 0, .int .i64 0, .int .i64 0, .string ⟨#[]⟩, .string ⟨#[]⟩]).grown hG4 hbX.symm)
  have HR4 := Lib.hid ((HR3.out.ext ((Ext.refl _).alloc _)).grown hG4 hbR.symm)
  have HE4 := Lib.hid hS4.2.1
  have HS4 := Lib.hid hS4
  have hl4 := HX4.out.lt
  clear hS4 hG4 HS3 HR3 HE3
  obtain ⟨c0, c1, c2, c3, c4, c5, c6, c7, c8, c9⟩ := HX4.out.cells10
  have g0 := HX4.out.frozen 0
  have g1 := HX4.out.frozen 1
  have g2 := HX4.out.frozen 2
  have g3 := HX4.out.frozen 3
  have g4 := HX4.out.frozen 4
  have g5 := HX4.out.frozen 5
  have g6 := HX4.out.frozen 6
  have g7 := HX4.out.frozen 7
  have g8 := HX4.out.frozen 8
  have g9 := HX4.out.frozen 9
  go_wp2_with fail
  refine (src_nextI w0 _ b (K + 4) 8 (HS4.out.setX hle3 hbX) (by omega) (by omega)).mono ?_
  rintro e w5 ⟨⟨pg, rfl, hpg, hpg2⟩, hS5, hG5⟩
  have HX5 := Lib.hid (((HX4.out.set 4 (.int .i64 (1 + v)))).grown hG5 hbX.symm)
  have HR5 := Lib.hid (((HR4.out.far (p := ⟨w3.heap.size, 4, none⟩) hRX (.int .i64 (1 + v)))).grown hG5 hbR.symm)
  have HE5 := Lib.hid hS5.2.1
  have HS5 := Lib.hid (hS5.more (show _ ≤ K + 5 by omega))
  have hl5 := HX5.out.lt
  clear hS5 hG5 HS4 HR4 HE4 HX4
  clear c0 c1 c2 c3 c4 c5 c6 c7 c8 c9 g0 g1 g2 g3 g4 g5 g6 g7 g8 g9
  obtain ⟨c0, c1, c2, c3, c4, c5, c6, c7, c8, c9⟩ := HX5.out.cells10
  have g0 := HX5.out.frozen 0
  have g1 := HX5.out.frozen 1
  have g2 := HX5.out.frozen 2
  have g3 := HX5.out.frozen 3
  have g4 := HX5.out.frozen 4
  have g5 := HX5.out.frozen 5
  have g6 := HX5.out.frozen 6
  have g7 := HX5.out.frozen 7
  have g8 := HX5.out.frozen 8
  have g9 := HX5.out.frozen 9
  go_wp2_with fail
  refine (src_nextI w0 _ b (K + 5) 4 (HS5.out.setX hle3 hbX) (by omega) (by omega)).mono ?_
  rintro e w6 ⟨⟨sl, rfl, hsl, hsl2⟩, hS6, hG6⟩
  have HX6 := Lib.hid (((HX5.out.set 6 (.int .i64 pg))).grown hG6 hbX.symm)
  have HR6 := Lib.hid (((HR5.out.far (p := ⟨w3.heap.size, 6, none⟩) hRX (.int .i64 pg))).grown hG6 hbR.symm)
  have HE6 := Lib.hid hS6.2.1
  have HS6 := Lib.hid (hS6.more (show _ ≤ K + 6 by omega))
  have hl6 := HX6.out.lt
  clear hS6 hG6 HS5 HR5 HE5 HX5
  clear c0 c1 c2 c3 c4 c5 c6 c7 c8 c9 g0 g1 g2 g3 g4 g5 g6 g7 g8 g9
  obtain ⟨c0, c1, c2, c3, c4, c5, c6, c7, c8, c9⟩ := HX6.out.cells10
  have g0 := HX6.out.frozen 0
  have g1 := HX6.out.frozen 1
  have g2 := HX6.out.frozen 2
  have g3 := HX6.out.frozen 3
  have g4 := HX6.out.frozen 4
  have g5 := HX6.out.frozen 5
  have g6 := HX6.out.frozen 6
  have g7 := HX6.out.frozen 7
  have g8 := HX6.out.frozen 8
  have g9 := HX6.out.frozen 9
  go_wp2_with fail
  refine (src_pickN w0 _ b (K + 6) _ 3 recAfter (by simp) (HS6.out.setX hle3 hbX) (by omega) rfl (by omega) (by omega)).mono ?_
  rintro e w7 ⟨⟨af, rfl, hmaf⟩, hS7, hG7⟩
  have haf := recAfter_small af hmaf
  clear hmaf
  have HX7 := Lib.hid (((HX6.out.set 7 (.int .i64 sl)).ext ((Ext.refl _).alloc _)).grown hG7 hbX.symm)
  have HR7 := Lib.hid (((HR6.out.far (p := ⟨w3.heap.size, 7, none⟩) hRX (.int .i64 sl)).ext ((Ext.refl _).alloc _)).grown hG7 hbR.symm)
  have HE7 := Lib.hid hS7.2.1
  have HS7 := Lib.hid (hS7.more (show _ ≤ K + 7 by omega))
  have hl7 := HX7.out.lt
  clear hS7 hG7 HS6 HR6 HE6 HX6
  clear c0 c1 c2 c3 c4 c5 c6 c7 c8 c9 g0 g1 g2 g3 g4 g5 g6 g7 g8 g9
  obtain ⟨c0, c1, c2, c3, c4, c5, c6, c7, c8, c9⟩ := HX7.out.cells10
  have g0 := HX7.out.frozen 0
  have g1 := HX7.out.frozen 1
  have g2 := HX7.out.frozen 2
  have g3 := HX7.out.frozen 3
  have g4 := HX7.out.frozen 4
  have g5 := HX7.out.frozen 5
  have g6 := HX7.out.frozen 6
  have g7 := HX7.out.frozen 7
  have g8 := HX7.out.frozen 8
  have g9 := HX7.out.frozen 9
  go_wp2_with fail
  refine (src_nextI w0 _ b (K + 7) L (HS7.out.setX hle3 hbX) (by omega) (by omega)).mono ?_
  rintro e w8 ⟨⟨u, rfl, hu, hu2⟩, hS8, hG8⟩
  have HX8 := Lib.hid (((HX7.out.set 9 (.string af))).grown hG8 hbX.symm)
  have HR8 := Lib.hid (((HR7.out.far (p := ⟨w3.heap.size, 9, none⟩) hRX (.string af))).grown hG8 hbR.symm)
  have HE8 := Lib.hid hS8.2.1
  have HS8 := Lib.hid (hS8.more (show _ ≤ K + 8 by omega))
  have hl8 := HX8.out.lt
  clear hS8 hG8 HS7 HR7 HE7 HX7
  clear c0 c1 c2 c3 c4 c5 c6 c7 c8 c9 g0 g1 g2 g3 g4 g5 g6 g7 g8 g9
  obtain ⟨c0, c1, c2, c3, c4, c5, c6, c7, c8, c9⟩ := HX8.out.cells10
  have g0 := HX8.out.frozen 0
  have g1 := HX8.out.frozen 1
  have g2 := HX8.out.frozen 2
  have g3 := HX8.out.frozen 3
  have g4 := HX8.out.frozen 4
  have g5 := HX8.out.frozen 5
  have g6 := HX8.out.frozen 6
  have g7 := HX8.out.frozen 7
  have g8 := HX8.out.frozen 8
  have g9 := HX8.out.frozen 9
  have hEE := HE8.out
  obtain ⟨p0, p1, p2, p3, p4, p5, p6, p7, p8, p9⟩ := HR8.out.cells10
  have f0 := HR8.out.frozen 0
  have f1 := HR8.out.frozen 1
  have f2 := HR8.out.frozen 2
  have f3 := HR8.out.frozen 3
  have f4 := HR8.out.frozen 4
  have f5 := HR8.out.frozen 5
  have f6 := HR8.out.frozen 6
  have f7 := HR8.out.frozen 7
  have f8 := HR8.out.frozen 8
  have f9 := HR8.out.frozen 9
  go_wp2_with fail
  refine ret10 (.int .i64 (1 + x)) (.int .i64 L) (.int .i64 (1 + y)) (.int .i64 3) (.int .i64 (1 + v)) (.int .i64 u) (.int .i64 pg) (.int .i64 sl) (.string ⟨#[]⟩) (.string af) w.heap.size rfl rfl (((((((((((HR8.out.far (p := ⟨w3.heap.size, 5, none⟩) hRX _).set 0 (.int .i64 (1 + x))).set 1 (.int .i64 L)).set 2 (.int .i64 (1 + y))).set 3 (.int .i64 3)).set 4 (.int .i64 (1 + v))).set 5 (.int .i64 u)).set 6 (.int .i64 pg)).set 7 (.int .i64 sl)).set 8 (.string ⟨#[]⟩)).set 9 (.string af)) ?_
  exact .of (1 + x) (1 + y) 3 (1 + v) u pg sl ⟨#[]⟩ af (rec_3 hx hx2 hy hy2 hL h2 hv hv2 hpg hpg2 hsl hsl2 hu hu2 haf) (by decide) haf (Ext.set (Ext.set (Ext.set (Ext.set (Ext.set (Ext.set (Ext.set (Ext.set (Ext.set (Ext.set (Ext.set hEE (p := ⟨w3.heap.size, 5, none⟩) hle3 _) (p := ⟨w.heap.size, 0, none⟩) hw0 _) (p := ⟨w.heap.size, 1, none⟩) hw0 _) (p := ⟨w.heap.size, 2, none⟩) hw0 _) (p := ⟨w.heap.size, 3, none⟩) hw0 _) (p := ⟨w.heap.size, 4, none⟩) hw0 _) (p := ⟨w.heap.size, 5, none⟩) hw0 _) (p := ⟨w.heap.size, 6, none⟩) hw0 _) (p := ⟨w.heap.size, 7, none⟩) hw0 _) (p := ⟨w.heap.size, 8, none⟩) hw0 _) (p := ⟨w.heap.size, 9, none⟩) hw0 _)
end Go.Proofs.Yteaefjicpefgnaa
