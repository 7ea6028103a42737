/- The walk of a value of a key. -/
import Derived.Test.YthfkfdfcgldbeaaKeyR
namespace Go.Proofs.Ythfkfdfcgldbeaa
open Go.RowKit Go.Deep
set_option linter.unusedVariables false
set_option maxRecDepth 100000
theorem rv_int {c : UInt8} {r : List UInt8} (h : c.toNat = 2) : rvV c r = ⟨1, (bigN (tkO r 4) : Int) - 1000000000, ⟨#[]⟩⟩ ∧ rvR c r = tkR r 4 ∧ rvF c r = (tkF r 4 false || !valB 1 ((bigN (tkO r 4) : Int) - 1000000000) ⟨#[]⟩) := by
  have e : rvV c r = ⟨1, (bigN (tkO r 4) : Int) - 1000000000, ⟨#[]⟩⟩ := by unfold rvV; rw [if_pos h]
  refine ⟨e, by unfold rvR; rw [if_pos h], ?_⟩
  unfold rvF; rw [if_pos h, e]; rfl
theorem rv_text {c : UInt8} {r : List UInt8} (h : c.toNat = 3) (h2 : idx0 r < r.length) : rvV c r = ⟨2, 0, ⟨(r.take (idx0 r)).toArray⟩⟩ ∧ rvR c r = r.drop (idx0 r + 1) ∧ rvF c r = !valB 2 0 ⟨(r.take (idx0 r)).toArray⟩ := by
  have e : rvV c r = ⟨2, 0, ⟨(r.take (idx0 r)).toArray⟩⟩ := by unfold rvV; rw [if_neg (by omega), if_pos ⟨h, h2⟩]
  refine ⟨e, by unfold rvR; rw [if_neg (by omega), if_pos ⟨h, h2⟩], ?_⟩
  unfold rvF; rw [if_neg (by omega), if_neg (by intro k; exact k.2 h2), e]; rfl
theorem rv_lack {c : UInt8} {r : List UInt8} (h : c.toNat = 3) (h2 : ¬ idx0 r < r.length) : rvV c r = ⟨2, 0, ⟨#[]⟩⟩ ∧ rvR c r = r ∧ rvF c r = true := by
  have e : rvV c r = ⟨2, 0, ⟨#[]⟩⟩ := by unfold rvV; rw [if_neg (by omega), if_neg (by intro k; exact h2 k.2), h]; rfl
  refine ⟨e, by unfold rvR; rw [if_neg (by omega), if_neg (by intro k; exact h2 k.2)], ?_⟩
  unfold rvF; rw [if_neg (by omega), if_pos ⟨h, h2⟩]
theorem rv_else {c : UInt8} {r : List UInt8} (h : c.toNat ≠ 2) (h2 : c.toNat ≠ 3) : rvV c r = ⟨(c.toNat : Int) - 1, 0, ⟨#[]⟩⟩ ∧ rvR c r = r ∧ rvF c r = !valB ((c.toNat : Int) - 1) 0 ⟨#[]⟩ := by
  have e : rvV c r = ⟨(c.toNat : Int) - 1, 0, ⟨#[]⟩⟩ := by unfold rvV; rw [if_neg h, if_neg (by intro k; exact h2 k.1)]
  refine ⟨e, by unfold rvR; rw [if_neg h, if_neg (by intro k; exact h2 k.1)], ?_⟩
  unfold rvF; rw [if_neg h, if_neg (by intro k; exact h2 k.1), e]; rfl
theorem Blk.cells3v {w : World} {b : Nat} {t : TypeId} {a0 a1 a2 : Value} (h : Blk w b t [a0, a1, a2]) : w.cell? ⟨b, 0, none⟩ = some a0 ∧ w.cell? ⟨b, 1, none⟩ = some a1 ∧ w.cell? ⟨b, 2, none⟩ = some a2 :=
  ⟨h.cell (i := 0) (by simp), h.cell (i := 1) (by simp), h.cell (i := 2) (by simp)⟩
/-- what taking a value leaves -/
def VlPost (w : World) (b : Nat) (T : TypeId) (D : Nat) (v : CValue) (r : List UInt8) (f : Bool) (e : Ending) (w' : World) : Prop :=
  e = .returned (.agg #[.int .i64 v.a, .int .i64 v.b, .string v.c]) ∧ Rdr w' b T D r f ∧ w.grownBy w' (some b)
set_option maxHeartbeats 2000000 in
theorem rdr_value_else (b D : Nat) (c : UInt8) (r : List UInt8) (w : World) (hR : Rdr w b 149 D (c :: r) false) (hD : D ≤ w.heap.size) (h2 : c.toNat ≠ 2) (h3 : c.toNat ≠ 3) :
    Calls Try.prog 114 #[.pointer (some ⟨b, 0, none⟩)] w (VlPost w b 149 D (rvV c r) (rvR c r) (rvF c r)) := by
  obtain ⟨eV, eR, eF⟩ := rv_else (r := r) h2 h3
  rw [eV, eR, eF]
  clear eV eR eF
  have hb := hR.lt
  have HN := Lib.hid (rd_num b D false (c :: r) (w.alloc (.cells #[.int .i64 0, .int .i64 0, .string ⟨#[]⟩] 30)) (hR.ext (by repeat (first | exact Ext.refl _ | assumption | refine Ext.alloc ?_ _ | refine Ext.drewN ?_ _ | refine Ext.drew ?_ | refine Ext.set ?_ (by dsimp only; omega) _ | refine Ext.trans ?_ (by assumption)))))
  have HX := Lib.hid (Blk.new w 30 [.int .i64 0, .int .i64 0, .string ⟨#[]⟩])
  rw [show nmV (c :: r) = c.toNat from rfl] at HN
  have h8 : c.toNat < 256 := c.toNat_lt
  have hk1 : ¬ (c.toNat : Int) - 1 = 1 := by omega
  have hk2 : ¬ (c.toNat : Int) - 1 = 2 := by omega
  clear h2 h3
  generalize c.toNat = m at *
  clear hR
  go_enter Try.func114, Try.ntmps114
  go_wp2_with fail
  refine HN.out.mono ?_
  rintro e w1 ⟨rfl, hR1, hg1⟩
  have HX1 := Lib.hid (show Blk w1 w.heap.size 30 [.int .i64 0, .int .i64 0, .string ⟨#[]⟩] from (hg1.block w.heap.size HX.out.lt (by intro e; injection e with e; omega)).trans HX.out)
  have HG1 := Lib.hid (grown_pre' ((Ext.refl w).alloc (.cells #[.int .i64 0, .int .i64 0, .string ⟨#[]⟩] 30)) hg1)
  have HR1 := Lib.hid (show Rdr w1 b 149 D r false from hR1)
  have hx1 := HX1.out.lt
  clear hR1 hg1 HN HX
  have HV2 := Lib.hid (Blk.new w1 30 [.int .i64 ((m : Int) - 1), .int .i64 0, .string ⟨#[]⟩])
  have HR2 := Lib.hid (rdr_alloc HR1.out (.cells #[.int .i64 ((m : Int) - 1), .int .i64 0, .string ⟨#[]⟩] 30))
  have HX2 := Lib.hid (HX1.out.alloc (.cells #[.int .i64 ((m : Int) - 1), .int .i64 0, .string ⟨#[]⟩] 30))
  have HG2 := Lib.hid (grown_trans HG1.out (grown_ext ((Ext.refl w1).alloc (.cells #[.int .i64 ((m : Int) - 1), .int .i64 0, .string ⟨#[]⟩] 30))))
  have hx2 : w1.heap.size < (w1.alloc (.cells #[.int .i64 ((m : Int) - 1), .int .i64 0, .string ⟨#[]⟩] 30)).heap.size := HV2.out.lt
  have HSZ := Lib.hid (show (⟨#[]⟩ : ByteArray).size ≤ maxLen from by decide)
  have HO := Lib.hid (impl_ValueOK ((m : Int) - 1) 0 ⟨#[]⟩ (w1.alloc (.cells #[.int .i64 ((m : Int) - 1), .int .i64 0, .string ⟨#[]⟩] 30)) HSZ.out)
  obtain ⟨v0, v1, v2⟩ := HV2.out.cells3v
  obtain ⟨RA, Rn, Rcp, RB, hjunk⟩ := HR2.out
  clear hjunk
  obtain ⟨r0, r1⟩ := RB.cells2
  clear RB
  go_wp2_with fail
  generalize (w1.alloc (.cells #[.int .i64 ((m : Int) - 1), .int .i64 0, .string ⟨#[]⟩] 30)) = w2 at *
  clear v0 v1 v2 r0 r1
  refine HO.out.mono ?_
  rintro e w3 ⟨rfl, E3⟩
  generalize hok : valB ((m : Int) - 1) 0 ⟨#[]⟩ = ok
  have HOK := Lib.hid hok
  clear HO hok
  have HR3 := Lib.hid (HR2.out.ext E3)
  have HV3 := Lib.hid (HV2.out.ext E3)
  have HX3 := Lib.hid (HX2.out.ext E3)
  have HG3 := Lib.hid (grown_trans HG2.out (grown_ext E3))
  clear E3 HR2 HV2 HX2 HG2
  obtain ⟨v0, v1, v2⟩ := HV3.out.cells3v
  obtain ⟨RA, Rn, Rcp, RB, hjunk⟩ := HR3.out
  clear hjunk
  obtain ⟨r0, r1⟩ := RB.cells2
  have rf1 := RB.frozen 1
  clear RB
  have HR9 := Lib.hid (rdr_fail HR3.out (!ok))
  have HG9 := Lib.hid (grown_trans HG3.out (grown_one (b := b) (i := 1) (u := .bool (!ok))))
  have HV9 := Lib.hid (Blk.far HV3.out (p := ⟨b, 1, none⟩) (by dsimp only; omega) (.bool (!ok)))
  have HX9 := Lib.hid (Blk.far HX3.out (p := ⟨b, 1, none⟩) (by dsimp only; omega) (.bool (!ok)))
  obtain ⟨z0, z1, z2⟩ := HV9.out.cells3v
  obtain ⟨x0, x1, x2⟩ := HX9.out.cells3v
  have y0 := HX9.out.frozen 0
  have y1 := HX9.out.frozen 1
  have y2 := HX9.out.frozen 2
  go_wp2_with fail
  refine bodyPost_ret (v := .agg #[.int .i64 ((m : Int) - 1), .int .i64 0, .string ⟨#[]⟩]) (by simp [results, Try.results114, go_sem, x0, x1, x2]; try rfl) rfl ?_
  rw [HOK.out]
  exact ⟨rfl, rdr_set (rdr_set (rdr_set HR9.out hD hb) hD hb) hD hb, grown_new (grown_new (grown_new HG9.out (Nat.le_refl _)) (Nat.le_refl _)) (Nat.le_refl _)⟩
set_option maxHeartbeats 2000000 in
theorem rdr_value_int (b D : Nat) (c : UInt8) (r : List UInt8) (w : World) (hR : Rdr w b 149 D (c :: r) false) (hD : D ≤ w.heap.size) (h2 : c.toNat = 2) :
    Calls Try.prog 114 #[.pointer (some ⟨b, 0, none⟩)] w (VlPost w b 149 D (rvV c r) (rvR c r) (rvF c r)) := by
  obtain ⟨eV, eR, eF⟩ := rv_int (r := r) h2
  rw [eV, eR, eF]
  clear eV eR eF
  have hb := hR.lt
  have HN := Lib.hid (rd_num b D false (c :: r) (w.alloc (.cells #[.int .i64 0, .int .i64 0, .string ⟨#[]⟩] 30)) (hR.ext (by repeat (first | exact Ext.refl _ | assumption | refine Ext.alloc ?_ _ | refine Ext.drewN ?_ _ | refine Ext.drew ?_ | refine Ext.set ?_ (by dsimp only; omega) _ | refine Ext.trans ?_ (by assumption)))))
  have HX := Lib.hid (Blk.new w 30 [.int .i64 0, .int .i64 0, .string ⟨#[]⟩])
  rw [show nmV (c :: r) = c.toNat from rfl] at HN
  rw [h2] at HN
  clear h2
  clear hR
  go_enter Try.func114, Try.ntmps114
  go_wp2_with fail
  refine HN.out.mono ?_
  rintro e w1 ⟨rfl, hR1, hg1⟩
  have HX1 := Lib.hid (show Blk w1 w.heap.size 30 [.int .i64 0, .int .i64 0, .string ⟨#[]⟩] from (hg1.block w.heap.size HX.out.lt (by intro e; injection e with e; omega)).trans HX.out)
  have HG1 := Lib.hid (grown_pre' ((Ext.refl w).alloc (.cells #[.int .i64 0, .int .i64 0, .string ⟨#[]⟩] 30)) hg1)
  have HR1 := Lib.hid (show Rdr w1 b 149 D r false from hR1)
  have hx1 := HX1.out.lt
  clear hR1 hg1 HN HX
  have HV2 := Lib.hid (Blk.new w1 30 [.int .i64 1, .int .i64 0, .string ⟨#[]⟩])
  have HR2 := Lib.hid (rdr_alloc HR1.out (.cells #[.int .i64 1, .int .i64 0, .string ⟨#[]⟩] 30))
  have HX2 := Lib.hid (HX1.out.alloc (.cells #[.int .i64 1, .int .i64 0, .string ⟨#[]⟩] 30))
  have HG2 := Lib.hid (grown_trans HG1.out (grown_ext ((Ext.refl w1).alloc (.cells #[.int .i64 1, .int .i64 0, .string ⟨#[]⟩] 30))))
  have hx2 : w1.heap.size < (w1.alloc (.cells #[.int .i64 1, .int .i64 0, .string ⟨#[]⟩] 30)).heap.size := HV2.out.lt
  have HSZ := Lib.hid (show (⟨#[]⟩ : ByteArray).size ≤ maxLen from by decide)
  obtain ⟨v0, v1, v2⟩ := HV2.out.cells3v
  go_wp2_with fail
  clear v0 v1 v2
  generalize (w1.alloc (.cells #[.int .i64 1, .int .i64 0, .string ⟨#[]⟩] 30)) = w2 at *
  refine (rdr_take b 4 D false r w2 HR2.out (by omega)).mono ?_
  rintro e w3 ⟨v3, rfl, hs3, hR3, hg3⟩
  obtain ⟨A3, cap3, rfl, hc1, hc2, hr3⟩ := hs3
  have hL4 := tkO_len r 4
  have hb4 := bigN_lt4 (tkO r 4) (by omega)
  have HBG := Lib.hid (impl_big A3 4 cap3 (tkO r 4) w3 hL4 (by omega) hr3)
  have HR3 := Lib.hid hR3
  have HV3 := Lib.hid (show Blk w3 w1.heap.size 30 [.int .i64 1, .int .i64 0, .string ⟨#[]⟩] from (hg3.block w1.heap.size HV2.out.lt (by intro e; injection e with e; omega)).trans HV2.out)
  have HX3 := Lib.hid (show Blk w3 w.heap.size 30 [.int .i64 0, .int .i64 0, .string ⟨#[]⟩] from (hg3.block w.heap.size HX2.out.lt (by intro e; injection e with e; omega)).trans HX2.out)
  have HG3 := Lib.hid (grown_trans HG2.out hg3)
  clear hR3 hg3 hr3 hc1 hc2 HR2 HV2 HX2 HG2 HR1 HX1 HG1
  generalize bigN (tkO r 4) = bn at *
  generalize tkF r 4 false = f4 at *
  go_wp2_with fail
  refine HBG.out.mono ?_
  rintro e w4 ⟨rfl, rfl⟩
  obtain ⟨v0, v1, v2⟩ := HV3.out.cells3v
  have vf := HV3.out.frozen 1
  have HR4 := Lib.hid (rdr_set (i := 1) (u := .int .i64 ((bn : Int) - 1000000000)) HR3.out (x := w1.heap.size) (by omega) (by omega))
  have HV4 := Lib.hid (show Blk (w3.setCell ⟨w1.heap.size, 1, none⟩ (.int .i64 ((bn : Int) - 1000000000))) w1.heap.size 30 [.int .i64 1, .int .i64 ((bn : Int) - 1000000000), .string ⟨#[]⟩] from HV3.out.set 1 (.int .i64 ((bn : Int) - 1000000000)))
  have HX4 := Lib.hid (Blk.far HX3.out (p := ⟨w1.heap.size, 1, none⟩) (by dsimp only; omega) (.int .i64 ((bn : Int) - 1000000000)))
  have HG4 := Lib.hid (grown_new (x := w1.heap.size) (i := 1) (u := .int .i64 ((bn : Int) - 1000000000)) HG3.out (by omega))
  clear HBG HR3 HV3 HX3 HG3
  obtain ⟨u0, u1, u2⟩ := HV4.out.cells3v
  obtain ⟨RA, Rn, Rcp, RB, hjunk⟩ := HR4.out
  clear hjunk
  obtain ⟨r0, r1⟩ := RB.cells2
  have rf1 := RB.frozen 1
  clear RB
  rcases f4 with _ | _
  · have HO := Lib.hid (impl_ValueOK 1 ((bn : Int) - 1000000000) ⟨#[]⟩ (w3.setCell ⟨w1.heap.size, 1, none⟩ (.int .i64 ((bn : Int) - 1000000000))) HSZ.out)
    clear rf1
    go_wp2_with fail
    clear v0 v1 v2 vf u0 u1 u2 r0 r1
    generalize w3.setCell ⟨w1.heap.size, 1, none⟩ (.int .i64 ((bn : Int) - 1000000000)) = w4 at *
    refine HO.out.mono ?_
    rintro e w5 ⟨rfl, E5⟩
    generalize hok : valB 1 ((bn : Int) - 1000000000) ⟨#[]⟩ = ok
    have HOK := Lib.hid hok
    clear HO hok
    have HR5 := Lib.hid (HR4.out.ext E5)
    have HV5 := Lib.hid (HV4.out.ext E5)
    have HX5 := Lib.hid (HX4.out.ext E5)
    have HG5 := Lib.hid (grown_trans HG4.out (grown_ext E5))
    clear E5 HR4 HV4 HX4 HG4
    obtain ⟨v0, v1, v2⟩ := HV5.out.cells3v
    obtain ⟨RA, Rn, Rcp, RB, hjunk⟩ := HR5.out
    clear hjunk
    obtain ⟨r0, r1⟩ := RB.cells2
    have rf1 := RB.frozen 1
    clear RB
    have HR9 := Lib.hid (rdr_fail HR5.out (!ok))
    have HG9 := Lib.hid (grown_trans HG5.out (grown_one (b := b) (i := 1) (u := .bool (!ok))))
    have HV9 := Lib.hid (Blk.far HV5.out (p := ⟨b, 1, none⟩) (by dsimp only; omega) (.bool (!ok)))
    have HX9 := Lib.hid (Blk.far HX5.out (p := ⟨b, 1, none⟩) (by dsimp only; omega) (.bool (!ok)))
    obtain ⟨z0, z1, z2⟩ := HV9.out.cells3v
    obtain ⟨x0, x1, x2⟩ := HX9.out.cells3v
    have y0 := HX9.out.frozen 0
    have y1 := HX9.out.frozen 1
    have y2 := HX9.out.frozen 2
    go_wp2_with fail
    refine bodyPost_ret (v := .agg #[.int .i64 1, .int .i64 ((bn : Int) - 1000000000), .string ⟨#[]⟩]) (by simp [results, Try.results114, go_sem, x0, x1, x2]; try rfl) rfl ?_
    rw [HOK.out]
    exact ⟨rfl, rdr_set (rdr_set (rdr_set HR9.out hD hb) hD hb) hD hb, grown_new (grown_new (grown_new HG9.out (Nat.le_refl _)) (Nat.le_refl _)) (Nat.le_refl _)⟩
  · have HR9 := Lib.hid (rdr_fail HR4.out true)
    have HG9 := Lib.hid (grown_trans HG4.out (grown_one (b := b) (i := 1) (u := .bool true)))
    have HV9 := Lib.hid (Blk.far HV4.out (p := ⟨b, 1, none⟩) (by dsimp only; omega) (.bool true))
    have HX9 := Lib.hid (Blk.far HX4.out (p := ⟨b, 1, none⟩) (by dsimp only; omega) (.bool true))
    obtain ⟨z0, z1, z2⟩ := HV9.out.cells3v
    obtain ⟨x0, x1, x2⟩ := HX9.out.cells3v
    have y0 := HX9.out.frozen 0
    have y1 := HX9.out.frozen 1
    have y2 := HX9.out.frozen 2
    go_wp2_with fail
    refine bodyPost_ret (v := .agg #[.int .i64 1, .int .i64 ((bn : Int) - 1000000000), .string ⟨#[]⟩]) (by simp [results, Try.results114, go_sem, x0, x1, x2]; try rfl) rfl ?_
    rw [Bool.true_or]
    exact ⟨rfl, rdr_set (rdr_set (rdr_set HR9.out hD hb) hD hb) hD hb, grown_new (grown_new (grown_new HG9.out (Nat.le_refl _)) (Nat.le_refl _)) (Nat.le_refl _)⟩
set_option maxHeartbeats 2000000 in
theorem rdr_value_lack (b D : Nat) (c : UInt8) (r : List UInt8) (w : World) (hR : Rdr w b 149 D (c :: r) false) (hD : D ≤ w.heap.size) (h2 : c.toNat = 3) (h3 : ¬ idx0 r < r.length) (hrl : r.length ≤ 65536) :
    Calls Try.prog 114 #[.pointer (some ⟨b, 0, none⟩)] w (VlPost w b 149 D (rvV c r) (rvR c r) (rvF c r)) := by
  obtain ⟨eV, eR, eF⟩ := rv_lack h2 h3
  rw [eV, eR, eF]
  clear eV eR eF
  have hb := hR.lt
  have HN := Lib.hid (rd_num b D false (c :: r) (w.alloc (.cells #[.int .i64 0, .int .i64 0, .string ⟨#[]⟩] 30)) (hR.ext (by repeat (first | exact Ext.refl _ | assumption | refine Ext.alloc ?_ _ | refine Ext.drewN ?_ _ | refine Ext.drew ?_ | refine Ext.set ?_ (by dsimp only; omega) _ | refine Ext.trans ?_ (by assumption)))))
  have HX := Lib.hid (Blk.new w 30 [.int .i64 0, .int .i64 0, .string ⟨#[]⟩])
  rw [show nmV (c :: r) = c.toNat from rfl] at HN
  rw [h2] at HN
  clear h2
  clear hR
  go_enter Try.func114, Try.ntmps114
  go_wp2_with fail
  refine HN.out.mono ?_
  rintro e w1 ⟨rfl, hR1, hg1⟩
  have HX1 := Lib.hid (show Blk w1 w.heap.size 30 [.int .i64 0, .int .i64 0, .string ⟨#[]⟩] from (hg1.block w.heap.size HX.out.lt (by intro e; injection e with e; omega)).trans HX.out)
  have HG1 := Lib.hid (grown_pre' ((Ext.refl w).alloc (.cells #[.int .i64 0, .int .i64 0, .string ⟨#[]⟩] 30)) hg1)
  have HR1 := Lib.hid (show Rdr w1 b 149 D r false from hR1)
  have hx1 := HX1.out.lt
  clear hR1 hg1 HN HX
  have HV2 := Lib.hid (Blk.new w1 30 [.int .i64 2, .int .i64 0, .string ⟨#[]⟩])
  have HR2 := Lib.hid (rdr_alloc HR1.out (.cells #[.int .i64 2, .int .i64 0, .string ⟨#[]⟩] 30))
  have HX2 := Lib.hid (HX1.out.alloc (.cells #[.int .i64 2, .int .i64 0, .string ⟨#[]⟩] 30))
  have HG2 := Lib.hid (grown_trans HG1.out (grown_ext ((Ext.refl w1).alloc (.cells #[.int .i64 2, .int .i64 0, .string ⟨#[]⟩] 30))))
  have hx2 : w1.heap.size < (w1.alloc (.cells #[.int .i64 2, .int .i64 0, .string ⟨#[]⟩] 30)).heap.size := HV2.out.lt
  obtain ⟨RA, Rn, Rcp, RB, hln, hrc, hrm, hrd, hjunk⟩ := HR2.out
  clear hjunk
  obtain ⟨r0, r1⟩ := RB.cells2
  have rf1 := RB.frozen 1
  have HXI := Lib.hid (index0_any RA Rn Rcp r (w1.alloc (.cells #[.int .i64 2, .int .i64 0, .string ⟨#[]⟩] 30)) hln (by omega) hrd)
  have HLN := Lib.hid hln
  clear RB hrc hrm hrd hln
  obtain ⟨v0, v1, v2⟩ := HV2.out.cells3v
  go_wp2_with fail
  clear v0 v1 v2 r0 r1
  generalize (w1.alloc (.cells #[.int .i64 2, .int .i64 0, .string ⟨#[]⟩] 30)) = w2 at *
  refine HXI.out.mono ?_
  rintro e w3 ⟨rfl, rfl⟩
  clear HXI HR1 HX1 HG1
  rw [show idxI r = -1 from if_neg h3]
  have HR9 := Lib.hid (rdr_fail HR2.out true)
  have HG9 := Lib.hid (grown_trans HG2.out (grown_one (b := b) (i := 1) (u := .bool true)))
  have HV9 := Lib.hid (Blk.far HV2.out (p := ⟨b, 1, none⟩) (by dsimp only; omega) (.bool true))
  have HX9 := Lib.hid (Blk.far HX2.out (p := ⟨b, 1, none⟩) (by dsimp only; omega) (.bool true))
  obtain ⟨RA2, Rn2, Rcp2, RB, hjunk⟩ := HR2.out
  clear hjunk
  obtain ⟨r0, r1⟩ := RB.cells2
  clear RB
  obtain ⟨z0, z1, z2⟩ := HV9.out.cells3v
  obtain ⟨x0, x1, x2⟩ := HX9.out.cells3v
  have y0 := HX9.out.frozen 0
  have y1 := HX9.out.frozen 1
  have y2 := HX9.out.frozen 2
  go_wp2_with fail
  refine bodyPost_ret (v := .agg #[.int .i64 2, .int .i64 0, .string ⟨#[]⟩]) (by simp [results, Try.results114, go_sem, x0, x1, x2]; try rfl) rfl ?_
  exact ⟨rfl, rdr_set (rdr_set (rdr_set HR9.out hD hb) hD hb) hD hb, grown_new (grown_new (grown_new HG9.out (Nat.le_refl _)) (Nat.le_refl _)) (Nat.le_refl _)⟩
set_option maxHeartbeats 2000000 in
theorem rdr_value_text (b D : Nat) (c : UInt8) (r : List UInt8) (w : World) (hR : Rdr w b 149 D (c :: r) false) (hD : D ≤ w.heap.size) (h2 : c.toNat = 3) (h3 : idx0 r < r.length) (hrl : r.length ≤ 65536) :
    Calls Try.prog 114 #[.pointer (some ⟨b, 0, none⟩)] w (VlPost w b 149 D (rvV c r) (rvR c r) (rvF c r)) := by
  obtain ⟨eV, eR, eF⟩ := rv_text h2 h3
  rw [eV, eR, eF]
  generalize hs : (⟨(r.take (idx0 r)).toArray⟩ : ByteArray) = s
  generalize hdr : r.drop (idx0 r + 1) = dr
  have HS := Lib.hid hs
  have HDQ := Lib.hid hdr
  clear hs hdr
  clear eV eR eF
  have hb := hR.lt
  have HN := Lib.hid (rd_num b D false (c :: r) (w.alloc (.cells #[.int .i64 0, .int .i64 0, .string ⟨#[]⟩] 30)) (hR.ext (by repeat (first | exact Ext.refl _ | assumption | refine Ext.alloc ?_ _ | refine Ext.drewN ?_ _ | refine Ext.drew ?_ | refine Ext.set ?_ (by dsimp only; omega) _ | refine Ext.trans ?_ (by assumption)))))
  have HX := Lib.hid (Blk.new w 30 [.int .i64 0, .int .i64 0, .string ⟨#[]⟩])
  rw [show nmV (c :: r) = c.toNat from rfl] at HN
  rw [h2] at HN
  clear h2
  clear hR
  go_enter Try.func114, Try.ntmps114
  go_wp2_with fail
  refine HN.out.mono ?_
  rintro e w1 ⟨rfl, hR1, hg1⟩
  have HX1 := Lib.hid (show Blk w1 w.heap.size 30 [.int .i64 0, .int .i64 0, .string ⟨#[]⟩] from (hg1.block w.heap.size HX.out.lt (by intro e; injection e with e; omega)).trans HX.out)
  have HG1 := Lib.hid (grown_pre' ((Ext.refl w).alloc (.cells #[.int .i64 0, .int .i64 0, .string ⟨#[]⟩] 30)) hg1)
  have HR1 := Lib.hid (show Rdr w1 b 149 D r false from hR1)
  have hx1 := HX1.out.lt
  clear hR1 hg1 HN HX
  have HV2 := Lib.hid (Blk.new w1 30 [.int .i64 2, .int .i64 0, .string ⟨#[]⟩])
  have HR2 := Lib.hid (rdr_alloc HR1.out (.cells #[.int .i64 2, .int .i64 0, .string ⟨#[]⟩] 30))
  have HX2 := Lib.hid (HX1.out.alloc (.cells #[.int .i64 2, .int .i64 0, .string ⟨#[]⟩] 30))
  have HG2 := Lib.hid (grown_trans HG1.out (grown_ext ((Ext.refl w1).alloc (.cells #[.int .i64 2, .int .i64 0, .string ⟨#[]⟩] 30))))
  have hx2 : w1.heap.size < (w1.alloc (.cells #[.int .i64 2, .int .i64 0, .string ⟨#[]⟩] 30)).heap.size := HV2.out.lt
  obtain ⟨RA, Rn, Rcp, RB, hln, hrc, hrm, hrd, hjunk⟩ := HR2.out
  clear hjunk
  obtain ⟨r0, r1⟩ := RB.cells2
  have rf1 := RB.frozen 1
  have HXI := Lib.hid (index0_any RA Rn Rcp r (w1.alloc (.cells #[.int .i64 2, .int .i64 0, .string ⟨#[]⟩] 30)) hln (by omega) hrd)
  have HLN := Lib.hid hln
  clear RB hrc hrm hrd hln
  obtain ⟨v0, v1, v2⟩ := HV2.out.cells3v
  go_wp2_with fail
  clear v0 v1 v2 r0 r1
  generalize (w1.alloc (.cells #[.int .i64 2, .int .i64 0, .string ⟨#[]⟩] 30)) = w2 at *
  refine HXI.out.mono ?_
  rintro e w3 ⟨rfl, rfl⟩
  clear HXI HR1 HX1 HG1
  rw [show idxI r = (idx0 r : Int) from if_pos h3]
  have HT := Lib.hid (rdr_take b (idx0 r) D false r w2 HR2.out (by omega))
  rw [show tkO r (idx0 r) = r.take (idx0 r) from if_pos (by omega), show tkR r (idx0 r) = r.drop (idx0 r) from if_pos (by omega), show tkF r (idx0 r) false = false from by unfold tkF; rw [decide_eq_false (by omega)]; rfl] at HT
  have HDR := Lib.hid (show (r.drop (idx0 r)).tail = dr from by rw [List.tail_drop]; exact HDQ.out)
  have HDE := Lib.hid (show (r.drop (idx0 r)).isEmpty = false from by rw [List.isEmpty_eq_false_iff]; intro e; have := congrArg List.length e; rw [List.length_drop] at this; simp at this; omega)
  clear HDQ
  generalize r.take (idx0 r) = tl at HT HS
  generalize hdl : r.drop (idx0 r) = dl at HT HDR HDE
  generalize hq : idx0 r = q at *
  have hq0 : ¬ (q : Int) < 0 := by omega
  have hq2 : (q : Int) ≤ 65536 := by omega
  clear hdl hq h3 hrl rf1 HLN
  go_wp2_with fail
  refine HT.out.mono ?_
  rintro e w3 ⟨v3, rfl, hs3, hR3, hg3⟩
  obtain ⟨A3, cap3, rfl, hc1, hc2, hr3⟩ := hs3
  have hcv := run_text (P := Try.prog) (src := 27) (dst := 9) Try.underlying27 Try.underlying5 Try.underlying9 w3 A3 tl.length cap3 tl rfl hr3
  rw [HS.out] at hcv
  have HSZ := Lib.hid (show s.size ≤ maxLen from by rw [← HS.out]; show tl.toArray.size ≤ maxLen; simp; omega)
  clear HS
  have HR3 := Lib.hid hR3
  have HV3 := Lib.hid (show Blk w3 w1.heap.size 30 [.int .i64 2, .int .i64 0, .string ⟨#[]⟩] from (hg3.block w1.heap.size HV2.out.lt (by intro e; injection e with e; omega)).trans HV2.out)
  have HX3 := Lib.hid (show Blk w3 w.heap.size 30 [.int .i64 0, .int .i64 0, .string ⟨#[]⟩] from (hg3.block w.heap.size HX2.out.lt (by intro e; injection e with e; omega)).trans HX2.out)
  have HG3 := Lib.hid (grown_trans HG2.out hg3)
  clear hR3 hg3 hr3 hc1 hc2 HR2 HV2 HX2 HG2 HT
  have HV4 := Lib.hid (show Blk (w3.setCell ⟨w1.heap.size, 2, none⟩ (.string s)) w1.heap.size 30 [.int .i64 2, .int .i64 0, .string s] from HV3.out.set 2 (.string s))
  have HX4 := Lib.hid (Blk.far HX3.out (p := ⟨w1.heap.size, 2, none⟩) (by dsimp only; omega) (.string s))
  have HG4 := Lib.hid (grown_new (x := w1.heap.size) (i := 2) (u := .string s) HG3.out (by omega))
  have HR4 := Lib.hid (rdr_set (i := 2) (u := .string s) HR3.out (x := w1.heap.size) (by omega) (by omega))
  have HT4 := Lib.hid (rdr_take b 1 D false dl (w3.setCell ⟨w1.heap.size, 2, none⟩ (.string s)) HR4.out (by omega))
  rw [tkR_one, tkF_one, HDR.out, HDE.out] at HT4
  obtain ⟨v0, v1, v2⟩ := HV3.out.cells3v
  have vf := HV3.out.frozen 2
  clear HR3 HX3 HG3
  go_wp2_with fail
  clear v0 v1 v2 vf HV3 hcv HDR HDE
  generalize w3.setCell ⟨w1.heap.size, 2, none⟩ (.string s) = w4 at *
  refine HT4.out.mono ?_
  rintro e w5 ⟨v5, rfl, hs5, hR5, hg5⟩
  have HR5 := Lib.hid (show Rdr w5 b 149 D dr false from hR5)
  have HV5 := Lib.hid (show Blk w5 w1.heap.size 30 [.int .i64 2, .int .i64 0, .string s] from (hg5.block w1.heap.size HV4.out.lt (by intro e; injection e with e; omega)).trans HV4.out)
  have HX5 := Lib.hid (show Blk w5 w.heap.size 30 [.int .i64 0, .int .i64 0, .string ⟨#[]⟩] from (hg5.block w.heap.size HX4.out.lt (by intro e; injection e with e; omega)).trans HX4.out)
  have HG5 := Lib.hid (grown_trans HG4.out hg5)
  clear hs5 hR5 hg5 HR4 HV4 HX4 HG4 HT4
  have HO := Lib.hid (impl_ValueOK 2 0 s w5 HSZ.out)
  obtain ⟨v0, v1, v2⟩ := HV5.out.cells3v
  obtain ⟨RA, Rn, Rcp, RB, hjunk⟩ := HR5.out
  clear hjunk
  obtain ⟨r0, r1⟩ := RB.cells2
  clear RB
  go_wp2_with fail
  clear v0 v1 v2 r0 r1
  refine HO.out.mono ?_
  rintro e w6 ⟨rfl, E6⟩
  generalize hok : valB 2 0 s = ok
  have HOK := Lib.hid hok
  clear HO hok
  have HR6 := Lib.hid (HR5.out.ext E6)
  have HV6 := Lib.hid (HV5.out.ext E6)
  have HX6 := Lib.hid (HX5.out.ext E6)
  have HG6 := Lib.hid (grown_trans HG5.out (grown_ext E6))
  clear E6 HR5 HV5 HX5 HG5
  obtain ⟨v0, v1, v2⟩ := HV6.out.cells3v
  obtain ⟨RA, Rn, Rcp, RB, hjunk⟩ := HR6.out
  clear hjunk
  obtain ⟨r0, r1⟩ := RB.cells2
  have rf1 := RB.frozen 1
  clear RB
  have HR9 := Lib.hid (rdr_fail HR6.out (!ok))
  have HG9 := Lib.hid (grown_trans HG6.out (grown_one (b := b) (i := 1) (u := .bool (!ok))))
  have HV9 := Lib.hid (Blk.far HV6.out (p := ⟨b, 1, none⟩) (by dsimp only; omega) (.bool (!ok)))
  have HX9 := Lib.hid (Blk.far HX6.out (p := ⟨b, 1, none⟩) (by dsimp only; omega) (.bool (!ok)))
  obtain ⟨z0, z1, z2⟩ := HV9.out.cells3v
  obtain ⟨x0, x1, x2⟩ := HX9.out.cells3v
  have y0 := HX9.out.frozen 0
  have y1 := HX9.out.frozen 1
  have y2 := HX9.out.frozen 2
  go_wp2_with fail
  refine bodyPost_ret (v := .agg #[.int .i64 2, .int .i64 0, .string s]) (by simp [results, Try.results114, go_sem, x0, x1, x2]; try rfl) rfl ?_
  rw [HOK.out]
  exact ⟨rfl, rdr_set (rdr_set (rdr_set HR9.out hD hb) hD hb) hD hb, grown_new (grown_new (grown_new HG9.out (Nat.le_refl _)) (Nat.le_refl _)) (Nat.le_refl _)⟩
end Go.Proofs.Ythfkfdfcgldbeaa
