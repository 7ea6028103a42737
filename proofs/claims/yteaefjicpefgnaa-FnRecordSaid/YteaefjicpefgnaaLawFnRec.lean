/- The walk of FnRecord. -/
import Derived.Test.YteaefjicpefgnaaRecO
import Derived.Test.YteaefjicpefgnaaRecP
import Derived.Test.YteaefjicpefgnaaAt
import Derived.Test.YteaefjicpefgnaaLawReadRec
import Derived.Deep.RegionWith
namespace Go.Proofs.Yteaefjicpefgnaa
open Go.RowKit Go.Deep
set_option linter.unusedVariables false
set_option maxRecDepth 100000
theorem run_neq_rec (ep L tx k p nx pg sl : Int) (bf af : ByteArray) (W : World) : (binOp .neq 57 (.agg #[.int .i64 ep, .int .i64 L, .int .i64 tx, .int .i64 k, .int .i64 p, .int .i64 nx, .int .i64 pg, .int .i64 sl, .string bf, .string af]) (.agg #[.int .i64 ep, .int .i64 L, .int .i64 tx, .int .i64 k, .int .i64 p, .int .i64 nx, .int .i64 pg, .int .i64 sl, .string bf, .string af])).run Try.prog W = .ok (.bool false) W := by
  go_simp
set_option maxHeartbeats 8000000 in
theorem walk_FnRecord (w : World) (A : Option Addr) (n cp : Nat) (l : List UInt8) (hl : l.length = n) (hc : n ≤ cp) (hm : cp ≤ maxLen) (hr : Rd w A (l.map fun c => Value.int .u8 (c.toNat : Int)))
    (A2 : Option Addr) (n2 cp2 : Nat) (l2 : List UInt8) (hl2 : l2.length = n2) (hc2 : n2 ≤ cp2) (hm2 : cp2 ≤ maxLen) (hr2 : Rd w A2 (l2.map fun c => Value.int .u8 (c.toNat : Int))) :
    Calls Try.prog 13 #[.slice A n cp, .slice A2 n2 cp2] w fun e w' => e = .returned (.bool true) ∧ Ext w w' := by
  by_cases hbig : (1048576 : Int) < (n : Int)
  · clear hl hr hl2 hr2 hc hm hc2 hm2
    go_enter Try.func13, Try.ntmps13
    go_wp2_with fail
    go_ret
    exact ⟨rfl, Ext.refl _⟩
  by_cases hbig2 : (1048576 : Int) < (n2 : Int)
  · clear hl hr hl2 hr2 hc hm hc2 hm2
    go_enter Try.func13, Try.ntmps13
    go_wp2_with fail
    go_ret
    exact ⟨rfl, Ext.refl _⟩
  have hn2 : n2 ≤ 1099511627776 := by omega
  have HAT := Lib.hid (fun (W : World) (i m : Nat) (hW : Ext w W) (hi : i ≤ 1000) (hm : m ≤ 1099511627776) => at_any A2 n2 cp2 i m l2 W hl2 hn2 hi hm (hr2.ext hW))
  have HLR := Lib.hid (fun (W : World) (L : Int) (hW : Ext w W) (h1 : 1 ≤ L) (h2 : L ≤ 60) => spec_LogRecordOf A n cp l L W hl (by omega) h1 h2 (hr.ext hW))
  have hk0 : atV l2 0 60 < 60 := atV_lt _ _ _ (by omega)
  clear hl hr hc hm hc2 hm2 hr2 hl2
  go_enter Try.func13, Try.ntmps13
  go_wp2_with fail
  refine (HAT.out w 0 60 (Ext.refl w) (by omega) (by omega)).mono ?_
  generalize atV l2 0 60 = k0 at hk0
  rintro e w0 ⟨rfl, kk, rfl⟩
  have HE0 := Lib.hid ((Ext.refl w).drewN kk)
  generalize w.drewN kk = w0 at HE0 ⊢
  have HLR0 := Lib.hid (HLR.out w0 (1 + (k0 : Int)) HE0.out (by omega) (by omega))
  have HWL := Lib.hid (wf_small (m := 1 + k0) (by omega))
  clear HLR
  go_wp2_with fail
  refine HLR0.out.mono ?_
  intro e w1 hp
  obtain ⟨ep, tx, k, p, nx, pg, sl, bf, af, rfl, hok, hb, ha, E1⟩ := hp.elim
  have hwl : (Lit.int .i64 (1 + (k0 : Int))).wf = true := by have := HWL.out; rwa [Int.natCast_add] at this
  generalize (1 + (k0 : Int)) = L at hok hwl
  obtain ⟨d, hraw, hlen, hpos, hC, a1, a2, a3, a4, a5, a6, a7, a8, x0, x1⟩ := rec_back hok hb ha
  have hc0 := (rb_yes hok).2
  have hI := fun W => impl_RecordBytes ep L tx k p nx pg sl bf af W (by omega) (by omega) hwl
  have hS := fun W => spec_RecordBytes ep L tx k p nx pg sl bf af W (by omega) (by omega) hwl
  rw [hraw, hc0] at hI hS
  have hRd := fun W b cap (h1 : (sealB d).length ≤ cap) (h2 : cap ≤ maxLen) (hr : Rd W (some ⟨b, 0, none⟩) ((sealB d).map fun c => Value.int .u8 (c.toNat : Int))) => impl_ReadRecord (some ⟨b, 0, none⟩) (sealB d).length cap (sealB d) W rfl (by omega) h1 h2 hr
  unfold RrPost at hRd
  rw [hC, a1, a2, a3, a4, a5, a6, a7, a8, x0, x1] at hRd
  have hOK := fun W => impl_RecordOK ep L tx k p nx pg sl bf af W (by omega) (by omega)
  rw [hok] at hOK
  have HBAD := Lib.hid (fun j y (hj : j < (sealB d).length) hy => rec_bad d j y hlen hj hy)
  have HI := Lib.hid hI
  have HS := Lib.hid hS
  have HRd := Lib.hid hRd
  have HOK := Lib.hid hOK
  have HE1 := Lib.hid (HE0.out.trans E1)
  clear hI hS hRd hOK hok hwl HWL hraw hC a1 a2 a3 a4 a5 a6 a7 a8 x0 x1 hc0 hp E1 HLR0 HE0 hb ha
  generalize sealB d = l1 at HI HS HRd HBAD hlen hpos
  clear d
  have HX := Lib.hid (Blk.new w1 57 [.int .i64 ep, .int .i64 L, .int .i64 tx, .int .i64 k, .int .i64 p, .int .i64 nx, .int .i64 pg, .int .i64 sl, .string bf, .string af])
  have HE2 := Lib.hid (HE1.out.alloc (.cells #[.int .i64 ep, .int .i64 L, .int .i64 tx, .int .i64 k, .int .i64 p, .int .i64 nx, .int .i64 pg, .int .i64 sl, .string bf, .string af] 57))
  have hX1 : w1.heap.size < (w1.alloc (.cells #[.int .i64 ep, .int .i64 L, .int .i64 tx, .int .i64 k, .int .i64 p, .int .i64 nx, .int .i64 pg, .int .i64 sl, .string bf, .string af] 57)).heap.size := HX.out.lt
  go_wp2_with fail
  generalize w1.alloc (.cells #[.int .i64 ep, .int .i64 L, .int .i64 tx, .int .i64 k, .int .i64 p, .int .i64 nx, .int .i64 pg, .int .i64 sl, .string bf, .string af] 57) = z1 at HX HE2 hX1 ⊢
  refine (HI.out z1).mono ?_
  rintro e w2 ⟨v2, rfl, O2, E2⟩
  obtain ⟨g2, cap2, cs2, rfl, hg2, hcap2, hcapm2, B2, hcsl2, hcst2⟩ := own_form O2 (by omega)
  have HR2 := Lib.hid (own_rd' O2).2
  have HX2 := Lib.hid (HX.out.ext E2)
  have HE2b := Lib.hid (HE2.out.trans E2)
  clear O2 E2 B2 hcsl2 hcst2 HX HE2 HI hg2
  obtain ⟨c0, c1, c2, c3, c4, c5, c6, c7, c8, c9⟩ := HX2.out.cells10
  go_wp2_with fail
  refine (HS.out w2).mono ?_
  rintro e w3 ⟨v3, rfl, O3, E3⟩
  obtain ⟨A3, cap3, rfl⟩ := own_slice O3
  have HR3 := Lib.hid (own_rd' O3).2
  have HR2b := Lib.hid (HR2.out.ext E3)
  have HX3 := Lib.hid (HX2.out.ext E3)
  have HE3 := Lib.hid (HE2b.out.trans E3)
  clear O3 E3 HS HR2 HX2 HE2b c0 c1 c2 c3 c4 c5 c6 c7 c8 c9
  go_wp2_with fail
  refine (HRd.out w3 g2 cap2 hcap2 hcapm2 HR2b.out).mono ?_
  rintro e w4 ⟨rfl, E4⟩
  have cv1 := run_text (P := Try.prog) (src := 22) (dst := 9) Try.underlying22 Try.underlying5 Try.underlying9 (w4.alloc (.cells #[.int .i64 ep, .int .i64 L, .int .i64 tx, .int .i64 k, .int .i64 p, .int .i64 nx, .int .i64 pg, .int .i64 sl, .string bf, .string af] 57)) (some ⟨g2, 0, none⟩) l1.length cap2 l1 rfl ((HR2b.out.ext E4).ext ((Ext.refl w4).alloc _))
  have cv2 := run_text (P := Try.prog) (src := 22) (dst := 9) Try.underlying22 Try.underlying5 Try.underlying9 (w4.alloc (.cells #[.int .i64 ep, .int .i64 L, .int .i64 tx, .int .i64 k, .int .i64 p, .int .i64 nx, .int .i64 pg, .int .i64 sl, .string bf, .string af] 57)) A3 l1.length cap3 l1 rfl ((HR3.out.ext E4).ext ((Ext.refl w4).alloc _))
  have HX4 := Lib.hid ((HX3.out.ext E4).ext ((Ext.refl w4).alloc (.cells #[.int .i64 ep, .int .i64 L, .int .i64 tx, .int .i64 k, .int .i64 p, .int .i64 nx, .int .i64 pg, .int .i64 sl, .string bf, .string af] 57)))
  have HY4 := Lib.hid (Blk.new w4 57 [.int .i64 ep, .int .i64 L, .int .i64 tx, .int .i64 k, .int .i64 p, .int .i64 nx, .int .i64 pg, .int .i64 sl, .string bf, .string af])
  have HR4 := Lib.hid ((HR2b.out.ext E4).ext ((Ext.refl w4).alloc (.cells #[.int .i64 ep, .int .i64 L, .int .i64 tx, .int .i64 k, .int .i64 p, .int .i64 nx, .int .i64 pg, .int .i64 sl, .string bf, .string af] 57)))
  have HE4 := Lib.hid ((HE3.out.trans E4).alloc (.cells #[.int .i64 ep, .int .i64 L, .int .i64 tx, .int .i64 k, .int .i64 p, .int .i64 nx, .int .i64 pg, .int .i64 sl, .string bf, .string af] 57))
  have hneq := run_neq_rec ep L tx k p nx pg sl bf af
  clear E4 HRd HR2b HR3 HX3 HE3
  have hlI : ¬ (160 : Int) < (l1.length : Int) := by omega
  have hl0 : ((l1.length : Int) == 0) = false := by rw [beq_eq_false_iff_ne]; omega
  generalize (⟨l1.toArray⟩ : ByteArray) = s1 at cv1 cv2
  obtain ⟨c0, c1, c2, c3, c4, c5, c6, c7, c8, c9⟩ := HX4.out.cells10
  obtain ⟨d0, d1, d2, d3, d4, d5, d6, d7, d8, d9⟩ := HY4.out.cells10
  go_wp2_with fail
  refine (HOK.out _).mono ?_
  rintro e w5 ⟨rfl, E5⟩
  have HR5 := Lib.hid (HR4.out.ext E5)
  have HE5 := Lib.hid (HE4.out.trans E5)
  have hle5 := HE5.out.le
  clear E5 HR4 HE4 HX4 HY4 HOK c0 c1 c2 c3 c4 c5 c6 c7 c8 c9 d0 d1 d2 d3 d4 d5 d6 d7 d8 d9 cv1 cv2 hneq
  obtain ⟨i0, hi, hz0, hz1, hz2⟩ := info_parts info_ByteS
  have hinit := World.ownsRow_lit (base := w5.heap.size) (e := 5) (size := 1) w5 #[] 0 (Nat.le_refl _) (by unfold maxLen; omega) rfl
  have hrd := HR5.out.ext ((Ext.refl w5).alloc (.cells #[] 5))
  go_wp2_with (at_builtin; refine wpList_append_own _ rfl (.tmp 76) (.tmp 77) 22 rfl w5.heap.size 5 i0 (.int .u8 0) 1 1 Try.underlying22 hi hz0 hz1 hz2 rfl (by decide) _ 0 [] rfl hinit ⟨g2, 0, none⟩ l1.length cap2 (l1.map fun c => Value.int .u8 (c.toNat : Int)) rfl (by simp) (rd_add hrd) (by intro u hu; simp at hu; obtain ⟨c, _, rfl⟩ := hu; rfl) (by unfold maxLen; omega) (by omega) (by simp) ?_)
  intro v6 w6 hown hg _
  have hE6 : Ext w w6 := (HE5.out.alloc (.cells #[] 5)).grown hg (fun k hk => by simp [Value.ownBlock] at hk; omega)
  obtain ⟨g, cap, cs, rfl, hgB, hcap, hcapm, hB, hcsl, hcst⟩ := own_form hown hpos
  rw [Nat.mul_one] at hcsl
  rw [Nat.mul_one] at hcst
  have hkl : atV l2 1 l1.length < l1.length := atV_lt _ _ _ hpos
  have hs8 : atV l2 2 255 < 255 := atV_lt _ _ _ (by omega)
  have hkc : atV l2 1 l1.length < cs.length := by omega
  have hck : w6.cell? ⟨g, atV l2 1 l1.length, none⟩ = some (.int .u8 (l1[atV l2 1 l1.length].toNat : Int)) := by
    rw [hB.cell hkc]
    have e1 : (cs.take l1.length)[atV l2 1 l1.length]? = (l1.map fun c => Value.int .u8 (c.toNat : Int))[atV l2 1 l1.length]? := by rw [hcst]
    rw [List.getElem?_take, if_pos hkl, List.getElem?_eq_getElem hkc] at e1
    rw [e1]; simp [hkl]
  have hfk := hB.frozen (atV l2 1 l1.length)
  have hat1 := fun (W : World) (hW : Ext w W) => HAT.out W 1 l1.length hW (by omega) (by omega)
  have hat2 := fun (W : World) (hW : Ext w W) => HAT.out W 2 255 hW (by omega) (by omega)
  have hbad := fun y (hy : y ≠ l1[atV l2 1 l1.length]) => HBAD.out (atV l2 1 l1.length) y hkl hy
  generalize atV l2 1 l1.length = j at *
  generalize atV l2 2 255 = m at *
  have hx8 : l1[j].toNat < 256 := l1[j].toNat_lt
  generalize hx : l1[j] = x at *
  have H1 := Lib.hid hat1
  have H2 := Lib.hid hat2
  have HB := Lib.hid hB
  have HT := Lib.hid hcst
  have HCL := Lib.hid hcsl
  have HE6 := Lib.hid hE6
  have HBD := Lib.hid hbad
  clear hx hat1 hat2 hB hcst hcsl hE6 hown hg hinit hbad HBAD HAT hrd HR5 HE5
  have hjI : (j : Int) < (l1.length : Int) := by omega
  go_wp2_with fail
  go_region_with (first | (go_at_call_of 53 (1 : Int); refine (H1.out _ ?_).mono ?_; (first | exact HE6.out.drew | exact HE6.out.drewN _); rintro e w' ⟨rfl, kk, rfl⟩) | (go_at_call_of 53 (255 : Int); refine (H2.out _ ?_).mono ?_; (first | exact HE6.out.drew | exact HE6.out.drewN _); rintro e w' ⟨rfl, kk, rfl⟩))
  all_goals
    go_wp2_with fail
    have hval : bits .xor .u8 (x.toNat : Int) (1 + (m : Int)) = ((xorB x (1 + m)).toNat : Int) := by
      have := xorB_val x (1 + m) (by omega)
      rwa [Int.natCast_add] at this
    rw [hval]
    refine (impl_ReadRecord (some ⟨g, 0, none⟩) l1.length cap (l1.set j (xorB x (1 + m))) _ (by rw [List.length_set]) (by omega) hcap hcapm (Rd.take_ (n := l1.length) ((HB.out.drewN _).set j _) ?_)).mono ?_
    · rw [List.take_set, HT.out, List.map_set]
    have hC8 := HBD.out (xorB x (1 + m)) (xorB_ne x (1 + m) (by omega) (by omega))
    unfold RrPost
    rw [hC8]
    generalize l1.set j (xorB x (1 + m)) = l3
    generalize rrN l3 1 = b1
    generalize rrN l3 2 = b2
    generalize rrN l3 3 = b3
    generalize rrN l3 4 = b4
    generalize rrN l3 5 = b5
    generalize rrN l3 6 = b6
    generalize rrN l3 7 = b7
    generalize rrN l3 8 = b8
    generalize rrS l3 0 = y0
    generalize rrS l3 1 = y1
    rintro e w8 ⟨rfl, E8⟩
    have HE8 := Lib.hid (Ext.trans (Ext.set (HE6.out.drewN _) (p := ⟨g, j, none⟩) (Nat.le_trans hle5 hgB) _) E8)
    clear E8 hval hC8
    go_wp2_with fail
    go_ret
    exact ⟨rfl, HE8.out.alloc _⟩
end Go.Proofs.Yteaefjicpefgnaa
