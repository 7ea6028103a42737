/- The walk of FnFields. -/
import Derived.Test.YteaefjicpefgnaaTextsOf
namespace Go.Proofs.Yteaefjicpefgnaa
open Go.RowKit Go.Deep
set_option linter.unusedVariables false
set_option maxRecDepth 100000
theorem txt_facts {L : List ByteArray} (h1 : L.length ≤ 5) (h2 : ∀ x ∈ L, x.size ≤ 4) : fbC L = 0 ∧ rfL (fbL L) = L ∧ rfC (fbL L) = 0 ∧ (fbL L).length ≤ 65536 := by
  have hl : longF L = false := by
    unfold longF
    rw [List.any_eq_false]
    intro t ht
    have := h2 t ht
    simp; omega
  have hb : fbL L = fieldsB L := by unfold fbL; rw [if_pos ⟨by omega, hl⟩]
  have hlen : (fieldsB L).length ≤ 65536 := by
    have h := sum_le L (fun s hs => by have := h2 s hs; omega)
    unfold fieldsB
    rw [List.length_cons, List.length_flatMap]
    omega
  have hr := rfO_back L (by omega) hl
  refine ⟨?_, ?_, ?_, by rw [hb]; exact hlen⟩
  · unfold fbC; rw [if_neg (by omega), if_neg (by omega), hl]; rfl
  · rw [hb]; unfold rfL; rw [if_neg (by omega), hr]; rfl
  · rw [hb]; unfold rfC; rw [if_neg (by omega), hr]; rfl
theorem rf_facts {l : List UInt8} (h : rfC l = 0) : fbC (rfL l) = 0 ∧ fbL (rfL l) = l ∧ (rfL l).length ≤ 100 ∧ ∀ s ∈ rfL l, s.size ≤ maxLen := by
  unfold rfC at h
  by_cases h1 : 65536 < l.length
  · rw [if_pos h1] at h; cases h
  · rw [if_neg h1] at h
    rcases ho : rfO l with _ | o
    · rw [ho] at h; cases h
    · obtain ⟨e1, e2, e3⟩ := rfO_forth ho
      have hL : rfL l = o := by unfold rfL; rw [if_neg h1, ho]; rfl
      rw [hL]
      refine ⟨?_, ?_, e2, fun s hs => by have := longF_mem e3 s hs; unfold maxLen; omega⟩
      · unfold fbC; rw [if_neg (by omega), if_neg (by omega), e3]; rfl
      · unfold fbL; rw [if_pos ⟨e2, e3⟩]; exact e1
set_option maxHeartbeats 4000000 in
theorem walk_FnFields (w : World) (A : Option Addr) (n cp : Nat) (l : List UInt8) (hl : l.length = n) (hc : n ≤ cp) (hm : cp ≤ maxLen) (hr : Rd w A (l.map fun c => Value.int .u8 (c.toNat : Int)))
    (A2 : Option Addr) (n2 cp2 : Nat) (l2 : List UInt8) (hl2 : l2.length = n2) (hc2 : n2 ≤ cp2) (hm2 : cp2 ≤ maxLen) (hr2 : Rd w A2 (l2.map fun c => Value.int .u8 (c.toNat : Int))) :
    Calls Try.prog 7 #[.slice A n cp, .slice A2 n2 cp2] w fun e w' => e = .returned (.bool true) ∧ Ext w w' := by
  by_cases hbig : (1048576 : Int) < (n : Int)
  · clear hl hr hl2 hr2 hc hm hc2 hm2
    go_enter Try.func7, Try.ntmps7
    go_wp2_with fail
    go_ret
    exact ⟨rfl, Ext.refl _⟩
  by_cases hbig2 : (1048576 : Int) < (n2 : Int)
  · clear hl hr hl2 hr2 hc hm hc2 hm2
    go_enter Try.func7, Try.ntmps7
    go_wp2_with fail
    go_ret
    exact ⟨rfl, Ext.refl _⟩
  have HT := Lib.hid (spec_TextsOf A n cp l w hl (by omega) hr)
  have HL2 := Lib.hid hl2
  have HR2 := Lib.hid hr2
  have hn2 : n2 ≤ 1099511627776 := by omega
  have HM2 := Lib.hid (And.intro hc2 hm2)
  clear hl hr hl2 hr2 hc hm hc2 hm2
  go_enter Try.func7, Try.ntmps7
  go_wp2_with fail
  refine HT.out.mono ?_
  rintro e w1 ⟨v1, L, rfl, hL5, hL4, O1, E1⟩
  obtain ⟨A1, cap1, rfl⟩ := own_slice O1
  obtain ⟨f1, f2, f3, f4⟩ := txt_facts hL5 hL4
  have hmx : ∀ s ∈ L, s.size ≤ maxLen := fun s hs => by have := hL4 s hs; unfold maxLen; omega
  have HR1 := Lib.hid (own_rd' O1).2
  have HB := Lib.hid (impl_FieldsBytes A1 L.length cap1 L w1 rfl (by omega) hmx (own_rd' O1).2 (own_full O1).2.2)
  have HBs := Lib.hid (fun W => spec_FieldsBytes A1 L.length cap1 L W rfl (by omega) hmx)
  rw [f1] at HB HBs
  have HE1 := Lib.hid E1
  have HF := Lib.hid (And.intro f2 f3)
  have hlL : L.length ≤ 5 := hL5
  have hfl : (fbL L).length ≤ 65536 := f4
  clear O1 E1 HT f1 f2 f3 f4 hmx hL4 hL5
  generalize hb : fbL L = l1 at HB HBs HF hfl
  clear hb
  go_wp2_with fail
  refine HB.out.mono ?_
  rintro e w2 ⟨v2, rfl, O2, E2⟩
  obtain ⟨A3, cap3, rfl⟩ := own_slice O2
  have HR1b := Lib.hid (HR1.out.ext E2)
  have HR3 := Lib.hid (own_rd' O2).2
  have HC3 := Lib.hid (own_full O2)
  have HE2 := Lib.hid (HE1.out.trans E2)
  clear O2 E2 HB HR1 HE1
  go_wp2_with fail
  refine (HBs.out w2 HR1b.out).mono ?_
  rintro e w3 ⟨v3, rfl, S3, E3⟩
  obtain ⟨A4, cap4, rfl, hR4⟩ := S3
  have HR4 := Lib.hid hR4
  have HR1c := Lib.hid (HR1b.out.ext E3)
  have HR3c := Lib.hid (HR3.out.ext E3)
  have HE3 := Lib.hid (HE2.out.trans E3)
  clear hR4 E3 HBs HR1b HR3 HE2
  have hI := impl_ReadFields A3 l1.length cap3 l1 w3 rfl (by omega) HC3.out.1 HC3.out.2.1 HR3c.out
  rw [HF.out.1, HF.out.2] at hI
  have HI := Lib.hid hI
  clear hI
  go_wp2_with fail
  refine HI.out.mono ?_
  rintro e w4 ⟨v4, rfl, O4, E4⟩
  obtain ⟨A5, cap5, rfl⟩ := own_slice O4
  have cv1 := run_text (P := Try.prog) (src := 22) (dst := 9) Try.underlying22 Try.underlying5 Try.underlying9 w4 A3 l1.length cap3 l1 rfl (HR3c.out.ext E4)
  have cv2 := run_text (P := Try.prog) (src := 22) (dst := 9) Try.underlying22 Try.underlying5 Try.underlying9 w4 A4 l1.length cap4 l1 rfl (HR4.out.ext E4)
  have HST := Lib.hid (sameTexts_same A5 A1 L.length cap5 cap1 L w4 rfl (by omega) (own_rd' O4).2 (HR1c.out.ext E4))
  have HE4 := Lib.hid (HE3.out.trans E4)
  clear O4 E4 HI HE3 HR1c HR3c HR4 HC3
  generalize (⟨l1.toArray⟩ : ByteArray) = s1 at cv1 cv2
  go_wp2_with fail
  refine HST.out.mono ?_
  rintro e w5 ⟨rfl, E5⟩
  have HE5 := Lib.hid (HE4.out.trans E5)
  have HR5 := Lib.hid (HR2.out.ext HE5.out)
  have HI2 := Lib.hid (impl_ReadFields A2 n2 cp2 l2 w5 HL2.out hn2 HM2.out.1 HM2.out.2 HR5.out)
  have HS2 := Lib.hid (fun W h => spec_ReadFields A2 n2 cp2 l2 W HL2.out hn2 h)
  have HF2 := Lib.hid (rf_facts (l := l2))
  generalize rfC l2 = C at HI2 HS2 HF2
  generalize rfL l2 = M at HI2 HS2 HF2
  have hcc : (C != C) = false := by simp
  clear cv1 cv2 E5 HE4 HST
  go_wp2_with fail
  refine HI2.out.mono ?_
  rintro e w6 ⟨v6, rfl, O6, E6⟩
  obtain ⟨A6, cap6, rfl⟩ := own_slice O6
  have HO6 := Lib.hid O6
  have HE6 := Lib.hid (HE5.out.trans E6)
  have HR6 := Lib.hid (HR5.out.ext E6)
  clear O6 E6 HE5 HR5 HI2
  go_wp2_with fail
  refine (HS2.out w6 HR6.out).mono ?_
  rintro e w7 ⟨v7, rfl, O7, E7⟩
  have HO7 := Lib.hid (own_ext HO6.out E7)
  have HE7 := Lib.hid (HE6.out.trans E7)
  have HR7 := Lib.hid (HR6.out.ext E7)
  clear O7 E7 HE6 HR6 HO6 HS2
  by_cases hC : C = 0
  · obtain ⟨g1, g2, g3, g4⟩ := HF2.out hC
    have hB2 := impl_FieldsBytes A6 M.length cap6 M w7 rfl (by omega) g4 (own_rd' HO7.out).2 (own_full HO7.out).2.2
    rw [g1, g2] at hB2
    have HB2 := Lib.hid hB2
    clear g1 g2 g4 hB2
    subst hC
    go_wp2_with fail
    refine HB2.out.mono ?_
    rintro e w8 ⟨v8, rfl, O8, E8⟩
    obtain ⟨A8, cap8, rfl⟩ := own_slice O8
    have cv1 := run_text (P := Try.prog) (src := 22) (dst := 9) Try.underlying22 Try.underlying5 Try.underlying9 w8 A8 l2.length cap8 l2 rfl (own_rd' O8).2
    have cv2 := run_text (P := Try.prog) (src := 22) (dst := 9) Try.underlying22 Try.underlying5 Try.underlying9 w8 A2 n2 cp2 l2 HL2.out (HR7.out.ext E8)
    have HE8 := Lib.hid (HE7.out.trans E8)
    generalize (⟨l2.toArray⟩ : ByteArray) = s2 at cv1 cv2
    clear O8 E8 HE7 HB2 HO7 HR7
    go_wp2_with fail
    go_ret
    exact ⟨rfl, HE8.out⟩
  · have hCI : (C != 0) = true := by rw [bne_iff_ne]; exact hC
    go_wp2_with fail
    go_ret
    exact ⟨rfl, HE7.out⟩
end Go.Proofs.Yteaefjicpefgnaa
