/- The walk of the law FnExactCompareValues. -/
import Derived.Test.YtpjpkkninkpllaaCompare
namespace Go.Proofs.Ytpjpkkninkpllaa
open Go.RowKit Go.Deep
set_option linter.unusedVariables false

/-- what is answered of two values -/
def cmpA (k i : Int) (s : ByteArray) (k' i' : Int) (s' : ByteArray) : Int := if valB k i s = true ∧ valB k' i' s' = true then cmpV k i s k' i' s' else 0
def cmpC (k i : Int) (s : ByteArray) (k' i' : Int) (s' : ByteArray) : Int := if valB k i s = true ∧ valB k' i' s' = true then 0 else 1
set_option maxHeartbeats 1000000 in
theorem impl_CompareValues (k i : Int) (s : ByteArray) (k' i' : Int) (s' : ByteArray) (w : World) (hs : s.size ≤ maxLen) (hs' : s'.size ≤ maxLen) :
    Calls Try.prog 38 #[.agg #[.int .i64 k, .int .i64 i, .string s], .agg #[.int .i64 k', .int .i64 i', .string s']] w fun e w' => e = .returned (.tuple #[.int .i64 (cmpA k i s k' i' s'), .int .i64 (cmpC k i s k' i' s')]) ∧ Ext w w' := by
  have h1 := impl_ValueOK k i s
  have h2 := impl_ValueOK k' i' s'
  have h3 := impl_compare k i s k' i' s'
  have hA : cmpA k i s k' i' s' = if valB k i s = true ∧ valB k' i' s' = true then cmpV k i s k' i' s' else 0 := rfl
  have hC : cmpC k i s k' i' s' = if valB k i s = true ∧ valB k' i' s' = true then 0 else 1 := rfl
  generalize valB k i s = b1 at h1 hA hC
  generalize valB k' i' s' = b2 at h2 hA hC
  generalize cmpV k i s k' i' s' = v at h3 hA
  have H1 := Lib.hid h1
  have H2 := Lib.hid h2
  have H3 := Lib.hid h3
  clear h1 h2 h3
  have hB1 := (Blk.new w 38 [.int .i64 k, .int .i64 i, .string s]).alloc (.cells #[.int .i64 k', .int .i64 i', .string s'] 38)
  have hB2 := Blk.new (w.alloc (.cells #[.int .i64 k, .int .i64 i, .string s] 38)) 38 [.int .i64 k', .int .i64 i', .string s']
  rw [World.size_alloc] at hB2
  cases b1
  · have HA := Lib.hid (show cmpA k i s k' i' s' = 0 by rw [hA]; simp)
    have HC := Lib.hid (show cmpC k i s k' i' s' = 1 by rw [hC]; simp)
    clear hA hC
    go_enter Try.func38, Try.ntmps38
    go_wp2_with fail
    refine (H1.out _ hs).mono ?_
    rintro e w1 ⟨rfl, E1⟩
    go_wp2_with fail
    go_ret2
    exact ⟨by rw [HA.out, HC.out]; rfl, (by repeat (first | exact Ext.refl _ | assumption | refine Ext.alloc ?_ _ | refine Ext.drewN ?_ _ | refine Ext.drew ?_ | refine Ext.trans ?_ (by assumption)))⟩
  · cases b2
    · have HA := Lib.hid (show cmpA k i s k' i' s' = 0 by rw [hA]; simp)
      have HC := Lib.hid (show cmpC k i s k' i' s' = 1 by rw [hC]; simp)
      clear hA hC
      go_enter Try.func38, Try.ntmps38
      go_wp2_with fail
      refine (H1.out _ hs).mono ?_
      rintro e w1 ⟨rfl, E1⟩
      obtain ⟨c0, c1, c2⟩ := (hB2.ext E1).cells3
      go_wp2_with fail
      refine (H2.out _ hs').mono ?_
      rintro e w2 ⟨rfl, E2⟩
      go_wp2_with fail
      go_ret2
      exact ⟨by rw [HA.out, HC.out]; rfl, (by repeat (first | exact Ext.refl _ | assumption | refine Ext.alloc ?_ _ | refine Ext.drewN ?_ _ | refine Ext.drew ?_ | refine Ext.trans ?_ (by assumption)))⟩
    · have HA := Lib.hid (show cmpA k i s k' i' s' = v by rw [hA]; simp)
      have HC := Lib.hid (show cmpC k i s k' i' s' = 0 by rw [hC]; simp)
      clear hA hC
      go_enter Try.func38, Try.ntmps38
      go_wp2_with fail
      refine (H1.out _ hs).mono ?_
      rintro e w1 ⟨rfl, E1⟩
      obtain ⟨c0, c1, c2⟩ := (hB2.ext E1).cells3
      go_wp2_with fail
      refine (H2.out _ hs').mono ?_
      rintro e w2 ⟨rfl, E2⟩
      obtain ⟨d0, d1, d2⟩ := ((hB2.ext E1).ext E2).cells3
      obtain ⟨f0, f1, f2⟩ := ((hB1.ext E1).ext E2).cells3
      go_wp2_with fail
      refine (H3.out _).mono ?_
      rintro e w3 ⟨rfl, E3⟩
      go_wp2_with fail
      go_ret2
      exact ⟨by rw [HA.out, HC.out]; rfl, (by repeat (first | exact Ext.refl _ | assumption | refine Ext.alloc ?_ _ | refine Ext.drewN ?_ _ | refine Ext.drew ?_ | refine Ext.trans ?_ (by assumption)))⟩
set_option maxHeartbeats 1000000 in
theorem spec_CompareValues (k i : Int) (s : ByteArray) (k' i' : Int) (s' : ByteArray) (w : World) (hs : s.size ≤ maxLen) (hs' : s'.size ≤ maxLen) :
    Calls Try.prog 37 #[.agg #[.int .i64 k, .int .i64 i, .string s], .agg #[.int .i64 k', .int .i64 i', .string s']] w fun e w' => e = .returned (.tuple #[.int .i64 (cmpA k i s k' i' s'), .int .i64 (cmpC k i s k' i' s')]) ∧ Ext w w' := by
  have h1 := spec_ValueOK k i s
  have h2 := spec_ValueOK k' i' s'
  have h3 := spec_compare k i s k' i' s'
  have hA : cmpA k i s k' i' s' = if valB k i s = true ∧ valB k' i' s' = true then cmpV k i s k' i' s' else 0 := rfl
  have hC : cmpC k i s k' i' s' = if valB k i s = true ∧ valB k' i' s' = true then 0 else 1 := rfl
  generalize valB k i s = b1 at h1 hA hC
  generalize valB k' i' s' = b2 at h2 hA hC
  generalize cmpV k i s k' i' s' = v at h3 hA
  have H1 := Lib.hid h1
  have H2 := Lib.hid h2
  have H3 := Lib.hid h3
  clear h1 h2 h3
  have hB1 := (Blk.new w 38 [.int .i64 k, .int .i64 i, .string s]).alloc (.cells #[.int .i64 k', .int .i64 i', .string s'] 38)
  have hB2 := Blk.new (w.alloc (.cells #[.int .i64 k, .int .i64 i, .string s] 38)) 38 [.int .i64 k', .int .i64 i', .string s']
  rw [World.size_alloc] at hB2
  cases b1
  · have HA := Lib.hid (show cmpA k i s k' i' s' = 0 by rw [hA]; simp)
    have HC := Lib.hid (show cmpC k i s k' i' s' = 1 by rw [hC]; simp)
    clear hA hC
    go_enter Try.func37, Try.ntmps37
    go_wp2_with fail
    refine (H1.out _ hs).mono ?_
    rintro e w1 ⟨rfl, E1⟩
    go_wp2_with fail
    go_ret2
    exact ⟨by rw [HA.out, HC.out]; rfl, (by repeat (first | exact Ext.refl _ | assumption | refine Ext.alloc ?_ _ | refine Ext.drewN ?_ _ | refine Ext.drew ?_ | refine Ext.trans ?_ (by assumption)))⟩
  · cases b2
    · have HA := Lib.hid (show cmpA k i s k' i' s' = 0 by rw [hA]; simp)
      have HC := Lib.hid (show cmpC k i s k' i' s' = 1 by rw [hC]; simp)
      clear hA hC
      go_enter Try.func37, Try.ntmps37
      go_wp2_with fail
      refine (H1.out _ hs).mono ?_
      rintro e w1 ⟨rfl, E1⟩
      obtain ⟨c0, c1, c2⟩ := (hB2.ext E1).cells3
      go_wp2_with fail
      refine (H2.out _ hs').mono ?_
      rintro e w2 ⟨rfl, E2⟩
      go_wp2_with fail
      go_ret2
      exact ⟨by rw [HA.out, HC.out]; rfl, (by repeat (first | exact Ext.refl _ | assumption | refine Ext.alloc ?_ _ | refine Ext.drewN ?_ _ | refine Ext.drew ?_ | refine Ext.trans ?_ (by assumption)))⟩
    · have HA := Lib.hid (show cmpA k i s k' i' s' = v by rw [hA]; simp)
      have HC := Lib.hid (show cmpC k i s k' i' s' = 0 by rw [hC]; simp)
      clear hA hC
      go_enter Try.func37, Try.ntmps37
      go_wp2_with fail
      refine (H1.out _ hs).mono ?_
      rintro e w1 ⟨rfl, E1⟩
      obtain ⟨c0, c1, c2⟩ := (hB2.ext E1).cells3
      go_wp2_with fail
      refine (H2.out _ hs').mono ?_
      rintro e w2 ⟨rfl, E2⟩
      obtain ⟨d0, d1, d2⟩ := ((hB2.ext E1).ext E2).cells3
      obtain ⟨f0, f1, f2⟩ := ((hB1.ext E1).ext E2).cells3
      go_wp2_with fail
      refine (H3.out _).mono ?_
      rintro e w3 ⟨rfl, E3⟩
      go_wp2_with fail
      go_ret2
      exact ⟨by rw [HA.out, HC.out]; rfl, (by repeat (first | exact Ext.refl _ | assumption | refine Ext.alloc ?_ _ | refine Ext.drewN ?_ _ | refine Ext.drew ?_ | refine Ext.trans ?_ (by assumption)))⟩
set_option maxHeartbeats 2000000 in
theorem walk_FnExactCompareValues (w : World) (k i : Int) (s : ByteArray) (wk : (Lit.int .i64 k).wf = true) (wi : (Lit.int .i64 i).wf = true) (ws : s.size ≤ maxLen)
    (k' i' : Int) (s' : ByteArray) (wk' : (Lit.int .i64 k').wf = true) (wi' : (Lit.int .i64 i').wf = true) (ws' : s'.size ≤ maxLen) :
    Calls Try.prog 12 #[.agg #[.int .i64 k, .int .i64 i, .string s], .agg #[.int .i64 k', .int .i64 i', .string s']] w fun e w' => e = .returned (.bool true) ∧ Ext w w' := by
  clear wk wi wk' wi'
  have hI := fun W => impl_CompareValues k i s k' i' s' W ws ws'
  have hS := fun W => spec_CompareValues k i s k' i' s' W ws ws'
  generalize cmpA k i s k' i' s' = ra at hI hS
  generalize cmpC k i s k' i' s' = rc at hI hS
  have HI := Lib.hid hI
  have HS := Lib.hid hS
  clear hI hS
  have hZ := szValue_any k i 1048576 s
  have hB1 := (Blk.new w 35 [.int .i64 k, .int .i64 i, .string s]).alloc (.cells #[.int .i64 k', .int .i64 i', .string s'] 35)
  have hB2 := Blk.new (w.alloc (.cells #[.int .i64 k, .int .i64 i, .string s] 35)) 35 [.int .i64 k', .int .i64 i', .string s']
  rw [World.size_alloc] at hB2
  by_cases hbig : (1048576 : Int) < (s.size : Int)
  · rw [if_pos hbig] at hZ
    have HZ := Lib.hid hZ
    clear hZ
    go_enter Try.func12, Try.ntmps12
    go_wp2_with fail
    refine (HZ.out _ ws (by omega) (by omega)).mono ?_
    rintro e w1 ⟨rfl, E1⟩
    go_wp2_with fail
    go_ret
    exact ⟨rfl, (by repeat (first | exact Ext.refl _ | assumption | refine Ext.alloc ?_ _ | refine Ext.drewN ?_ _ | refine Ext.drew ?_ | refine Ext.trans ?_ (by assumption)))⟩
  · rw [if_neg hbig] at hZ
    have h0 : 0 ≤ (1048576 : Int) - (s.size : Int) := by omega
    have h1 : (1048576 : Int) - (s.size : Int) ≤ 1048576 := by omega
    generalize (1048576 : Int) - (s.size : Int) = left at hZ h0 h1
    have HZ := Lib.hid hZ
    clear hZ hbig
    have hZ := szValue_any k' i' left s'
    by_cases hbig : left < (s'.size : Int)
    · rw [if_pos hbig] at hZ
      have HZ2 := Lib.hid hZ
      clear hZ
      go_enter Try.func12, Try.ntmps12
      go_wp2_with fail
      refine (HZ.out _ ws (by omega) (by omega)).mono ?_
      rintro e w1 ⟨rfl, E1⟩
      obtain ⟨c0, c1, c2⟩ := (hB2.ext E1).cells3
      go_wp2_with fail
      refine (HZ2.out _ ws' (by omega) (by omega)).mono ?_
      rintro e w2 ⟨rfl, E2⟩
      go_wp2_with fail
      go_ret
      exact ⟨rfl, (by repeat (first | exact Ext.refl _ | assumption | refine Ext.alloc ?_ _ | refine Ext.drewN ?_ _ | refine Ext.drew ?_ | refine Ext.trans ?_ (by assumption)))⟩
    · rw [if_neg hbig] at hZ
      have g0 : 0 ≤ left - (s'.size : Int) := by omega
      generalize left - (s'.size : Int) = left2 at hZ g0
      have HZ2 := Lib.hid hZ
      clear hZ hbig
      go_enter Try.func12, Try.ntmps12
      go_wp2_with fail
      refine (HZ.out _ ws (by omega) (by omega)).mono ?_
      rintro e w1 ⟨rfl, E1⟩
      obtain ⟨c0, c1, c2⟩ := (hB2.ext E1).cells3
      go_wp2_with fail
      refine (HZ2.out _ ws' (by omega) (by omega)).mono ?_
      rintro e w2 ⟨rfl, E2⟩
      have B1 := (hB1.ext E1).ext E2
      have B2 := (hB2.ext E1).ext E2
      obtain ⟨p0, p1, p2⟩ := B1.cells3
      obtain ⟨q0, q1, q2⟩ := B2.cells3
      have P0 := Gr.cell p0
      have P1 := Gr.cell p1
      have P2 := Gr.cell p2
      have Q0 := Gr.cell q0
      have Q1 := Gr.cell q1
      have Q2 := Gr.cell q2
      go_wp2_with fail
      (refine wp_region_gr (by kernel_rfl) (by kernel_rfl) ?_; (repeat (first | go_big_quiet_skip | (go_big_quiet_want; go_big_quiet_op; first | go_big_quiet_on | (apply Exists.intro; refine ⟨fun _ => ?_, ?_⟩; (focus (first | (go_at_call_of 24 s; exact Calls.gr (toValue_any k i s _)) | (go_at_call_of 24 s'; exact Calls.gr (toValue_any k' i' s' _)) | (go_at_call 37; exact Calls.gr (HS.out _)))); go_big_quiet_on)))); refine wpQuiet_nil ?_)
      rintro ⟨w3, E3⟩
      clear P0 P1 P2 Q0 Q1 Q2
      obtain ⟨p0, p1, p2⟩ := (B1.ext E3).cells3
      obtain ⟨q0, q1, q2⟩ := (B2.ext E3).cells3
      have P0 := Gr.cell p0
      have P1 := Gr.cell p1
      have P2 := Gr.cell p2
      have Q0 := Gr.cell q0
      have Q1 := Gr.cell q1
      have Q2 := Gr.cell q2
      go_wp2_with fail
      (refine wp_region_gr (by kernel_rfl) (by kernel_rfl) ?_; (repeat (first | go_big_quiet_skip | (go_big_quiet_want; go_big_quiet_op; first | go_big_quiet_on | (apply Exists.intro; refine ⟨fun _ => ?_, ?_⟩; (focus (first | (go_at_call_of 24 s; exact Calls.gr (toValue_any k i s _)) | (go_at_call_of 24 s'; exact Calls.gr (toValue_any k' i' s' _)) | (go_at_call 38; exact Calls.gr (HI.out _)))); go_big_quiet_on)))); refine wpQuiet_nil ?_)
      rintro ⟨w4, E4⟩
      go_wp2_with fail
      go_ret
      exact ⟨rfl, (by repeat (first | exact Ext.refl _ | assumption | refine Ext.alloc ?_ _ | refine Ext.drewN ?_ _ | refine Ext.drew ?_ | refine Ext.trans ?_ (by assumption)))⟩
end Go.Proofs.Ytpjpkkninkpllaa
