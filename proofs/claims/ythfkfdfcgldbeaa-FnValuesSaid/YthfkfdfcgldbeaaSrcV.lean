/- The walk of the source of choices' values. -/
import Derived.Test.YthfkfdfcgldbeaaSrc3
import Derived.Test.YthfkfdfcgldbeaaValF
import Derived.Test.YthfkfdfcgldbeaaInts
namespace Go.Proofs.Ythfkfdfcgldbeaa
open Go.RowKit Go.Deep
set_option linter.unusedVariables false
set_option maxRecDepth 100000
def srcVals : List ByteArray := [⟨#[]⟩, ⟨#[97]⟩, ⟨#[97, 98]⟩, ⟨#[97, 98, 99]⟩, ⟨#[98]⟩, ⟨#[122, 122]⟩]
theorem srcVals_ok : ∀ x ∈ srcVals, okV ⟨2, 0, x⟩ = true := by
  intro x hx
  simp only [srcVals, List.mem_cons, List.not_mem_nil, or_false] at hx
  rcases hx with rfl | rfl | rfl | rfl | rfl | rfl <;> kernel_rfl
/-- a value, and what lies behind -/
def VaPost (w0 : World) (e : Ending) (w' : World) : Prop := ∃ x : CValue, e = .returned (.agg #[.int .i64 x.a, .int .i64 x.b, .string x.c]) ∧ okV x = true ∧ Ext w0 w'
theorem VaPost.of {w0 w' : World} (x : CValue) (h : okV x = true) (E : Ext w0 w') : VaPost w0 (.returned (.agg #[.int .i64 x.a, .int .i64 x.b, .string x.c])) w' := ⟨x, rfl, h, E⟩
attribute [irreducible] VaPost
theorem four_ints {a b : Nat} (ha : a < 20) (hb : b < 20) {i : Nat} (hi : i < 4) : ∃ z : Int, ([.int .i64 ((a : Int) - 5), .int .i64 (b : Int), .int .i64 1000000000, .int .i64 (-1000000000)] : List Value)[i]? = some (.int .i64 z) ∧ -1000000000 ≤ z ∧ z ≤ 1000000000 := by
  match i, hi with
  | 0, _ => exact ⟨_, rfl, by omega, by omega⟩
  | 1, _ => exact ⟨_, rfl, by omega, by omega⟩
  | 2, _ => exact ⟨_, rfl, by omega, by omega⟩
  | 3, _ => exact ⟨_, rfl, by omega, by omega⟩
set_option maxHeartbeats 4000000 in
theorem src_value (w0 w : World) (b K : Nat) (hS : Src w0 w b 169 K) (hK : K ≤ 1000000) :
    Calls Try.prog 84 #[.pointer (some ⟨b, 0, none⟩)] w (VaPost w0) := by
  have hlt := hS.lt
  have hb0 := hS.1
  have E0 : Ext w (w.alloc (.cells #[.int .i64 0, .int .i64 0, .string ⟨#[]⟩] 30)) := (by repeat (first | exact Ext.refl _ | assumption | refine Ext.alloc ?_ _ | refine Ext.drewN ?_ _ | refine Ext.drew ?_ | refine Ext.set ?_ (by dsimp only; omega) _ | refine Ext.trans ?_ (by assumption)))
  have HR := Lib.hid (Blk.new w 30 [.int .i64 0, .int .i64 0, .string ⟨#[]⟩])
  have HN := Lib.hid (src_next w0 _ b K 4 (hS.ext E0) (by omega) (by omega) (by omega))
  have hwe := hS.2.1
  have hw0 := hwe.le
  have HWE := Lib.hid hwe
  clear hS E0 hwe
  go_enter Try.func84, Try.ntmps84
  go_wp2_with fail
  refine HN.out.mono ?_
  rintro e w1 ⟨⟨k, rfl, hk⟩, hS1, hG1⟩
  have HS1 := Lib.hid hS1
  have HR1 := Lib.hid (HR.out.grown hG1 (by omega))
  have HE1 := Lib.hid hS1.2.1
  clear hS1 hG1 HR HN
  by_cases hk0 : k = 0
  · subst hk0
    obtain ⟨p0, p1, p2⟩ := HR1.out.cells3
    have f0 := HR1.out.frozen 0
    have f1 := HR1.out.frozen 1
    have f2 := HR1.out.frozen 2
    go_wp2_with fail
    refine bodyPost_ret (v := .agg #[.int .i64 0, .int .i64 0, .string ⟨#[]⟩]) (by simp [results, Try.results84, go_sem, p0, p1, p2]; try rfl) rfl ?_
    exact VaPost.of ⟨0, 0, ⟨#[]⟩⟩ okV_nulV (Ext.set (Ext.set (Ext.set HE1.out hw0 _) hw0 _) hw0 _)
  have hk0I : ((k : Int) == 0) = false := by rw [beq_eq_false_iff_ne]; omega
  by_cases hk1 : k = 1
  · subst hk1
    have E2 : Ext w1 (w1.alloc (.cells #[.string ⟨#[]⟩, .string ⟨#[97]⟩, .string ⟨#[97, 98]⟩, .string ⟨#[97, 98, 99]⟩, .string ⟨#[98]⟩, .string ⟨#[122, 122]⟩] 9)) := (by repeat (first | exact Ext.refl _ | assumption | refine Ext.alloc ?_ _ | refine Ext.drewN ?_ _ | refine Ext.drew ?_ | refine Ext.set ?_ (by dsimp only; omega) _ | refine Ext.trans ?_ (by assumption)))
    have HP := Lib.hid (src_pick w0 _ b (K + 1) (some ⟨w1.heap.size, 0, none⟩) 6 6 srcVals (HS1.out.ext E2) (by omega) rfl (by omega) (by omega) (show Rd _ _ [.string ⟨#[]⟩, .string ⟨#[97]⟩, .string ⟨#[97, 98]⟩, .string ⟨#[97, 98, 99]⟩, .string ⟨#[98]⟩, .string ⟨#[122, 122]⟩] from (Blk.new w1 9 [.string ⟨#[]⟩, .string ⟨#[97]⟩, .string ⟨#[97, 98]⟩, .string ⟨#[97, 98, 99]⟩, .string ⟨#[98]⟩, .string ⟨#[122, 122]⟩]).rd))
    have HR2 := Lib.hid (HR1.out.ext E2)
    clear E2 HR1 HE1
    go_wp2_with fail
    refine HP.out.mono ?_
    rintro e w3 ⟨⟨x, rfl, hx⟩, hS3, hG3⟩
    have HX := Lib.hid (srcVals_ok x hx)
    have HR3 := Lib.hid (HR2.out.grown hG3 (by omega))
    have HE3 := Lib.hid hS3.2.1
    clear hS3 hG3 hx HR2 HP
    obtain ⟨p0, p1, p2⟩ := HR3.out.cells3
    have f0 := HR3.out.frozen 0
    have f1 := HR3.out.frozen 1
    have f2 := HR3.out.frozen 2
    go_wp2_with fail
    refine bodyPost_ret (v := .agg #[.int .i64 2, .int .i64 0, .string x]) (by simp [results, Try.results84, go_sem, p0, p1, p2]; try rfl) rfl ?_
    exact VaPost.of ⟨2, 0, x⟩ HX.out (Ext.set (Ext.set (Ext.set HE3.out hw0 _) hw0 _) hw0 _)
  have hk1I : ((k : Int) == 1) = false := by rw [beq_eq_false_iff_ne]; omega
  have HN2 := Lib.hid (src_next w0 _ b (K + 1) 20 HS1.out (by omega) (by omega) (by omega))
  clear hk0 hk1
  go_wp2_with fail
  refine HN2.out.mono ?_
  rintro e w2 ⟨⟨x, rfl, hx⟩, hS2, hG2⟩
  have HR2 := Lib.hid (HR1.out.grown hG2 (by omega))
  have HN3 := Lib.hid (src_next w0 _ b (K + 1 + 1) 20 hS2 (by omega) (by omega) (by omega))
  clear hS2 hG2 HN2 HR1
  go_wp2_with fail
  refine HN3.out.mono ?_
  rintro e w3 ⟨⟨y, rfl, hy⟩, hS3, hG3⟩
  have HR3 := Lib.hid (HR2.out.grown hG3 (by omega))
  have HS3 := Lib.hid hS3
  clear hS3 hG3 HN3 HR2
  have hL := Blk.new w3 3 [.int .i64 ((x : Int) - 5), .int .i64 (y : Int), .int .i64 1000000000, .int .i64 (-1000000000)]
  have E4 : Ext w3 (w3.alloc (.cells #[.int .i64 ((x : Int) - 5), .int .i64 (y : Int), .int .i64 1000000000, .int .i64 (-1000000000)] 3)) := (by repeat (first | exact Ext.refl _ | assumption | refine Ext.alloc ?_ _ | refine Ext.drewN ?_ _ | refine Ext.drew ?_ | refine Ext.set ?_ (by dsimp only; omega) _ | refine Ext.trans ?_ (by assumption)))
  have HN4 := Lib.hid (src_next w0 _ b (K + 1 + 1 + 1) 8 (HS3.out.ext E4) (by omega) (by omega) (by omega))
  have HL := Lib.hid hL
  have HR4 := Lib.hid (HR3.out.ext E4)
  have hblt := HS3.out.lt
  clear hL E4 HR3 HS3
  go_wp2_with fail
  refine HN4.out.mono ?_
  rintro e w5 ⟨⟨d, rfl, hd⟩, hS5, hG5⟩
  have HL5 := Lib.hid (HL.out.grown hG5 (by omega))
  have HR5 := Lib.hid (HR4.out.grown hG5 (by omega))
  have HE5 := Lib.hid hS5.2.1
  obtain ⟨i, hi4, hi⟩ : ∃ i : Nat, i < 4 ∧ i = d / 2 := ⟨d / 2, by omega, rfl⟩
  have hiI : (d : Int) / 2 = (i : Int) := by omega
  obtain ⟨z, hz, hz1, hz2⟩ := four_ints hx hy hi4
  have cz : w5.cell? ⟨w3.heap.size, i, none⟩ = some (.int .i64 z) := by
    obtain ⟨b', o', e', hc⟩ := HL5.out.rd (by simp)
    injection e' with e'
    injection e' with e1 e2 _
    subst e1; subst e2
    have := hc i _ hz
    rwa [Nat.zero_add] at this
  have HZ := Lib.hid (okV_numV hz1 hz2)
  have hi0 : (0 : Int) ≤ (i : Int) := by omega
  have hi4I : (i : Int) < 4 := by omega
  clear hS5 hG5 hz HL HR4 hi HN4 HL5 hz1 hz2
  obtain ⟨p0, p1, p2⟩ := HR5.out.cells3
  have f0 := HR5.out.frozen 0
  have f1 := HR5.out.frozen 1
  have f2 := HR5.out.frozen 2
  go_wp2_with fail
  refine bodyPost_ret (v := .agg #[.int .i64 1, .int .i64 z, .string ⟨#[]⟩]) (by simp [results, Try.results84, go_sem, p0, p1, p2]; try rfl) rfl ?_
  exact VaPost.of ⟨1, z, ⟨#[]⟩⟩ HZ.out (Ext.set (Ext.set (Ext.set HE5.out hw0 _) hw0 _) hw0 _)
end Go.Proofs.Ythfkfdfcgldbeaa
