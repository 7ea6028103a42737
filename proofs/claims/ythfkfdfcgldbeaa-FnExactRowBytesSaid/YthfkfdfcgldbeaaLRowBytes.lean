/- The walk of FnExactRowBytes (printed by gen_rows2.py). -/
import Derived.Test.YthfkfdfcgldbeaaRowB
import Derived.Test.YthfkfdfcgldbeaaMarkB
namespace Go.Proofs.Ythfkfdfcgldbeaa
open Go.RowKit Go.Deep
set_option linter.unusedVariables false
set_option maxRecDepth 100000
set_option maxHeartbeats 2000000 in
theorem walk_FnExactRowBytes (w : World) (t : Int) (wt : (Lit.int .i64 t).wf = true) (id k1 i1 : Int) (s1 : ByteArray) (k2 i2 : Int) (s2 : ByteArray) (wid : (Lit.int .i64 id).wf = true) (hp : s1.size ≤ maxLen) (hq : s2.size ≤ maxLen) :
    Calls Try.prog 3 #[.int .i64 t, .agg #[.int .i64 id, .int .i64 k1, .int .i64 i1, .string s1, .int .i64 k2, .int .i64 i2, .string s2]] w fun e w' => e = .returned (.bool true) ∧ Ext w w' := by
  clear wt wid
  obtain ⟨r, rfl, rfl, rfl, rfl, rfl, rfl, rfl⟩ : ∃ r : CRow, id = r.id ∧ k1 = r.p.a ∧ i1 = r.p.b ∧ s1 = r.p.c ∧ k2 = r.q.a ∧ i2 = r.q.b ∧ s2 = r.q.c := ⟨⟨id, ⟨k1, i1, s1⟩, ⟨k2, i2, s2⟩⟩, rfl, rfl, rfl, rfl, rfl, rfl, rfl⟩
  have hI := fun W => impl_RowBytes t r W hp hq
  have hS := fun W => spec_RowBytes t r W hp hq
  have hl := rbL_len t r
  generalize rbL t r = L at hI hS hl
  generalize rbC t r = Cc at hI hS
  have HI := Lib.hid hI
  have HS := Lib.hid hS
  clear hI hS
  have hn : L.length ≤ 1099511627776 := by omega
  have hcc : (Cc != Cc) = false := by simp
  have HX := Lib.hid (Blk.new w 25 [.int .i64 r.id, .int .i64 r.p.a, .int .i64 r.p.b, .string r.p.c, .int .i64 r.q.a, .int .i64 r.q.b, .string r.q.c])
  have HE0 := Lib.hid (show Ext w (w.alloc (.cells #[.int .i64 r.id, .int .i64 r.p.a, .int .i64 r.p.b, .string r.p.c, .int .i64 r.q.a, .int .i64 r.q.b, .string r.q.c] 25)) from (by repeat (first | exact Ext.refl _ | assumption | refine Ext.alloc ?_ _ | refine Ext.drewN ?_ _ | refine Ext.drew ?_ | refine Ext.set ?_ (by dsimp only; omega) _ | refine Ext.trans ?_ (by assumption))))
  go_enter Try.func3, Try.ntmps3
  go_wp2_with fail
  refine (szRow_any r 1048576 _ hp hq (by omega) (by omega)).mono ?_
  rintro e w0 ⟨v, rfl, hv1, hv2, -, E0⟩
  by_cases hv : v < 0
  · go_wp2_with fail
    go_ret
    exact ⟨rfl, HE0.out.trans E0⟩
  obtain ⟨x0, x1, x2, x3, x4, x5, x6⟩ := (HX.out.ext E0).cells7
  have HE1 := Lib.hid (HE0.out.trans E0)
  have HX1 := Lib.hid (HX.out.ext E0)
  clear E0 HX HE0
  go_wp2_with fail
  refine (toRow_any r _).mono ?_
  rintro e w1 ⟨rfl, E1⟩
  go_wp2_with fail
  refine (HS.out _).mono ?_
  rintro e w2 ⟨v1, rfl, S1, E2⟩
  have HE2 := Lib.hid (HE1.out.trans (E1.trans E2))
  have HX2 := Lib.hid (HX1.out.ext (E1.trans E2))
  have HS1 := Lib.hid S1
  clear E1 E2 S1 x0 x1 x2 x3 x4 x5 x6 HX1 HE1
  obtain ⟨x0, x1, x2, x3, x4, x5, x6⟩ := HX2.out.cells7
  go_wp2_with fail
  refine (toRow_any r _).mono ?_
  rintro e w3 ⟨rfl, E3⟩
  go_wp2_with fail
  refine (HI.out _).mono ?_
  rintro e w4 ⟨v2, rfl, O4, E4⟩
  have HE4 := Lib.hid (E3.trans E4)
  have HO4 := Lib.hid (own_base O4 E3.le)
  clear E3 E4 O4 x0 x1 x2 x3 x4 x5 x6
  go_wp2_with fail
  refine (eqByteS_sl (Sl.own HO4.out) (HS1.out.ext HE4.out) hn).mono ?_
  rintro e w5 ⟨rfl, E5, -⟩
  go_wp2_with fail
  refine (markByteS_any w2.heap.size L.length v2 1 _ w5 hn (by omega) (by omega) (own_ext HO4.out E5)).mono ?_
  rintro e w6 ⟨rfl, O6, G6⟩
  have X6 : Ext w2 w6 := (HE4.out.trans E5).grown G6 (own_blk HO4.out)
  have HX6 := Lib.hid X6
  have HO6 := Lib.hid O6
  clear X6 O6 G6 E5
  obtain ⟨A2, cap2, rfl⟩ := own_slice HO4.out
  go_wp2_with fail
  refine (heldByteS_any A2 L.length cap2 1 w6 hn (by omega) (by omega) (own_rd' HO6.out).2).mono ?_
  rintro e w7 ⟨rfl, rfl⟩
  obtain ⟨x0, x1, x2, x3, x4, x5, x6⟩ := (HX2.out.ext HX6.out).cells7
  go_wp2_with fail
  refine (toRow_any r _).mono ?_
  rintro e w8 ⟨rfl, E8⟩
  go_wp2_with fail
  refine (HI.out _).mono ?_
  rintro e w9 ⟨v9, rfl, O9, E9⟩
  have HO9 := Lib.hid O9
  have HE9 := Lib.hid (E8.trans E9)
  clear O9 E8 E9 x0 x1 x2 x3 x4 x5 x6
  go_wp2_with fail
  refine (eqByteS_sl (Sl.own HO9.out) (HS1.out.ext (HX6.out.trans HE9.out)) hn).mono ?_
  rintro e wx ⟨rfl, Ex, -⟩
  go_wp2_with fail
  refine (heldByteS_any A2 L.length cap2 1 wx hn (by omega) (by omega) (own_rd' (own_ext HO6.out (HE9.out.trans Ex))).2).mono ?_
  rintro e wy ⟨rfl, rfl⟩
  go_wp2_with fail
  go_ret
  exact ⟨rfl, HE2.out.trans (HX6.out.trans (HE9.out.trans Ex))⟩
end Go.Proofs.Ythfkfdfcgldbeaa
