/- The walk of what two values join (printed by gen_bin3.py). -/
import Derived.Test.YthfkfdfcgldbeaaBin2
namespace Go.Proofs.Ythfkfdfcgldbeaa
open Go.RowKit Go.Deep
set_option linter.unusedVariables false
set_option maxRecDepth 100000
theorem run_eql_Value (x y : CValue) (W : World) : (binOp .eql 30 (.agg #[.int .i64 x.a, .int .i64 x.b, .string x.c]) (.agg #[.int .i64 y.a, .int .i64 y.b, .string y.c])).run Try.prog W = .ok (.bool (vEq x y)) W := by
  obtain ⟨a, b, c⟩ := x
  obtain ⟨a', b', c'⟩ := y
  dsimp only [vEq]
  by_cases h1 : a = a'
  · subst h1
    by_cases h2 : b = b'
    · subst h2
      by_cases h3 : c = c'
      · subst h3
        go_simp
      · have h4 : ¬ c.toList = c'.toList := by intro h; apply h3; rw [ByteArray.toList_eq, ByteArray.toList_eq] at h; exact ByteArray.ext (Array.toList_inj.1 h)
        go_simp
    · go_simp
  · go_simp
set_option maxHeartbeats 8000000 in
theorem impl_binary12 (a b : CValue) (w : World) (ha : okV a = true) (hb : okV b = true) : Calls Try.prog 82 #[.int .i64 12, .agg #[.int .i64 a.a, .int .i64 a.b, .string a.c], .agg #[.int .i64 b.a, .int .i64 b.b, .string b.c]] w (RetV w (binV 12 a b) (binC 12 a b)) := by
  have HK := Lib.hid (fun W => impl_connect12 a b W ha hb)
  have HV := Lib.hid (show binV 12 a b = conV 12 a b from rfl)
  have HC := Lib.hid (show binC 12 a b = conC a b from rfl)
  have hX := Blk.new ((w.alloc (.cells #[.int .i64 a.a, .int .i64 a.b, .string a.c] 30)).alloc (.cells #[.int .i64 b.a, .int .i64 b.b, .string b.c] 30)) 30 [.int .i64 0, .int .i64 0, .string ⟨#[]⟩]
  rw [World.size_alloc, World.size_alloc] at hX
  have HX := Lib.hid hX
  clear hX
  clear ha hb
  generalize conV 12 a b = x at HK HV
  generalize conC a b = c at HK HC
  go_enter Try.func82, Try.ntmps82
  go_wp2_with fail
  refine (HK.out _).mono ?_
  rintro e w1 ⟨rfl, E1⟩
  obtain ⟨r0, r1, r2⟩ := (HX.out.ext E1).cells3
  have f0 := (HX.out.ext E1).frozen 0
  have f1 := (HX.out.ext E1).frozen 1
  have f2 := (HX.out.ext E1).frozen 2
  go_wp2_with fail
  refine bodyPost_ret (v := .tuple #[.agg #[.int .i64 x.a, .int .i64 x.b, .string x.c], .int .i64 c]) (by simp [results, Try.results82, go_sem, r0, r1, r2]; try rfl) rfl ?_
  unfold RetV
  rw [HV.out, HC.out]
  exact ⟨rfl, (by repeat (first | exact Ext.refl _ | assumption | refine Ext.alloc ?_ _ | refine Ext.drewN ?_ _ | refine Ext.drew ?_ | refine Ext.set ?_ (by dsimp only; omega) _ | refine Ext.trans ?_ (by assumption)))⟩
set_option maxHeartbeats 8000000 in
theorem impl_binary13 (a b : CValue) (w : World) (ha : okV a = true) (hb : okV b = true) : Calls Try.prog 82 #[.int .i64 13, .agg #[.int .i64 a.a, .int .i64 a.b, .string a.c], .agg #[.int .i64 b.a, .int .i64 b.b, .string b.c]] w (RetV w (binV 13 a b) (binC 13 a b)) := by
  have HK := Lib.hid (fun W => impl_connect13 a b W ha hb)
  have HV := Lib.hid (show binV 13 a b = conV 13 a b from rfl)
  have HC := Lib.hid (show binC 13 a b = conC a b from rfl)
  have hX := Blk.new ((w.alloc (.cells #[.int .i64 a.a, .int .i64 a.b, .string a.c] 30)).alloc (.cells #[.int .i64 b.a, .int .i64 b.b, .string b.c] 30)) 30 [.int .i64 0, .int .i64 0, .string ⟨#[]⟩]
  rw [World.size_alloc, World.size_alloc] at hX
  have HX := Lib.hid hX
  clear hX
  clear ha hb
  generalize conV 13 a b = x at HK HV
  generalize conC a b = c at HK HC
  go_enter Try.func82, Try.ntmps82
  go_wp2_with fail
  refine (HK.out _).mono ?_
  rintro e w1 ⟨rfl, E1⟩
  obtain ⟨r0, r1, r2⟩ := (HX.out.ext E1).cells3
  have f0 := (HX.out.ext E1).frozen 0
  have f1 := (HX.out.ext E1).frozen 1
  have f2 := (HX.out.ext E1).frozen 2
  go_wp2_with fail
  refine bodyPost_ret (v := .tuple #[.agg #[.int .i64 x.a, .int .i64 x.b, .string x.c], .int .i64 c]) (by simp [results, Try.results82, go_sem, r0, r1, r2]; try rfl) rfl ?_
  unfold RetV
  rw [HV.out, HC.out]
  exact ⟨rfl, (by repeat (first | exact Ext.refl _ | assumption | refine Ext.alloc ?_ _ | refine Ext.drewN ?_ _ | refine Ext.drew ?_ | refine Ext.set ?_ (by dsimp only; omega) _ | refine Ext.trans ?_ (by assumption)))⟩
set_option maxHeartbeats 8000000 in
theorem impl_binary10 (a b : CValue) (w : World) (ha : okV a = true) (hb : okV b = true) : Calls Try.prog 82 #[.int .i64 10, .agg #[.int .i64 a.a, .int .i64 a.b, .string a.c], .agg #[.int .i64 b.a, .int .i64 b.b, .string b.c]] w (RetV w (binV 10 a b) (binC 10 a b)) := by
  have sa := okV_shape ha
  have sb := okV_shape hb
  clear ha hb
  rcases sa with rfl | ⟨n, rfl, -, -⟩ | ⟨s, rfl, -⟩
  · rcases sb with rfl | ⟨m, rfl, -, -⟩ | ⟨t, rfl, -⟩
    · show Calls Try.prog 82 #[.int .i64 10, .agg #[.int .i64 0, .int .i64 0, .string ByteArray.empty], .agg #[.int .i64 0, .int .i64 0, .string ByteArray.empty]] w _
      have HV := Lib.hid (show binV 10 nulV nulV = nulV from rfl)
      have HC := Lib.hid (show binC 10 nulV nulV = 0 from rfl)
      go_enter Try.func82, Try.ntmps82
      go_wp2_with fail
      refine bodyPost_ret (v := .tuple #[.agg #[.int .i64 0, .int .i64 0, .string ByteArray.empty], .int .i64 0]) (by simp [results, Try.results82, go_sem]; try rfl) rfl ?_
      unfold RetV
      rw [HV.out, HC.out]
      exact ⟨rfl, (by repeat (first | exact Ext.refl _ | assumption | refine Ext.alloc ?_ _ | refine Ext.drewN ?_ _ | refine Ext.drew ?_ | refine Ext.set ?_ (by dsimp only; omega) _ | refine Ext.trans ?_ (by assumption)))⟩
    · show Calls Try.prog 82 #[.int .i64 10, .agg #[.int .i64 0, .int .i64 0, .string ByteArray.empty], .agg #[.int .i64 1, .int .i64 m, .string ByteArray.empty]] w _
      have HV := Lib.hid (show binV 10 nulV (numV m) = nulV from rfl)
      have HC := Lib.hid (show binC 10 nulV (numV m) = 0 from rfl)
      go_enter Try.func82, Try.ntmps82
      go_wp2_with fail
      refine bodyPost_ret (v := .tuple #[.agg #[.int .i64 0, .int .i64 0, .string ByteArray.empty], .int .i64 0]) (by simp [results, Try.results82, go_sem]; try rfl) rfl ?_
      unfold RetV
      rw [HV.out, HC.out]
      exact ⟨rfl, (by repeat (first | exact Ext.refl _ | assumption | refine Ext.alloc ?_ _ | refine Ext.drewN ?_ _ | refine Ext.drew ?_ | refine Ext.set ?_ (by dsimp only; omega) _ | refine Ext.trans ?_ (by assumption)))⟩
    · show Calls Try.prog 82 #[.int .i64 10, .agg #[.int .i64 0, .int .i64 0, .string ByteArray.empty], .agg #[.int .i64 2, .int .i64 0, .string t]] w _
      have HV := Lib.hid (show binV 10 nulV ⟨2, 0, t⟩ = nulV from rfl)
      have HC := Lib.hid (show binC 10 nulV ⟨2, 0, t⟩ = 0 from rfl)
      go_enter Try.func82, Try.ntmps82
      go_wp2_with fail
      refine bodyPost_ret (v := .tuple #[.agg #[.int .i64 0, .int .i64 0, .string ByteArray.empty], .int .i64 0]) (by simp [results, Try.results82, go_sem]; try rfl) rfl ?_
      unfold RetV
      rw [HV.out, HC.out]
      exact ⟨rfl, (by repeat (first | exact Ext.refl _ | assumption | refine Ext.alloc ?_ _ | refine Ext.drewN ?_ _ | refine Ext.drew ?_ | refine Ext.set ?_ (by dsimp only; omega) _ | refine Ext.trans ?_ (by assumption)))⟩
  · rcases sb with rfl | ⟨m, rfl, -, -⟩ | ⟨t, rfl, -⟩
    · show Calls Try.prog 82 #[.int .i64 10, .agg #[.int .i64 1, .int .i64 n, .string ByteArray.empty], .agg #[.int .i64 0, .int .i64 0, .string ByteArray.empty]] w _
      have HV := Lib.hid (show binV 10 (numV n) nulV = nulV from rfl)
      have HC := Lib.hid (show binC 10 (numV n) nulV = 0 from rfl)
      go_enter Try.func82, Try.ntmps82
      go_wp2_with fail
      refine bodyPost_ret (v := .tuple #[.agg #[.int .i64 0, .int .i64 0, .string ByteArray.empty], .int .i64 0]) (by simp [results, Try.results82, go_sem]; try rfl) rfl ?_
      unfold RetV
      rw [HV.out, HC.out]
      exact ⟨rfl, (by repeat (first | exact Ext.refl _ | assumption | refine Ext.alloc ?_ _ | refine Ext.drewN ?_ _ | refine Ext.drew ?_ | refine Ext.set ?_ (by dsimp only; omega) _ | refine Ext.trans ?_ (by assumption)))⟩
    · have hX := Blk.new ((w.alloc (.cells #[.int .i64 1, .int .i64 n, .string ByteArray.empty] 30)).alloc (.cells #[.int .i64 1, .int .i64 m, .string ByteArray.empty] 30)) 30 [.int .i64 0, .int .i64 0, .string ⟨#[]⟩]
      rw [World.size_alloc, World.size_alloc] at hX
      have HX := Lib.hid hX
      clear hX
      show Calls Try.prog 82 #[.int .i64 10, .agg #[.int .i64 1, .int .i64 n, .string ByteArray.empty], .agg #[.int .i64 1, .int .i64 m, .string ByteArray.empty]] w _
      have hq : (∀ W, (binOp .eql 30 (.agg #[.int .i64 1, .int .i64 n, .string ByteArray.empty]) (.agg #[.int .i64 1, .int .i64 m, .string ByteArray.empty])).run Try.prog W = .ok (.bool (vEq (numV n) (numV m))) W) := fun W => run_eql_Value (numV n) (numV m) W
      have hV : binV 10 (numV n) (numV m) = bitV (vEq (numV n) (numV m)) := rfl
      generalize vEq (numV n) (numV m) = q at hq hV
      have HV := Lib.hid hV
      clear hV
      have HC := Lib.hid (show binC 10 (numV n) (numV m) = 0 from rfl)
      have HT := Lib.hid (fun W => impl_truth q W)
      go_enter Try.func82, Try.ntmps82
      go_wp2_with fail
      refine (HT.out _).mono ?_
      rintro e w1 ⟨rfl, E1⟩
      obtain ⟨r10, r11, r12⟩ := (HX.out.ext E1).cells3
      have f10 := (HX.out.ext E1).frozen 0
      have f11 := (HX.out.ext E1).frozen 1
      have f12 := (HX.out.ext E1).frozen 2
      go_wp2_with fail
      refine bodyPost_ret (v := .tuple #[.agg #[.int .i64 (bitV q).a, .int .i64 (bitV q).b, .string (bitV q).c], .int .i64 0]) (by simp [results, Try.results82, go_sem, r10, r11, r12]; try rfl) rfl ?_
      unfold RetV
      rw [HV.out, HC.out]
      exact ⟨rfl, (by repeat (first | exact Ext.refl _ | assumption | refine Ext.alloc ?_ _ | refine Ext.drewN ?_ _ | refine Ext.drew ?_ | refine Ext.set ?_ (by dsimp only; omega) _ | refine Ext.trans ?_ (by assumption)))⟩
    · show Calls Try.prog 82 #[.int .i64 10, .agg #[.int .i64 1, .int .i64 n, .string ByteArray.empty], .agg #[.int .i64 2, .int .i64 0, .string t]] w _
      have HV := Lib.hid (show binV 10 (numV n) ⟨2, 0, t⟩ = nulV from rfl)
      have HC := Lib.hid (show binC 10 (numV n) ⟨2, 0, t⟩ = 10 from rfl)
      go_enter Try.func82, Try.ntmps82
      go_wp2_with fail
      refine bodyPost_ret (v := .tuple #[.agg #[.int .i64 0, .int .i64 0, .string ByteArray.empty], .int .i64 10]) (by simp [results, Try.results82, go_sem]; try rfl) rfl ?_
      unfold RetV
      rw [HV.out, HC.out]
      exact ⟨rfl, (by repeat (first | exact Ext.refl _ | assumption | refine Ext.alloc ?_ _ | refine Ext.drewN ?_ _ | refine Ext.drew ?_ | refine Ext.set ?_ (by dsimp only; omega) _ | refine Ext.trans ?_ (by assumption)))⟩
  · rcases sb with rfl | ⟨m, rfl, -, -⟩ | ⟨t, rfl, -⟩
    · show Calls Try.prog 82 #[.int .i64 10, .agg #[.int .i64 2, .int .i64 0, .string s], .agg #[.int .i64 0, .int .i64 0, .string ByteArray.empty]] w _
      have HV := Lib.hid (show binV 10 ⟨2, 0, s⟩ nulV = nulV from rfl)
      have HC := Lib.hid (show binC 10 ⟨2, 0, s⟩ nulV = 0 from rfl)
      go_enter Try.func82, Try.ntmps82
      go_wp2_with fail
      refine bodyPost_ret (v := .tuple #[.agg #[.int .i64 0, .int .i64 0, .string ByteArray.empty], .int .i64 0]) (by simp [results, Try.results82, go_sem]; try rfl) rfl ?_
      unfold RetV
      rw [HV.out, HC.out]
      exact ⟨rfl, (by repeat (first | exact Ext.refl _ | assumption | refine Ext.alloc ?_ _ | refine Ext.drewN ?_ _ | refine Ext.drew ?_ | refine Ext.set ?_ (by dsimp only; omega) _ | refine Ext.trans ?_ (by assumption)))⟩
    · show Calls Try.prog 82 #[.int .i64 10, .agg #[.int .i64 2, .int .i64 0, .string s], .agg #[.int .i64 1, .int .i64 m, .string ByteArray.empty]] w _
      have HV := Lib.hid (show binV 10 ⟨2, 0, s⟩ (numV m) = nulV from rfl)
      have HC := Lib.hid (show binC 10 ⟨2, 0, s⟩ (numV m) = 10 from rfl)
      go_enter Try.func82, Try.ntmps82
      go_wp2_with fail
      refine bodyPost_ret (v := .tuple #[.agg #[.int .i64 0, .int .i64 0, .string ByteArray.empty], .int .i64 10]) (by simp [results, Try.results82, go_sem]; try rfl) rfl ?_
      unfold RetV
      rw [HV.out, HC.out]
      exact ⟨rfl, (by repeat (first | exact Ext.refl _ | assumption | refine Ext.alloc ?_ _ | refine Ext.drewN ?_ _ | refine Ext.drew ?_ | refine Ext.set ?_ (by dsimp only; omega) _ | refine Ext.trans ?_ (by assumption)))⟩
    · have hX := Blk.new ((w.alloc (.cells #[.int .i64 2, .int .i64 0, .string s] 30)).alloc (.cells #[.int .i64 2, .int .i64 0, .string t] 30)) 30 [.int .i64 0, .int .i64 0, .string ⟨#[]⟩]
      rw [World.size_alloc, World.size_alloc] at hX
      have HX := Lib.hid hX
      clear hX
      show Calls Try.prog 82 #[.int .i64 10, .agg #[.int .i64 2, .int .i64 0, .string s], .agg #[.int .i64 2, .int .i64 0, .string t]] w _
      have hq : (∀ W, (binOp .eql 30 (.agg #[.int .i64 2, .int .i64 0, .string s]) (.agg #[.int .i64 2, .int .i64 0, .string t])).run Try.prog W = .ok (.bool (vEq ⟨2, 0, s⟩ ⟨2, 0, t⟩)) W) := fun W => run_eql_Value ⟨2, 0, s⟩ ⟨2, 0, t⟩ W
      have hV : binV 10 ⟨2, 0, s⟩ ⟨2, 0, t⟩ = bitV (vEq ⟨2, 0, s⟩ ⟨2, 0, t⟩) := rfl
      generalize vEq ⟨2, 0, s⟩ ⟨2, 0, t⟩ = q at hq hV
      have HV := Lib.hid hV
      clear hV
      have HC := Lib.hid (show binC 10 ⟨2, 0, s⟩ ⟨2, 0, t⟩ = 0 from rfl)
      have HT := Lib.hid (fun W => impl_truth q W)
      go_enter Try.func82, Try.ntmps82
      go_wp2_with fail
      refine (HT.out _).mono ?_
      rintro e w1 ⟨rfl, E1⟩
      obtain ⟨r10, r11, r12⟩ := (HX.out.ext E1).cells3
      have f10 := (HX.out.ext E1).frozen 0
      have f11 := (HX.out.ext E1).frozen 1
      have f12 := (HX.out.ext E1).frozen 2
      go_wp2_with fail
      refine bodyPost_ret (v := .tuple #[.agg #[.int .i64 (bitV q).a, .int .i64 (bitV q).b, .string (bitV q).c], .int .i64 0]) (by simp [results, Try.results82, go_sem, r10, r11, r12]; try rfl) rfl ?_
      unfold RetV
      rw [HV.out, HC.out]
      exact ⟨rfl, (by repeat (first | exact Ext.refl _ | assumption | refine Ext.alloc ?_ _ | refine Ext.drewN ?_ _ | refine Ext.drew ?_ | refine Ext.set ?_ (by dsimp only; omega) _ | refine Ext.trans ?_ (by assumption)))⟩
set_option maxHeartbeats 8000000 in
theorem impl_binary11 (a b : CValue) (w : World) (ha : okV a = true) (hb : okV b = true) : Calls Try.prog 82 #[.int .i64 11, .agg #[.int .i64 a.a, .int .i64 a.b, .string a.c], .agg #[.int .i64 b.a, .int .i64 b.b, .string b.c]] w (RetV w (binV 11 a b) (binC 11 a b)) := by
  have sa := okV_shape ha
  have sb := okV_shape hb
  clear ha hb
  rcases sa with rfl | ⟨n, rfl, -, -⟩ | ⟨s, rfl, -⟩
  · rcases sb with rfl | ⟨m, rfl, -, -⟩ | ⟨t, rfl, -⟩
    · show Calls Try.prog 82 #[.int .i64 11, .agg #[.int .i64 0, .int .i64 0, .string ByteArray.empty], .agg #[.int .i64 0, .int .i64 0, .string ByteArray.empty]] w _
      have HV := Lib.hid (show binV 11 nulV nulV = nulV from rfl)
      have HC := Lib.hid (show binC 11 nulV nulV = 0 from rfl)
      go_enter Try.func82, Try.ntmps82
      go_wp2_with fail
      refine bodyPost_ret (v := .tuple #[.agg #[.int .i64 0, .int .i64 0, .string ByteArray.empty], .int .i64 0]) (by simp [results, Try.results82, go_sem]; try rfl) rfl ?_
      unfold RetV
      rw [HV.out, HC.out]
      exact ⟨rfl, (by repeat (first | exact Ext.refl _ | assumption | refine Ext.alloc ?_ _ | refine Ext.drewN ?_ _ | refine Ext.drew ?_ | refine Ext.set ?_ (by dsimp only; omega) _ | refine Ext.trans ?_ (by assumption)))⟩
    · show Calls Try.prog 82 #[.int .i64 11, .agg #[.int .i64 0, .int .i64 0, .string ByteArray.empty], .agg #[.int .i64 1, .int .i64 m, .string ByteArray.empty]] w _
      have HV := Lib.hid (show binV 11 nulV (numV m) = nulV from rfl)
      have HC := Lib.hid (show binC 11 nulV (numV m) = 0 from rfl)
      go_enter Try.func82, Try.ntmps82
      go_wp2_with fail
      refine bodyPost_ret (v := .tuple #[.agg #[.int .i64 0, .int .i64 0, .string ByteArray.empty], .int .i64 0]) (by simp [results, Try.results82, go_sem]; try rfl) rfl ?_
      unfold RetV
      rw [HV.out, HC.out]
      exact ⟨rfl, (by repeat (first | exact Ext.refl _ | assumption | refine Ext.alloc ?_ _ | refine Ext.drewN ?_ _ | refine Ext.drew ?_ | refine Ext.set ?_ (by dsimp only; omega) _ | refine Ext.trans ?_ (by assumption)))⟩
    · show Calls Try.prog 82 #[.int .i64 11, .agg #[.int .i64 0, .int .i64 0, .string ByteArray.empty], .agg #[.int .i64 2, .int .i64 0, .string t]] w _
      have HV := Lib.hid (show binV 11 nulV ⟨2, 0, t⟩ = nulV from rfl)
      have HC := Lib.hid (show binC 11 nulV ⟨2, 0, t⟩ = 0 from rfl)
      go_enter Try.func82, Try.ntmps82
      go_wp2_with fail
      refine bodyPost_ret (v := .tuple #[.agg #[.int .i64 0, .int .i64 0, .string ByteArray.empty], .int .i64 0]) (by simp [results, Try.results82, go_sem]; try rfl) rfl ?_
      unfold RetV
      rw [HV.out, HC.out]
      exact ⟨rfl, (by repeat (first | exact Ext.refl _ | assumption | refine Ext.alloc ?_ _ | refine Ext.drewN ?_ _ | refine Ext.drew ?_ | refine Ext.set ?_ (by dsimp only; omega) _ | refine Ext.trans ?_ (by assumption)))⟩
  · rcases sb with rfl | ⟨m, rfl, -, -⟩ | ⟨t, rfl, -⟩
    · show Calls Try.prog 82 #[.int .i64 11, .agg #[.int .i64 1, .int .i64 n, .string ByteArray.empty], .agg #[.int .i64 0, .int .i64 0, .string ByteArray.empty]] w _
      have HV := Lib.hid (show binV 11 (numV n) nulV = nulV from rfl)
      have HC := Lib.hid (show binC 11 (numV n) nulV = 0 from rfl)
      go_enter Try.func82, Try.ntmps82
      go_wp2_with fail
      refine bodyPost_ret (v := .tuple #[.agg #[.int .i64 0, .int .i64 0, .string ByteArray.empty], .int .i64 0]) (by simp [results, Try.results82, go_sem]; try rfl) rfl ?_
      unfold RetV
      rw [HV.out, HC.out]
      exact ⟨rfl, (by repeat (first | exact Ext.refl _ | assumption | refine Ext.alloc ?_ _ | refine Ext.drewN ?_ _ | refine Ext.drew ?_ | refine Ext.set ?_ (by dsimp only; omega) _ | refine Ext.trans ?_ (by assumption)))⟩
    · have hX := Blk.new ((w.alloc (.cells #[.int .i64 1, .int .i64 n, .string ByteArray.empty] 30)).alloc (.cells #[.int .i64 1, .int .i64 m, .string ByteArray.empty] 30)) 30 [.int .i64 0, .int .i64 0, .string ⟨#[]⟩]
      rw [World.size_alloc, World.size_alloc] at hX
      have HX := Lib.hid hX
      clear hX
      show Calls Try.prog 82 #[.int .i64 11, .agg #[.int .i64 1, .int .i64 n, .string ByteArray.empty], .agg #[.int .i64 1, .int .i64 m, .string ByteArray.empty]] w _
      have hK := fun W => impl_compare 1 n ByteArray.empty 1 m ByteArray.empty W
      have hV : binV 11 (numV n) (numV m) = bitV (decide (cmpV 1 n ByteArray.empty 1 m ByteArray.empty < 0)) := rfl
      generalize cmpV 1 n ByteArray.empty 1 m ByteArray.empty = c at hK hV
      have HK := Lib.hid hK
      have HV := Lib.hid hV
      clear hV hK
      have HC := Lib.hid (show binC 11 (numV n) (numV m) = 0 from rfl)
      have HT := Lib.hid (fun W => impl_truth (decide (c < 0)) W)
      go_enter Try.func82, Try.ntmps82
      go_wp2_with fail
      refine (HK.out _).mono ?_
      rintro e w1 ⟨rfl, E1⟩
      obtain ⟨r10, r11, r12⟩ := (HX.out.ext E1).cells3
      have f10 := (HX.out.ext E1).frozen 0
      have f11 := (HX.out.ext E1).frozen 1
      have f12 := (HX.out.ext E1).frozen 2
      go_wp2_with fail
      refine (HT.out _).mono ?_
      rintro e w2 ⟨rfl, E2⟩
      obtain ⟨r20, r21, r22⟩ := (HX.out.ext (E1.trans E2)).cells3
      have f20 := (HX.out.ext (E1.trans E2)).frozen 0
      have f21 := (HX.out.ext (E1.trans E2)).frozen 1
      have f22 := (HX.out.ext (E1.trans E2)).frozen 2
      go_wp2_with fail
      refine bodyPost_ret (v := .tuple #[.agg #[.int .i64 (bitV (decide (c < 0))).a, .int .i64 (bitV (decide (c < 0))).b, .string (bitV (decide (c < 0))).c], .int .i64 0]) (by simp [results, Try.results82, go_sem, r20, r21, r22]; try rfl) rfl ?_
      unfold RetV
      rw [HV.out, HC.out]
      exact ⟨rfl, (by repeat (first | exact Ext.refl _ | assumption | refine Ext.alloc ?_ _ | refine Ext.drewN ?_ _ | refine Ext.drew ?_ | refine Ext.set ?_ (by dsimp only; omega) _ | refine Ext.trans ?_ (by assumption)))⟩
    · show Calls Try.prog 82 #[.int .i64 11, .agg #[.int .i64 1, .int .i64 n, .string ByteArray.empty], .agg #[.int .i64 2, .int .i64 0, .string t]] w _
      have HV := Lib.hid (show binV 11 (numV n) ⟨2, 0, t⟩ = nulV from rfl)
      have HC := Lib.hid (show binC 11 (numV n) ⟨2, 0, t⟩ = 10 from rfl)
      go_enter Try.func82, Try.ntmps82
      go_wp2_with fail
      refine bodyPost_ret (v := .tuple #[.agg #[.int .i64 0, .int .i64 0, .string ByteArray.empty], .int .i64 10]) (by simp [results, Try.results82, go_sem]; try rfl) rfl ?_
      unfold RetV
      rw [HV.out, HC.out]
      exact ⟨rfl, (by repeat (first | exact Ext.refl _ | assumption | refine Ext.alloc ?_ _ | refine Ext.drewN ?_ _ | refine Ext.drew ?_ | refine Ext.set ?_ (by dsimp only; omega) _ | refine Ext.trans ?_ (by assumption)))⟩
  · rcases sb with rfl | ⟨m, rfl, -, -⟩ | ⟨t, rfl, -⟩
    · show Calls Try.prog 82 #[.int .i64 11, .agg #[.int .i64 2, .int .i64 0, .string s], .agg #[.int .i64 0, .int .i64 0, .string ByteArray.empty]] w _
      have HV := Lib.hid (show binV 11 ⟨2, 0, s⟩ nulV = nulV from rfl)
      have HC := Lib.hid (show binC 11 ⟨2, 0, s⟩ nulV = 0 from rfl)
      go_enter Try.func82, Try.ntmps82
      go_wp2_with fail
      refine bodyPost_ret (v := .tuple #[.agg #[.int .i64 0, .int .i64 0, .string ByteArray.empty], .int .i64 0]) (by simp [results, Try.results82, go_sem]; try rfl) rfl ?_
      unfold RetV
      rw [HV.out, HC.out]
      exact ⟨rfl, (by repeat (first | exact Ext.refl _ | assumption | refine Ext.alloc ?_ _ | refine Ext.drewN ?_ _ | refine Ext.drew ?_ | refine Ext.set ?_ (by dsimp only; omega) _ | refine Ext.trans ?_ (by assumption)))⟩
    · show Calls Try.prog 82 #[.int .i64 11, .agg #[.int .i64 2, .int .i64 0, .string s], .agg #[.int .i64 1, .int .i64 m, .string ByteArray.empty]] w _
      have HV := Lib.hid (show binV 11 ⟨2, 0, s⟩ (numV m) = nulV from rfl)
      have HC := Lib.hid (show binC 11 ⟨2, 0, s⟩ (numV m) = 10 from rfl)
      go_enter Try.func82, Try.ntmps82
      go_wp2_with fail
      refine bodyPost_ret (v := .tuple #[.agg #[.int .i64 0, .int .i64 0, .string ByteArray.empty], .int .i64 10]) (by simp [results, Try.results82, go_sem]; try rfl) rfl ?_
      unfold RetV
      rw [HV.out, HC.out]
      exact ⟨rfl, (by repeat (first | exact Ext.refl _ | assumption | refine Ext.alloc ?_ _ | refine Ext.drewN ?_ _ | refine Ext.drew ?_ | refine Ext.set ?_ (by dsimp only; omega) _ | refine Ext.trans ?_ (by assumption)))⟩
    · have hX := Blk.new ((w.alloc (.cells #[.int .i64 2, .int .i64 0, .string s] 30)).alloc (.cells #[.int .i64 2, .int .i64 0, .string t] 30)) 30 [.int .i64 0, .int .i64 0, .string ⟨#[]⟩]
      rw [World.size_alloc, World.size_alloc] at hX
      have HX := Lib.hid hX
      clear hX
      show Calls Try.prog 82 #[.int .i64 11, .agg #[.int .i64 2, .int .i64 0, .string s], .agg #[.int .i64 2, .int .i64 0, .string t]] w _
      have hK := fun W => impl_compare 2 0 s 2 0 t W
      have hV : binV 11 ⟨2, 0, s⟩ ⟨2, 0, t⟩ = bitV (decide (cmpV 2 0 s 2 0 t < 0)) := rfl
      generalize cmpV 2 0 s 2 0 t = c at hK hV
      have HK := Lib.hid hK
      have HV := Lib.hid hV
      clear hV hK
      have HC := Lib.hid (show binC 11 ⟨2, 0, s⟩ ⟨2, 0, t⟩ = 0 from rfl)
      have HT := Lib.hid (fun W => impl_truth (decide (c < 0)) W)
      go_enter Try.func82, Try.ntmps82
      go_wp2_with fail
      refine (HK.out _).mono ?_
      rintro e w1 ⟨rfl, E1⟩
      obtain ⟨r10, r11, r12⟩ := (HX.out.ext E1).cells3
      have f10 := (HX.out.ext E1).frozen 0
      have f11 := (HX.out.ext E1).frozen 1
      have f12 := (HX.out.ext E1).frozen 2
      go_wp2_with fail
      refine (HT.out _).mono ?_
      rintro e w2 ⟨rfl, E2⟩
      obtain ⟨r20, r21, r22⟩ := (HX.out.ext (E1.trans E2)).cells3
      have f20 := (HX.out.ext (E1.trans E2)).frozen 0
      have f21 := (HX.out.ext (E1.trans E2)).frozen 1
      have f22 := (HX.out.ext (E1.trans E2)).frozen 2
      go_wp2_with fail
      refine bodyPost_ret (v := .tuple #[.agg #[.int .i64 (bitV (decide (c < 0))).a, .int .i64 (bitV (decide (c < 0))).b, .string (bitV (decide (c < 0))).c], .int .i64 0]) (by simp [results, Try.results82, go_sem, r20, r21, r22]; try rfl) rfl ?_
      unfold RetV
      rw [HV.out, HC.out]
      exact ⟨rfl, (by repeat (first | exact Ext.refl _ | assumption | refine Ext.alloc ?_ _ | refine Ext.drewN ?_ _ | refine Ext.drew ?_ | refine Ext.set ?_ (by dsimp only; omega) _ | refine Ext.trans ?_ (by assumption)))⟩
set_option maxHeartbeats 8000000 in
theorem impl_binaryO (op : Int) (a b : CValue) (w : World) (hop : 6 ≤ op ∧ op ≤ 9) (ha : okV a = true) (hb : okV b = true) : Calls Try.prog 82 #[.int .i64 op, .agg #[.int .i64 a.a, .int .i64 a.b, .string a.c], .agg #[.int .i64 b.a, .int .i64 b.b, .string b.c]] w (RetV w (binV op a b) (binC op a b)) := by
  have e12 : (op == 12) = false := beq_eq_false_iff_ne.2 (by omega)
  have e13 : (op == 13) = false := beq_eq_false_iff_ne.2 (by omega)
  have e10 : (op == 10) = false := beq_eq_false_iff_ne.2 (by omega)
  have e11 : (op == 11) = false := beq_eq_false_iff_ne.2 (by omega)
  have sa := okV_shape ha
  have sb := okV_shape hb
  clear ha hb
  rcases sa with rfl | ⟨n, rfl, hn1, hn2⟩ | ⟨s, rfl, -⟩
  · rcases sb with rfl | ⟨m, rfl, hm1, hm2⟩ | ⟨t, rfl, -⟩
    · show Calls Try.prog 82 #[.int .i64 op, .agg #[.int .i64 0, .int .i64 0, .string ByteArray.empty], .agg #[.int .i64 0, .int .i64 0, .string ByteArray.empty]] w _
      have HV := Lib.hid (show binV op nulV nulV = nulV by unfold binV; rw [e12, e13, e10, e11]; rfl)
      have HC := Lib.hid (show binC op nulV nulV = 0 by unfold binC; rw [e12, e13, e10, e11]; rfl)
      go_enter Try.func82, Try.ntmps82
      go_wp2_with fail
      refine bodyPost_ret (v := .tuple #[.agg #[.int .i64 0, .int .i64 0, .string ByteArray.empty], .int .i64 0]) (by simp [results, Try.results82, go_sem]; try rfl) rfl ?_
      unfold RetV
      rw [HV.out, HC.out]
      exact ⟨rfl, (by repeat (first | exact Ext.refl _ | assumption | refine Ext.alloc ?_ _ | refine Ext.drewN ?_ _ | refine Ext.drew ?_ | refine Ext.set ?_ (by dsimp only; omega) _ | refine Ext.trans ?_ (by assumption)))⟩
    · show Calls Try.prog 82 #[.int .i64 op, .agg #[.int .i64 0, .int .i64 0, .string ByteArray.empty], .agg #[.int .i64 1, .int .i64 m, .string ByteArray.empty]] w _
      have HV := Lib.hid (show binV op nulV (numV m) = nulV by unfold binV; rw [e12, e13, e10, e11]; rfl)
      have HC := Lib.hid (show binC op nulV (numV m) = 0 by unfold binC; rw [e12, e13, e10, e11]; rfl)
      go_enter Try.func82, Try.ntmps82
      go_wp2_with fail
      refine bodyPost_ret (v := .tuple #[.agg #[.int .i64 0, .int .i64 0, .string ByteArray.empty], .int .i64 0]) (by simp [results, Try.results82, go_sem]; try rfl) rfl ?_
      unfold RetV
      rw [HV.out, HC.out]
      exact ⟨rfl, (by repeat (first | exact Ext.refl _ | assumption | refine Ext.alloc ?_ _ | refine Ext.drewN ?_ _ | refine Ext.drew ?_ | refine Ext.set ?_ (by dsimp only; omega) _ | refine Ext.trans ?_ (by assumption)))⟩
    · show Calls Try.prog 82 #[.int .i64 op, .agg #[.int .i64 0, .int .i64 0, .string ByteArray.empty], .agg #[.int .i64 2, .int .i64 0, .string t]] w _
      have HV := Lib.hid (show binV op nulV ⟨2, 0, t⟩ = nulV by unfold binV; rw [e12, e13, e10, e11]; rfl)
      have HC := Lib.hid (show binC op nulV ⟨2, 0, t⟩ = 10 by unfold binC; rw [e12, e13, e10, e11]; rfl)
      go_enter Try.func82, Try.ntmps82
      go_wp2_with fail
      refine bodyPost_ret (v := .tuple #[.agg #[.int .i64 0, .int .i64 0, .string ByteArray.empty], .int .i64 10]) (by simp [results, Try.results82, go_sem]; try rfl) rfl ?_
      unfold RetV
      rw [HV.out, HC.out]
      exact ⟨rfl, (by repeat (first | exact Ext.refl _ | assumption | refine Ext.alloc ?_ _ | refine Ext.drewN ?_ _ | refine Ext.drew ?_ | refine Ext.set ?_ (by dsimp only; omega) _ | refine Ext.trans ?_ (by assumption)))⟩
  · rcases sb with rfl | ⟨m, rfl, hm1, hm2⟩ | ⟨t, rfl, -⟩
    · show Calls Try.prog 82 #[.int .i64 op, .agg #[.int .i64 1, .int .i64 n, .string ByteArray.empty], .agg #[.int .i64 0, .int .i64 0, .string ByteArray.empty]] w _
      have HV := Lib.hid (show binV op (numV n) nulV = nulV by unfold binV; rw [e12, e13, e10, e11]; rfl)
      have HC := Lib.hid (show binC op (numV n) nulV = 0 by unfold binC; rw [e12, e13, e10, e11]; rfl)
      go_enter Try.func82, Try.ntmps82
      go_wp2_with fail
      refine bodyPost_ret (v := .tuple #[.agg #[.int .i64 0, .int .i64 0, .string ByteArray.empty], .int .i64 0]) (by simp [results, Try.results82, go_sem]; try rfl) rfl ?_
      unfold RetV
      rw [HV.out, HC.out]
      exact ⟨rfl, (by repeat (first | exact Ext.refl _ | assumption | refine Ext.alloc ?_ _ | refine Ext.drewN ?_ _ | refine Ext.drew ?_ | refine Ext.set ?_ (by dsimp only; omega) _ | refine Ext.trans ?_ (by assumption)))⟩
    · have hX := Blk.new ((w.alloc (.cells #[.int .i64 1, .int .i64 n, .string ByteArray.empty] 30)).alloc (.cells #[.int .i64 1, .int .i64 m, .string ByteArray.empty] 30)) 30 [.int .i64 0, .int .i64 0, .string ⟨#[]⟩]
      rw [World.size_alloc, World.size_alloc] at hX
      have HX := Lib.hid hX
      clear hX
      show Calls Try.prog 82 #[.int .i64 op, .agg #[.int .i64 1, .int .i64 n, .string ByteArray.empty], .agg #[.int .i64 1, .int .i64 m, .string ByteArray.empty]] w _
      have HV := Lib.hid (show binV op (numV n) (numV m) = ariV op n m by unfold binV; rw [e12, e13, e10, e11]; rfl)
      have HC := Lib.hid (show binC op (numV n) (numV m) = ariC op n m by unfold binC; rw [e12, e13, e10, e11]; rfl)
      have HK := Lib.hid (fun W => impl_arith op n m W hop hn1 hn2 hm1 hm2)
      generalize ariV op n m = x at HK HV
      generalize ariC op n m = c at HK HC
      go_enter Try.func82, Try.ntmps82
      go_wp2_with fail
      refine (HK.out _).mono ?_
      rintro e w1 ⟨rfl, E1⟩
      obtain ⟨r10, r11, r12⟩ := (HX.out.ext E1).cells3
      have f10 := (HX.out.ext E1).frozen 0
      have f11 := (HX.out.ext E1).frozen 1
      have f12 := (HX.out.ext E1).frozen 2
      go_wp2_with fail
      refine bodyPost_ret (v := .tuple #[.agg #[.int .i64 x.a, .int .i64 x.b, .string x.c], .int .i64 c]) (by simp [results, Try.results82, go_sem, r10, r11, r12]; try rfl) rfl ?_
      unfold RetV
      rw [HV.out, HC.out]
      exact ⟨rfl, (by repeat (first | exact Ext.refl _ | assumption | refine Ext.alloc ?_ _ | refine Ext.drewN ?_ _ | refine Ext.drew ?_ | refine Ext.set ?_ (by dsimp only; omega) _ | refine Ext.trans ?_ (by assumption)))⟩
    · show Calls Try.prog 82 #[.int .i64 op, .agg #[.int .i64 1, .int .i64 n, .string ByteArray.empty], .agg #[.int .i64 2, .int .i64 0, .string t]] w _
      have HV := Lib.hid (show binV op (numV n) ⟨2, 0, t⟩ = nulV by unfold binV; rw [e12, e13, e10, e11]; rfl)
      have HC := Lib.hid (show binC op (numV n) ⟨2, 0, t⟩ = 10 by unfold binC; rw [e12, e13, e10, e11]; rfl)
      go_enter Try.func82, Try.ntmps82
      go_wp2_with fail
      refine bodyPost_ret (v := .tuple #[.agg #[.int .i64 0, .int .i64 0, .string ByteArray.empty], .int .i64 10]) (by simp [results, Try.results82, go_sem]; try rfl) rfl ?_
      unfold RetV
      rw [HV.out, HC.out]
      exact ⟨rfl, (by repeat (first | exact Ext.refl _ | assumption | refine Ext.alloc ?_ _ | refine Ext.drewN ?_ _ | refine Ext.drew ?_ | refine Ext.set ?_ (by dsimp only; omega) _ | refine Ext.trans ?_ (by assumption)))⟩
  · rcases sb with rfl | ⟨m, rfl, hm1, hm2⟩ | ⟨t, rfl, -⟩
    · show Calls Try.prog 82 #[.int .i64 op, .agg #[.int .i64 2, .int .i64 0, .string s], .agg #[.int .i64 0, .int .i64 0, .string ByteArray.empty]] w _
      have HV := Lib.hid (show binV op ⟨2, 0, s⟩ nulV = nulV by unfold binV; rw [e12, e13, e10, e11]; rfl)
      have HC := Lib.hid (show binC op ⟨2, 0, s⟩ nulV = 10 by unfold binC; rw [e12, e13, e10, e11]; rfl)
      go_enter Try.func82, Try.ntmps82
      go_wp2_with fail
      refine bodyPost_ret (v := .tuple #[.agg #[.int .i64 0, .int .i64 0, .string ByteArray.empty], .int .i64 10]) (by simp [results, Try.results82, go_sem]; try rfl) rfl ?_
      unfold RetV
      rw [HV.out, HC.out]
      exact ⟨rfl, (by repeat (first | exact Ext.refl _ | assumption | refine Ext.alloc ?_ _ | refine Ext.drewN ?_ _ | refine Ext.drew ?_ | refine Ext.set ?_ (by dsimp only; omega) _ | refine Ext.trans ?_ (by assumption)))⟩
    · show Calls Try.prog 82 #[.int .i64 op, .agg #[.int .i64 2, .int .i64 0, .string s], .agg #[.int .i64 1, .int .i64 m, .string ByteArray.empty]] w _
      have HV := Lib.hid (show binV op ⟨2, 0, s⟩ (numV m) = nulV by unfold binV; rw [e12, e13, e10, e11]; rfl)
      have HC := Lib.hid (show binC op ⟨2, 0, s⟩ (numV m) = 10 by unfold binC; rw [e12, e13, e10, e11]; rfl)
      go_enter Try.func82, Try.ntmps82
      go_wp2_with fail
      refine bodyPost_ret (v := .tuple #[.agg #[.int .i64 0, .int .i64 0, .string ByteArray.empty], .int .i64 10]) (by simp [results, Try.results82, go_sem]; try rfl) rfl ?_
      unfold RetV
      rw [HV.out, HC.out]
      exact ⟨rfl, (by repeat (first | exact Ext.refl _ | assumption | refine Ext.alloc ?_ _ | refine Ext.drewN ?_ _ | refine Ext.drew ?_ | refine Ext.set ?_ (by dsimp only; omega) _ | refine Ext.trans ?_ (by assumption)))⟩
    · show Calls Try.prog 82 #[.int .i64 op, .agg #[.int .i64 2, .int .i64 0, .string s], .agg #[.int .i64 2, .int .i64 0, .string t]] w _
      have HV := Lib.hid (show binV op ⟨2, 0, s⟩ ⟨2, 0, t⟩ = nulV by unfold binV; rw [e12, e13, e10, e11]; rfl)
      have HC := Lib.hid (show binC op ⟨2, 0, s⟩ ⟨2, 0, t⟩ = 10 by unfold binC; rw [e12, e13, e10, e11]; rfl)
      go_enter Try.func82, Try.ntmps82
      go_wp2_with fail
      refine bodyPost_ret (v := .tuple #[.agg #[.int .i64 0, .int .i64 0, .string ByteArray.empty], .int .i64 10]) (by simp [results, Try.results82, go_sem]; try rfl) rfl ?_
      unfold RetV
      rw [HV.out, HC.out]
      exact ⟨rfl, (by repeat (first | exact Ext.refl _ | assumption | refine Ext.alloc ?_ _ | refine Ext.drewN ?_ _ | refine Ext.drew ?_ | refine Ext.set ?_ (by dsimp only; omega) _ | refine Ext.trans ?_ (by assumption)))⟩
end Go.Proofs.Ythfkfdfcgldbeaa
