/- The walk of what two values join, in the reference, second part (printed by gen_bin3.py). -/
import Derived.Test.YthfkfdfcgldbeaaBin4
namespace Go.Proofs.Ythfkfdfcgldbeaa
open Go.RowKit Go.Deep
set_option linter.unusedVariables false
set_option maxRecDepth 100000
set_option maxHeartbeats 8000000 in
theorem spec_binary10 (a b : CValue) (w : World) (ha : okV a = true) (hb : okV b = true) : Calls Try.prog 80 #[.int .i64 10, .agg #[.int .i64 a.a, .int .i64 a.b, .string a.c], .agg #[.int .i64 b.a, .int .i64 b.b, .string b.c]] w (RetV w (binV 10 a b) (binC 10 a b)) := by
  have sa := okV_shape ha
  have sb := okV_shape hb
  clear ha hb
  rcases sa with rfl | ⟨n, rfl, -, -⟩ | ⟨s, rfl, -⟩
  · rcases sb with rfl | ⟨m, rfl, -, -⟩ | ⟨t, rfl, -⟩
    · show Calls Try.prog 80 #[.int .i64 10, .agg #[.int .i64 0, .int .i64 0, .string ByteArray.empty], .agg #[.int .i64 0, .int .i64 0, .string ByteArray.empty]] w _
      have HV := Lib.hid (show binV 10 nulV nulV = nulV from rfl)
      have HC := Lib.hid (show binC 10 nulV nulV = 0 from rfl)
      go_enter Try.func80, Try.ntmps80
      go_wp2_with fail
      refine bodyPost_ret (v := .tuple #[.agg #[.int .i64 0, .int .i64 0, .string ByteArray.empty], .int .i64 0]) (by simp [results, Try.results80, go_sem]; try rfl) rfl ?_
      unfold RetV
      rw [HV.out, HC.out]
      exact ⟨rfl, (by repeat (first | exact Ext.refl _ | assumption | refine Ext.alloc ?_ _ | refine Ext.drewN ?_ _ | refine Ext.drew ?_ | refine Ext.set ?_ (by dsimp only; omega) _ | refine Ext.trans ?_ (by assumption)))⟩
    · show Calls Try.prog 80 #[.int .i64 10, .agg #[.int .i64 0, .int .i64 0, .string ByteArray.empty], .agg #[.int .i64 1, .int .i64 m, .string ByteArray.empty]] w _
      have HV := Lib.hid (show binV 10 nulV (numV m) = nulV from rfl)
      have HC := Lib.hid (show binC 10 nulV (numV m) = 0 from rfl)
      go_enter Try.func80, Try.ntmps80
      go_wp2_with fail
      refine bodyPost_ret (v := .tuple #[.agg #[.int .i64 0, .int .i64 0, .string ByteArray.empty], .int .i64 0]) (by simp [results, Try.results80, go_sem]; try rfl) rfl ?_
      unfold RetV
      rw [HV.out, HC.out]
      exact ⟨rfl, (by repeat (first | exact Ext.refl _ | assumption | refine Ext.alloc ?_ _ | refine Ext.drewN ?_ _ | refine Ext.drew ?_ | refine Ext.set ?_ (by dsimp only; omega) _ | refine Ext.trans ?_ (by assumption)))⟩
    · show Calls Try.prog 80 #[.int .i64 10, .agg #[.int .i64 0, .int .i64 0, .string ByteArray.empty], .agg #[.int .i64 2, .int .i64 0, .string t]] w _
      have HV := Lib.hid (show binV 10 nulV ⟨2, 0, t⟩ = nulV from rfl)
      have HC := Lib.hid (show binC 10 nulV ⟨2, 0, t⟩ = 0 from rfl)
      go_enter Try.func80, Try.ntmps80
      go_wp2_with fail
      refine bodyPost_ret (v := .tuple #[.agg #[.int .i64 0, .int .i64 0, .string ByteArray.empty], .int .i64 0]) (by simp [results, Try.results80, go_sem]; try rfl) rfl ?_
      unfold RetV
      rw [HV.out, HC.out]
      exact ⟨rfl, (by repeat (first | exact Ext.refl _ | assumption | refine Ext.alloc ?_ _ | refine Ext.drewN ?_ _ | refine Ext.drew ?_ | refine Ext.set ?_ (by dsimp only; omega) _ | refine Ext.trans ?_ (by assumption)))⟩
  · rcases sb with rfl | ⟨m, rfl, -, -⟩ | ⟨t, rfl, -⟩
    · show Calls Try.prog 80 #[.int .i64 10, .agg #[.int .i64 1, .int .i64 n, .string ByteArray.empty], .agg #[.int .i64 0, .int .i64 0, .string ByteArray.empty]] w _
      have HV := Lib.hid (show binV 10 (numV n) nulV = nulV from rfl)
      have HC := Lib.hid (show binC 10 (numV n) nulV = 0 from rfl)
      go_enter Try.func80, Try.ntmps80
      go_wp2_with fail
      refine bodyPost_ret (v := .tuple #[.agg #[.int .i64 0, .int .i64 0, .string ByteArray.empty], .int .i64 0]) (by simp [results, Try.results80, go_sem]; try rfl) rfl ?_
      unfold RetV
      rw [HV.out, HC.out]
      exact ⟨rfl, (by repeat (first | exact Ext.refl _ | assumption | refine Ext.alloc ?_ _ | refine Ext.drewN ?_ _ | refine Ext.drew ?_ | refine Ext.set ?_ (by dsimp only; omega) _ | refine Ext.trans ?_ (by assumption)))⟩
    · have hX := Blk.new ((w.alloc (.cells #[.int .i64 1, .int .i64 n, .string ByteArray.empty] 30)).alloc (.cells #[.int .i64 1, .int .i64 m, .string ByteArray.empty] 30)) 30 [.int .i64 0, .int .i64 0, .string ⟨#[]⟩]
      rw [World.size_alloc, World.size_alloc] at hX
      have HX := Lib.hid hX
      clear hX
      show Calls Try.prog 80 #[.int .i64 10, .agg #[.int .i64 1, .int .i64 n, .string ByteArray.empty], .agg #[.int .i64 1, .int .i64 m, .string ByteArray.empty]] w _
      have HI := Lib.hid (fun z W => spec_l10Int z W)
      have HB := Lib.hid (fun q W => spec_l01Bit q W)
      have HBtrue := Lib.hid (fun W => show Calls Try.prog 122 #[.bool true] W fun e w' => e = .returned (.int .i64 1) ∧ W = w' from spec_l01Bit true W)
      have HBfalse := Lib.hid (fun W => show Calls Try.prog 122 #[.bool false] W fun e w' => e = .returned (.int .i64 0) ∧ W = w' from spec_l01Bit false W)
      have hq : (∀ W, (binOp .eql 30 (.agg #[.int .i64 1, .int .i64 n, .string ByteArray.empty]) (.agg #[.int .i64 1, .int .i64 m, .string ByteArray.empty])).run Try.prog W = .ok (.bool (vEq (numV n) (numV m))) W) := fun W => run_eql_Value (numV n) (numV m) W
      have hV : binV 10 (numV n) (numV m) = numV (bitI (vEq (numV n) (numV m))) := rfl
      generalize vEq (numV n) (numV m) = q at hq hV
      have HV := Lib.hid hV
      clear hV
      have HC := Lib.hid (show binC 10 (numV n) (numV m) = 0 from rfl)
      go_enter Try.func80, Try.ntmps80
      go_wp2_with fail
      refine (HB.out q _).mono ?_
      rintro e w1 ⟨rfl, rfl⟩
      go_wp2_with fail
      refine (HI.out _ _).mono ?_
      rintro e w2 ⟨rfl, E2⟩
      obtain ⟨r20, r21, r22⟩ := (HX.out.ext E2).cells3
      have f20 := (HX.out.ext E2).frozen 0
      have f21 := (HX.out.ext E2).frozen 1
      have f22 := (HX.out.ext E2).frozen 2
      go_wp2_with fail
      refine bodyPost_ret (v := .tuple #[.agg #[.int .i64 1, .int .i64 (bitI q), .string ByteArray.empty], .int .i64 0]) (by simp [results, Try.results80, go_sem, r20, r21, r22]; try rfl) rfl ?_
      unfold RetV
      rw [HV.out, HC.out]
      exact ⟨rfl, (by repeat (first | exact Ext.refl _ | assumption | refine Ext.alloc ?_ _ | refine Ext.drewN ?_ _ | refine Ext.drew ?_ | refine Ext.set ?_ (by dsimp only; omega) _ | refine Ext.trans ?_ (by assumption)))⟩
    · show Calls Try.prog 80 #[.int .i64 10, .agg #[.int .i64 1, .int .i64 n, .string ByteArray.empty], .agg #[.int .i64 2, .int .i64 0, .string t]] w _
      have HV := Lib.hid (show binV 10 (numV n) ⟨2, 0, t⟩ = nulV from rfl)
      have HC := Lib.hid (show binC 10 (numV n) ⟨2, 0, t⟩ = 10 from rfl)
      go_enter Try.func80, Try.ntmps80
      go_wp2_with fail
      refine bodyPost_ret (v := .tuple #[.agg #[.int .i64 0, .int .i64 0, .string ByteArray.empty], .int .i64 10]) (by simp [results, Try.results80, go_sem]; try rfl) rfl ?_
      unfold RetV
      rw [HV.out, HC.out]
      exact ⟨rfl, (by repeat (first | exact Ext.refl _ | assumption | refine Ext.alloc ?_ _ | refine Ext.drewN ?_ _ | refine Ext.drew ?_ | refine Ext.set ?_ (by dsimp only; omega) _ | refine Ext.trans ?_ (by assumption)))⟩
  · rcases sb with rfl | ⟨m, rfl, -, -⟩ | ⟨t, rfl, -⟩
    · show Calls Try.prog 80 #[.int .i64 10, .agg #[.int .i64 2, .int .i64 0, .string s], .agg #[.int .i64 0, .int .i64 0, .string ByteArray.empty]] w _
      have HV := Lib.hid (show binV 10 ⟨2, 0, s⟩ nulV = nulV from rfl)
      have HC := Lib.hid (show binC 10 ⟨2, 0, s⟩ nulV = 0 from rfl)
      go_enter Try.func80, Try.ntmps80
      go_wp2_with fail
      refine bodyPost_ret (v := .tuple #[.agg #[.int .i64 0, .int .i64 0, .string ByteArray.empty], .int .i64 0]) (by simp [results, Try.results80, go_sem]; try rfl) rfl ?_
      unfold RetV
      rw [HV.out, HC.out]
      exact ⟨rfl, (by repeat (first | exact Ext.refl _ | assumption | refine Ext.alloc ?_ _ | refine Ext.drewN ?_ _ | refine Ext.drew ?_ | refine Ext.set ?_ (by dsimp only; omega) _ | refine Ext.trans ?_ (by assumption)))⟩
    · show Calls Try.prog 80 #[.int .i64 10, .agg #[.int .i64 2, .int .i64 0, .string s], .agg #[.int .i64 1, .int .i64 m, .string ByteArray.empty]] w _
      have HV := Lib.hid (show binV 10 ⟨2, 0, s⟩ (numV m) = nulV from rfl)
      have HC := Lib.hid (show binC 10 ⟨2, 0, s⟩ (numV m) = 10 from rfl)
      go_enter Try.func80, Try.ntmps80
      go_wp2_with fail
      refine bodyPost_ret (v := .tuple #[.agg #[.int .i64 0, .int .i64 0, .string ByteArray.empty], .int .i64 10]) (by simp [results, Try.results80, go_sem]; try rfl) rfl ?_
      unfold RetV
      rw [HV.out, HC.out]
      exact ⟨rfl, (by repeat (first | exact Ext.refl _ | assumption | refine Ext.alloc ?_ _ | refine Ext.drewN ?_ _ | refine Ext.drew ?_ | refine Ext.set ?_ (by dsimp only; omega) _ | refine Ext.trans ?_ (by assumption)))⟩
    · have hX := Blk.new ((w.alloc (.cells #[.int .i64 2, .int .i64 0, .string s] 30)).alloc (.cells #[.int .i64 2, .int .i64 0, .string t] 30)) 30 [.int .i64 0, .int .i64 0, .string ⟨#[]⟩]
      rw [World.size_alloc, World.size_alloc] at hX
      have HX := Lib.hid hX
      clear hX
      show Calls Try.prog 80 #[.int .i64 10, .agg #[.int .i64 2, .int .i64 0, .string s], .agg #[.int .i64 2, .int .i64 0, .string t]] w _
      have HI := Lib.hid (fun z W => spec_l10Int z W)
      have HB := Lib.hid (fun q W => spec_l01Bit q W)
      have HBtrue := Lib.hid (fun W => show Calls Try.prog 122 #[.bool true] W fun e w' => e = .returned (.int .i64 1) ∧ W = w' from spec_l01Bit true W)
      have HBfalse := Lib.hid (fun W => show Calls Try.prog 122 #[.bool false] W fun e w' => e = .returned (.int .i64 0) ∧ W = w' from spec_l01Bit false W)
      have hq : (∀ W, (binOp .eql 30 (.agg #[.int .i64 2, .int .i64 0, .string s]) (.agg #[.int .i64 2, .int .i64 0, .string t])).run Try.prog W = .ok (.bool (vEq ⟨2, 0, s⟩ ⟨2, 0, t⟩)) W) := fun W => run_eql_Value ⟨2, 0, s⟩ ⟨2, 0, t⟩ W
      have hV : binV 10 ⟨2, 0, s⟩ ⟨2, 0, t⟩ = numV (bitI (vEq ⟨2, 0, s⟩ ⟨2, 0, t⟩)) := rfl
      generalize vEq ⟨2, 0, s⟩ ⟨2, 0, t⟩ = q at hq hV
      have HV := Lib.hid hV
      clear hV
      have HC := Lib.hid (show binC 10 ⟨2, 0, s⟩ ⟨2, 0, t⟩ = 0 from rfl)
      go_enter Try.func80, Try.ntmps80
      go_wp2_with fail
      refine (HB.out q _).mono ?_
      rintro e w1 ⟨rfl, rfl⟩
      go_wp2_with fail
      refine (HI.out _ _).mono ?_
      rintro e w2 ⟨rfl, E2⟩
      obtain ⟨r20, r21, r22⟩ := (HX.out.ext E2).cells3
      have f20 := (HX.out.ext E2).frozen 0
      have f21 := (HX.out.ext E2).frozen 1
      have f22 := (HX.out.ext E2).frozen 2
      go_wp2_with fail
      refine bodyPost_ret (v := .tuple #[.agg #[.int .i64 1, .int .i64 (bitI q), .string ByteArray.empty], .int .i64 0]) (by simp [results, Try.results80, go_sem, r20, r21, r22]; try rfl) rfl ?_
      unfold RetV
      rw [HV.out, HC.out]
      exact ⟨rfl, (by repeat (first | exact Ext.refl _ | assumption | refine Ext.alloc ?_ _ | refine Ext.drewN ?_ _ | refine Ext.drew ?_ | refine Ext.set ?_ (by dsimp only; omega) _ | refine Ext.trans ?_ (by assumption)))⟩
set_option maxHeartbeats 8000000 in
theorem spec_binary11 (a b : CValue) (w : World) (ha : okV a = true) (hb : okV b = true) : Calls Try.prog 80 #[.int .i64 11, .agg #[.int .i64 a.a, .int .i64 a.b, .string a.c], .agg #[.int .i64 b.a, .int .i64 b.b, .string b.c]] w (RetV w (binV 11 a b) (binC 11 a b)) := by
  have sa := okV_shape ha
  have sb := okV_shape hb
  clear ha hb
  rcases sa with rfl | ⟨n, rfl, -, -⟩ | ⟨s, rfl, -⟩
  · rcases sb with rfl | ⟨m, rfl, -, -⟩ | ⟨t, rfl, -⟩
    · show Calls Try.prog 80 #[.int .i64 11, .agg #[.int .i64 0, .int .i64 0, .string ByteArray.empty], .agg #[.int .i64 0, .int .i64 0, .string ByteArray.empty]] w _
      have HV := Lib.hid (show binV 11 nulV nulV = nulV from rfl)
      have HC := Lib.hid (show binC 11 nulV nulV = 0 from rfl)
      go_enter Try.func80, Try.ntmps80
      go_wp2_with fail
      refine bodyPost_ret (v := .tuple #[.agg #[.int .i64 0, .int .i64 0, .string ByteArray.empty], .int .i64 0]) (by simp [results, Try.results80, go_sem]; try rfl) rfl ?_
      unfold RetV
      rw [HV.out, HC.out]
      exact ⟨rfl, (by repeat (first | exact Ext.refl _ | assumption | refine Ext.alloc ?_ _ | refine Ext.drewN ?_ _ | refine Ext.drew ?_ | refine Ext.set ?_ (by dsimp only; omega) _ | refine Ext.trans ?_ (by assumption)))⟩
    · show Calls Try.prog 80 #[.int .i64 11, .agg #[.int .i64 0, .int .i64 0, .string ByteArray.empty], .agg #[.int .i64 1, .int .i64 m, .string ByteArray.empty]] w _
      have HV := Lib.hid (show binV 11 nulV (numV m) = nulV from rfl)
      have HC := Lib.hid (show binC 11 nulV (numV m) = 0 from rfl)
      go_enter Try.func80, Try.ntmps80
      go_wp2_with fail
      refine bodyPost_ret (v := .tuple #[.agg #[.int .i64 0, .int .i64 0, .string ByteArray.empty], .int .i64 0]) (by simp [results, Try.results80, go_sem]; try rfl) rfl ?_
      unfold RetV
      rw [HV.out, HC.out]
      exact ⟨rfl, (by repeat (first | exact Ext.refl _ | assumption | refine Ext.alloc ?_ _ | refine Ext.drewN ?_ _ | refine Ext.drew ?_ | refine Ext.set ?_ (by dsimp only; omega) _ | refine Ext.trans ?_ (by assumption)))⟩
    · show Calls Try.prog 80 #[.int .i64 11, .agg #[.int .i64 0, .int .i64 0, .string ByteArray.empty], .agg #[.int .i64 2, .int .i64 0, .string t]] w _
      have HV := Lib.hid (show binV 11 nulV ⟨2, 0, t⟩ = nulV from rfl)
      have HC := Lib.hid (show binC 11 nulV ⟨2, 0, t⟩ = 0 from rfl)
      go_enter Try.func80, Try.ntmps80
      go_wp2_with fail
      refine bodyPost_ret (v := .tuple #[.agg #[.int .i64 0, .int .i64 0, .string ByteArray.empty], .int .i64 0]) (by simp [results, Try.results80, go_sem]; try rfl) rfl ?_
      unfold RetV
      rw [HV.out, HC.out]
      exact ⟨rfl, (by repeat (first | exact Ext.refl _ | assumption | refine Ext.alloc ?_ _ | refine Ext.drewN ?_ _ | refine Ext.drew ?_ | refine Ext.set ?_ (by dsimp only; omega) _ | refine Ext.trans ?_ (by assumption)))⟩
  · rcases sb with rfl | ⟨m, rfl, -, -⟩ | ⟨t, rfl, -⟩
    · show Calls Try.prog 80 #[.int .i64 11, .agg #[.int .i64 1, .int .i64 n, .string ByteArray.empty], .agg #[.int .i64 0, .int .i64 0, .string ByteArray.empty]] w _
      have HV := Lib.hid (show binV 11 (numV n) nulV = nulV from rfl)
      have HC := Lib.hid (show binC 11 (numV n) nulV = 0 from rfl)
      go_enter Try.func80, Try.ntmps80
      go_wp2_with fail
      refine bodyPost_ret (v := .tuple #[.agg #[.int .i64 0, .int .i64 0, .string ByteArray.empty], .int .i64 0]) (by simp [results, Try.results80, go_sem]; try rfl) rfl ?_
      unfold RetV
      rw [HV.out, HC.out]
      exact ⟨rfl, (by repeat (first | exact Ext.refl _ | assumption | refine Ext.alloc ?_ _ | refine Ext.drewN ?_ _ | refine Ext.drew ?_ | refine Ext.set ?_ (by dsimp only; omega) _ | refine Ext.trans ?_ (by assumption)))⟩
    · have hX := Blk.new ((w.alloc (.cells #[.int .i64 1, .int .i64 n, .string ByteArray.empty] 30)).alloc (.cells #[.int .i64 1, .int .i64 m, .string ByteArray.empty] 30)) 30 [.int .i64 0, .int .i64 0, .string ⟨#[]⟩]
      rw [World.size_alloc, World.size_alloc] at hX
      have HX := Lib.hid hX
      clear hX
      show Calls Try.prog 80 #[.int .i64 11, .agg #[.int .i64 1, .int .i64 n, .string ByteArray.empty], .agg #[.int .i64 1, .int .i64 m, .string ByteArray.empty]] w _
      have HI := Lib.hid (fun z W => spec_l10Int z W)
      have HB := Lib.hid (fun q W => spec_l01Bit q W)
      have HBtrue := Lib.hid (fun W => show Calls Try.prog 122 #[.bool true] W fun e w' => e = .returned (.int .i64 1) ∧ W = w' from spec_l01Bit true W)
      have HBfalse := Lib.hid (fun W => show Calls Try.prog 122 #[.bool false] W fun e w' => e = .returned (.int .i64 0) ∧ W = w' from spec_l01Bit false W)
      have hK := fun W => spec_compare 1 n ByteArray.empty 1 m ByteArray.empty W
      have hV : binV 11 (numV n) (numV m) = numV (bitI (decide (cmpV 1 n ByteArray.empty 1 m ByteArray.empty < 0))) := rfl
      generalize cmpV 1 n ByteArray.empty 1 m ByteArray.empty = c at hK hV
      have HK := Lib.hid hK
      clear hK
      have hq : True := trivial
      have HV := Lib.hid hV
      clear hV
      have HC := Lib.hid (show binC 11 (numV n) (numV m) = 0 from rfl)
      go_enter Try.func80, Try.ntmps80
      go_wp2_with fail
      refine (HK.out _).mono ?_
      rintro e w1 ⟨rfl, E1⟩
      obtain ⟨r10, r11, r12⟩ := (HX.out.ext E1).cells3
      have f10 := (HX.out.ext E1).frozen 0
      have f11 := (HX.out.ext E1).frozen 1
      have f12 := (HX.out.ext E1).frozen 2
      go_wp2_with fail
      refine (HB.out (decide (c < 0)) _).mono ?_
      rintro e w2 ⟨rfl, rfl⟩
      go_wp2_with fail
      refine (HI.out _ _).mono ?_
      rintro e w2 ⟨rfl, E2⟩
      obtain ⟨r20, r21, r22⟩ := (HX.out.ext (E1.trans E2)).cells3
      have f20 := (HX.out.ext (E1.trans E2)).frozen 0
      have f21 := (HX.out.ext (E1.trans E2)).frozen 1
      have f22 := (HX.out.ext (E1.trans E2)).frozen 2
      go_wp2_with fail
      refine bodyPost_ret (v := .tuple #[.agg #[.int .i64 1, .int .i64 (bitI (decide (c < 0))), .string ByteArray.empty], .int .i64 0]) (by simp [results, Try.results80, go_sem, r20, r21, r22]; try rfl) rfl ?_
      unfold RetV
      rw [HV.out, HC.out]
      exact ⟨rfl, (by repeat (first | exact Ext.refl _ | assumption | refine Ext.alloc ?_ _ | refine Ext.drewN ?_ _ | refine Ext.drew ?_ | refine Ext.set ?_ (by dsimp only; omega) _ | refine Ext.trans ?_ (by assumption)))⟩
    · show Calls Try.prog 80 #[.int .i64 11, .agg #[.int .i64 1, .int .i64 n, .string ByteArray.empty], .agg #[.int .i64 2, .int .i64 0, .string t]] w _
      have HV := Lib.hid (show binV 11 (numV n) ⟨2, 0, t⟩ = nulV from rfl)
      have HC := Lib.hid (show binC 11 (numV n) ⟨2, 0, t⟩ = 10 from rfl)
      go_enter Try.func80, Try.ntmps80
      go_wp2_with fail
      refine bodyPost_ret (v := .tuple #[.agg #[.int .i64 0, .int .i64 0, .string ByteArray.empty], .int .i64 10]) (by simp [results, Try.results80, go_sem]; try rfl) rfl ?_
      unfold RetV
      rw [HV.out, HC.out]
      exact ⟨rfl, (by repeat (first | exact Ext.refl _ | assumption | refine Ext.alloc ?_ _ | refine Ext.drewN ?_ _ | refine Ext.drew ?_ | refine Ext.set ?_ (by dsimp only; omega) _ | refine Ext.trans ?_ (by assumption)))⟩
  · rcases sb with rfl | ⟨m, rfl, -, -⟩ | ⟨t, rfl, -⟩
    · show Calls Try.prog 80 #[.int .i64 11, .agg #[.int .i64 2, .int .i64 0, .string s], .agg #[.int .i64 0, .int .i64 0, .string ByteArray.empty]] w _
      have HV := Lib.hid (show binV 11 ⟨2, 0, s⟩ nulV = nulV from rfl)
      have HC := Lib.hid (show binC 11 ⟨2, 0, s⟩ nulV = 0 from rfl)
      go_enter Try.func80, Try.ntmps80
      go_wp2_with fail
      refine bodyPost_ret (v := .tuple #[.agg #[.int .i64 0, .int .i64 0, .string ByteArray.empty], .int .i64 0]) (by simp [results, Try.results80, go_sem]; try rfl) rfl ?_
      unfold RetV
      rw [HV.out, HC.out]
      exact ⟨rfl, (by repeat (first | exact Ext.refl _ | assumption | refine Ext.alloc ?_ _ | refine Ext.drewN ?_ _ | refine Ext.drew ?_ | refine Ext.set ?_ (by dsimp only; omega) _ | refine Ext.trans ?_ (by assumption)))⟩
    · show Calls Try.prog 80 #[.int .i64 11, .agg #[.int .i64 2, .int .i64 0, .string s], .agg #[.int .i64 1, .int .i64 m, .string ByteArray.empty]] w _
      have HV := Lib.hid (show binV 11 ⟨2, 0, s⟩ (numV m) = nulV from rfl)
      have HC := Lib.hid (show binC 11 ⟨2, 0, s⟩ (numV m) = 10 from rfl)
      go_enter Try.func80, Try.ntmps80
      go_wp2_with fail
      refine bodyPost_ret (v := .tuple #[.agg #[.int .i64 0, .int .i64 0, .string ByteArray.empty], .int .i64 10]) (by simp [results, Try.results80, go_sem]; try rfl) rfl ?_
      unfold RetV
      rw [HV.out, HC.out]
      exact ⟨rfl, (by repeat (first | exact Ext.refl _ | assumption | refine Ext.alloc ?_ _ | refine Ext.drewN ?_ _ | refine Ext.drew ?_ | refine Ext.set ?_ (by dsimp only; omega) _ | refine Ext.trans ?_ (by assumption)))⟩
    · have hX := Blk.new ((w.alloc (.cells #[.int .i64 2, .int .i64 0, .string s] 30)).alloc (.cells #[.int .i64 2, .int .i64 0, .string t] 30)) 30 [.int .i64 0, .int .i64 0, .string ⟨#[]⟩]
      rw [World.size_alloc, World.size_alloc] at hX
      have HX := Lib.hid hX
      clear hX
      show Calls Try.prog 80 #[.int .i64 11, .agg #[.int .i64 2, .int .i64 0, .string s], .agg #[.int .i64 2, .int .i64 0, .string t]] w _
      have HI := Lib.hid (fun z W => spec_l10Int z W)
      have HB := Lib.hid (fun q W => spec_l01Bit q W)
      have HBtrue := Lib.hid (fun W => show Calls Try.prog 122 #[.bool true] W fun e w' => e = .returned (.int .i64 1) ∧ W = w' from spec_l01Bit true W)
      have HBfalse := Lib.hid (fun W => show Calls Try.prog 122 #[.bool false] W fun e w' => e = .returned (.int .i64 0) ∧ W = w' from spec_l01Bit false W)
      have hK := fun W => spec_compare 2 0 s 2 0 t W
      have hV : binV 11 ⟨2, 0, s⟩ ⟨2, 0, t⟩ = numV (bitI (decide (cmpV 2 0 s 2 0 t < 0))) := rfl
      generalize cmpV 2 0 s 2 0 t = c at hK hV
      have HK := Lib.hid hK
      clear hK
      have hq : True := trivial
      have HV := Lib.hid hV
      clear hV
      have HC := Lib.hid (show binC 11 ⟨2, 0, s⟩ ⟨2, 0, t⟩ = 0 from rfl)
      go_enter Try.func80, Try.ntmps80
      go_wp2_with fail
      refine (HK.out _).mono ?_
      rintro e w1 ⟨rfl, E1⟩
      obtain ⟨r10, r11, r12⟩ := (HX.out.ext E1).cells3
      have f10 := (HX.out.ext E1).frozen 0
      have f11 := (HX.out.ext E1).frozen 1
      have f12 := (HX.out.ext E1).frozen 2
      go_wp2_with fail
      refine (HB.out (decide (c < 0)) _).mono ?_
      rintro e w2 ⟨rfl, rfl⟩
      go_wp2_with fail
      refine (HI.out _ _).mono ?_
      rintro e w2 ⟨rfl, E2⟩
      obtain ⟨r20, r21, r22⟩ := (HX.out.ext (E1.trans E2)).cells3
      have f20 := (HX.out.ext (E1.trans E2)).frozen 0
      have f21 := (HX.out.ext (E1.trans E2)).frozen 1
      have f22 := (HX.out.ext (E1.trans E2)).frozen 2
      go_wp2_with fail
      refine bodyPost_ret (v := .tuple #[.agg #[.int .i64 1, .int .i64 (bitI (decide (c < 0))), .string ByteArray.empty], .int .i64 0]) (by simp [results, Try.results80, go_sem, r20, r21, r22]; try rfl) rfl ?_
      unfold RetV
      rw [HV.out, HC.out]
      exact ⟨rfl, (by repeat (first | exact Ext.refl _ | assumption | refine Ext.alloc ?_ _ | refine Ext.drewN ?_ _ | refine Ext.drew ?_ | refine Ext.set ?_ (by dsimp only; omega) _ | refine Ext.trans ?_ (by assumption)))⟩
set_option maxHeartbeats 8000000 in
theorem spec_binaryO (op : Int) (a b : CValue) (w : World) (hop : 6 ≤ op ∧ op ≤ 9) (ha : okV a = true) (hb : okV b = true) : Calls Try.prog 80 #[.int .i64 op, .agg #[.int .i64 a.a, .int .i64 a.b, .string a.c], .agg #[.int .i64 b.a, .int .i64 b.b, .string b.c]] w (RetV w (binV op a b) (binC op a b)) := by
  have e12 : (op == 12) = false := beq_eq_false_iff_ne.2 (by omega)
  have e13 : (op == 13) = false := beq_eq_false_iff_ne.2 (by omega)
  have e10 : (op == 10) = false := beq_eq_false_iff_ne.2 (by omega)
  have e11 : (op == 11) = false := beq_eq_false_iff_ne.2 (by omega)
  have sa := okV_shape ha
  have sb := okV_shape hb
  clear ha hb
  rcases sa with rfl | ⟨n, rfl, hn1, hn2⟩ | ⟨s, rfl, -⟩
  · rcases sb with rfl | ⟨m, rfl, hm1, hm2⟩ | ⟨t, rfl, -⟩
    · show Calls Try.prog 80 #[.int .i64 op, .agg #[.int .i64 0, .int .i64 0, .string ByteArray.empty], .agg #[.int .i64 0, .int .i64 0, .string ByteArray.empty]] w _
      have HV := Lib.hid (show binV op nulV nulV = nulV by unfold binV; rw [e12, e13, e10, e11]; rfl)
      have HC := Lib.hid (show binC op nulV nulV = 0 by unfold binC; rw [e12, e13, e10, e11]; rfl)
      go_enter Try.func80, Try.ntmps80
      go_wp2_with fail
      refine bodyPost_ret (v := .tuple #[.agg #[.int .i64 0, .int .i64 0, .string ByteArray.empty], .int .i64 0]) (by simp [results, Try.results80, go_sem]; try rfl) rfl ?_
      unfold RetV
      rw [HV.out, HC.out]
      exact ⟨rfl, (by repeat (first | exact Ext.refl _ | assumption | refine Ext.alloc ?_ _ | refine Ext.drewN ?_ _ | refine Ext.drew ?_ | refine Ext.set ?_ (by dsimp only; omega) _ | refine Ext.trans ?_ (by assumption)))⟩
    · show Calls Try.prog 80 #[.int .i64 op, .agg #[.int .i64 0, .int .i64 0, .string ByteArray.empty], .agg #[.int .i64 1, .int .i64 m, .string ByteArray.empty]] w _
      have HV := Lib.hid (show binV op nulV (numV m) = nulV by unfold binV; rw [e12, e13, e10, e11]; rfl)
      have HC := Lib.hid (show binC op nulV (numV m) = 0 by unfold binC; rw [e12, e13, e10, e11]; rfl)
      go_enter Try.func80, Try.ntmps80
      go_wp2_with fail
      refine bodyPost_ret (v := .tuple #[.agg #[.int .i64 0, .int .i64 0, .string ByteArray.empty], .int .i64 0]) (by simp [results, Try.results80, go_sem]; try rfl) rfl ?_
      unfold RetV
      rw [HV.out, HC.out]
      exact ⟨rfl, (by repeat (first | exact Ext.refl _ | assumption | refine Ext.alloc ?_ _ | refine Ext.drewN ?_ _ | refine Ext.drew ?_ | refine Ext.set ?_ (by dsimp only; omega) _ | refine Ext.trans ?_ (by assumption)))⟩
    · show Calls Try.prog 80 #[.int .i64 op, .agg #[.int .i64 0, .int .i64 0, .string ByteArray.empty], .agg #[.int .i64 2, .int .i64 0, .string t]] w _
      have HV := Lib.hid (show binV op nulV ⟨2, 0, t⟩ = nulV by unfold binV; rw [e12, e13, e10, e11]; rfl)
      have HC := Lib.hid (show binC op nulV ⟨2, 0, t⟩ = 10 by unfold binC; rw [e12, e13, e10, e11]; rfl)
      go_enter Try.func80, Try.ntmps80
      go_wp2_with fail
      refine bodyPost_ret (v := .tuple #[.agg #[.int .i64 0, .int .i64 0, .string ByteArray.empty], .int .i64 10]) (by simp [results, Try.results80, go_sem]; try rfl) rfl ?_
      unfold RetV
      rw [HV.out, HC.out]
      exact ⟨rfl, (by repeat (first | exact Ext.refl _ | assumption | refine Ext.alloc ?_ _ | refine Ext.drewN ?_ _ | refine Ext.drew ?_ | refine Ext.set ?_ (by dsimp only; omega) _ | refine Ext.trans ?_ (by assumption)))⟩
  · rcases sb with rfl | ⟨m, rfl, hm1, hm2⟩ | ⟨t, rfl, -⟩
    · show Calls Try.prog 80 #[.int .i64 op, .agg #[.int .i64 1, .int .i64 n, .string ByteArray.empty], .agg #[.int .i64 0, .int .i64 0, .string ByteArray.empty]] w _
      have HV := Lib.hid (show binV op (numV n) nulV = nulV by unfold binV; rw [e12, e13, e10, e11]; rfl)
      have HC := Lib.hid (show binC op (numV n) nulV = 0 by unfold binC; rw [e12, e13, e10, e11]; rfl)
      go_enter Try.func80, Try.ntmps80
      go_wp2_with fail
      refine bodyPost_ret (v := .tuple #[.agg #[.int .i64 0, .int .i64 0, .string ByteArray.empty], .int .i64 0]) (by simp [results, Try.results80, go_sem]; try rfl) rfl ?_
      unfold RetV
      rw [HV.out, HC.out]
      exact ⟨rfl, (by repeat (first | exact Ext.refl _ | assumption | refine Ext.alloc ?_ _ | refine Ext.drewN ?_ _ | refine Ext.drew ?_ | refine Ext.set ?_ (by dsimp only; omega) _ | refine Ext.trans ?_ (by assumption)))⟩
    · have hX := Blk.new ((w.alloc (.cells #[.int .i64 1, .int .i64 n, .string ByteArray.empty] 30)).alloc (.cells #[.int .i64 1, .int .i64 m, .string ByteArray.empty] 30)) 30 [.int .i64 0, .int .i64 0, .string ⟨#[]⟩]
      rw [World.size_alloc, World.size_alloc] at hX
      have HX := Lib.hid hX
      clear hX
      show Calls Try.prog 80 #[.int .i64 op, .agg #[.int .i64 1, .int .i64 n, .string ByteArray.empty], .agg #[.int .i64 1, .int .i64 m, .string ByteArray.empty]] w _
      obtain ⟨hp1, hp2⟩ := mul_bound hn1 hn2 hm1 hm2
      obtain ⟨hd1, hd2⟩ := tdiv_bound (m := m) hn1 hn2
      have hw : IntKind.i64.wrap (n * m) = n * m := IntWalk.i64_in _ (by omega)
      have hw2 : IntKind.i64.wrap (n.tdiv m) = n.tdiv m := IntWalk.i64_in _ (by omega)
      clear e12 e13 e10 e11
      obtain rfl | rfl | rfl | rfl : op = 6 ∨ op = 7 ∨ op = 8 ∨ op = 9 := by omega
      · clear hop hw hw2 hp1 hp2 hd1 hd2
        have hK := fun W => spec_l10Bounded (n + m) W
        have hV : binV 6 (numV n) (numV m) = bndV (n + m) := rfl
        have hC : binC 6 (numV n) (numV m) = bndC (n + m) := rfl
        generalize bndV (n + m) = x at hK hV
        generalize bndC (n + m) = c at hK hC
        have HK := Lib.hid hK
        have HV := Lib.hid hV
        have HC := Lib.hid hC
        clear hK hV hC
        go_enter Try.func80, Try.ntmps80
        go_wp2_with fail
        refine (HK.out _).mono ?_
        rintro e w1 ⟨rfl, E1⟩
        obtain ⟨r10, r11, r12⟩ := (HX.out.ext E1).cells3
        have f10 := (HX.out.ext E1).frozen 0
        have f11 := (HX.out.ext E1).frozen 1
        have f12 := (HX.out.ext E1).frozen 2
        go_wp2_with fail
        refine bodyPost_ret (v := .tuple #[.agg #[.int .i64 x.a, .int .i64 x.b, .string x.c], .int .i64 c]) (by simp [results, Try.results80, go_sem, r10, r11, r12]; try rfl) rfl ?_
        unfold RetV
        rw [HV.out, HC.out]
        exact ⟨rfl, (by repeat (first | exact Ext.refl _ | assumption | refine Ext.alloc ?_ _ | refine Ext.drewN ?_ _ | refine Ext.drew ?_ | refine Ext.set ?_ (by dsimp only; omega) _ | refine Ext.trans ?_ (by assumption)))⟩
      · clear hop hw hw2 hp1 hp2 hd1 hd2
        have hK := fun W => spec_l10Bounded (n - m) W
        have hV : binV 7 (numV n) (numV m) = bndV (n - m) := rfl
        have hC : binC 7 (numV n) (numV m) = bndC (n - m) := rfl
        generalize bndV (n - m) = x at hK hV
        generalize bndC (n - m) = c at hK hC
        have HK := Lib.hid hK
        have HV := Lib.hid hV
        have HC := Lib.hid hC
        clear hK hV hC
        go_enter Try.func80, Try.ntmps80
        go_wp2_with fail
        refine (HK.out _).mono ?_
        rintro e w1 ⟨rfl, E1⟩
        obtain ⟨r10, r11, r12⟩ := (HX.out.ext E1).cells3
        have f10 := (HX.out.ext E1).frozen 0
        have f11 := (HX.out.ext E1).frozen 1
        have f12 := (HX.out.ext E1).frozen 2
        go_wp2_with fail
        refine bodyPost_ret (v := .tuple #[.agg #[.int .i64 x.a, .int .i64 x.b, .string x.c], .int .i64 c]) (by simp [results, Try.results80, go_sem, r10, r11, r12]; try rfl) rfl ?_
        unfold RetV
        rw [HV.out, HC.out]
        exact ⟨rfl, (by repeat (first | exact Ext.refl _ | assumption | refine Ext.alloc ?_ _ | refine Ext.drewN ?_ _ | refine Ext.drew ?_ | refine Ext.set ?_ (by dsimp only; omega) _ | refine Ext.trans ?_ (by assumption)))⟩
      · clear hop hw2 hd1 hd2
        have hK := fun W => spec_l10Bounded (n * m) W
        have hV : binV 8 (numV n) (numV m) = bndV (n * m) := rfl
        have hC : binC 8 (numV n) (numV m) = bndC (n * m) := rfl
        generalize bndV (n * m) = x at hK hV
        generalize bndC (n * m) = c at hK hC
        have HK := Lib.hid hK
        have HV := Lib.hid hV
        have HC := Lib.hid hC
        clear hK hV hC
        go_enter Try.func80, Try.ntmps80
        go_wp2_with fail
        refine (HK.out _).mono ?_
        rintro e w1 ⟨rfl, E1⟩
        obtain ⟨r10, r11, r12⟩ := (HX.out.ext E1).cells3
        have f10 := (HX.out.ext E1).frozen 0
        have f11 := (HX.out.ext E1).frozen 1
        have f12 := (HX.out.ext E1).frozen 2
        go_wp2_with fail
        refine bodyPost_ret (v := .tuple #[.agg #[.int .i64 x.a, .int .i64 x.b, .string x.c], .int .i64 c]) (by simp [results, Try.results80, go_sem, r10, r11, r12]; try rfl) rfl ?_
        unfold RetV
        rw [HV.out, HC.out]
        exact ⟨rfl, (by repeat (first | exact Ext.refl _ | assumption | refine Ext.alloc ?_ _ | refine Ext.drewN ?_ _ | refine Ext.drew ?_ | refine Ext.set ?_ (by dsimp only; omega) _ | refine Ext.trans ?_ (by assumption)))⟩
      · clear hop hw hp1 hp2
        by_cases h0 : m = 0
        · subst h0
          clear hw2 hd1 hd2
          have HV := Lib.hid (show binV 9 (numV n) (numV 0) = nulV from rfl)
          have HC := Lib.hid (show binC 9 (numV n) (numV 0) = 11 from rfl)
          go_enter Try.func80, Try.ntmps80
          go_wp2_with fail
          refine bodyPost_ret (v := .tuple #[.agg #[.int .i64 0, .int .i64 0, .string ByteArray.empty], .int .i64 11]) (by simp [results, Try.results80, go_sem]; try rfl) rfl ?_
          unfold RetV
          rw [HV.out, HC.out]
          exact ⟨rfl, (by repeat (first | exact Ext.refl _ | assumption | refine Ext.alloc ?_ _ | refine Ext.drewN ?_ _ | refine Ext.drew ?_ | refine Ext.set ?_ (by dsimp only; omega) _ | refine Ext.trans ?_ (by assumption)))⟩
        have hK := fun W => spec_l10Bounded (n.tdiv m) W
        have hV : binV 9 (numV n) (numV m) = bndV (n.tdiv m) := by show ariV 9 n m = _; unfold ariV; rw [if_neg (by decide), if_neg (by decide), if_neg (by decide), if_neg h0]
        have hC : binC 9 (numV n) (numV m) = bndC (n.tdiv m) := by show ariC 9 n m = _; unfold ariC; rw [if_neg (by decide), if_neg (by decide), if_neg (by decide), if_neg h0]
        generalize bndV (n.tdiv m) = x at hK hV
        generalize bndC (n.tdiv m) = c at hK hC
        have HK := Lib.hid hK
        have HV := Lib.hid hV
        have HC := Lib.hid hC
        clear hK hV hC
        go_enter Try.func80, Try.ntmps80
        go_wp2_with fail
        refine (HK.out _).mono ?_
        rintro e w1 ⟨rfl, E1⟩
        obtain ⟨r10, r11, r12⟩ := (HX.out.ext E1).cells3
        have f10 := (HX.out.ext E1).frozen 0
        have f11 := (HX.out.ext E1).frozen 1
        have f12 := (HX.out.ext E1).frozen 2
        go_wp2_with fail
        refine bodyPost_ret (v := .tuple #[.agg #[.int .i64 x.a, .int .i64 x.b, .string x.c], .int .i64 c]) (by simp [results, Try.results80, go_sem, r10, r11, r12]; try rfl) rfl ?_
        unfold RetV
        rw [HV.out, HC.out]
        exact ⟨rfl, (by repeat (first | exact Ext.refl _ | assumption | refine Ext.alloc ?_ _ | refine Ext.drewN ?_ _ | refine Ext.drew ?_ | refine Ext.set ?_ (by dsimp only; omega) _ | refine Ext.trans ?_ (by assumption)))⟩
    · show Calls Try.prog 80 #[.int .i64 op, .agg #[.int .i64 1, .int .i64 n, .string ByteArray.empty], .agg #[.int .i64 2, .int .i64 0, .string t]] w _
      have HV := Lib.hid (show binV op (numV n) ⟨2, 0, t⟩ = nulV by unfold binV; rw [e12, e13, e10, e11]; rfl)
      have HC := Lib.hid (show binC op (numV n) ⟨2, 0, t⟩ = 10 by unfold binC; rw [e12, e13, e10, e11]; rfl)
      go_enter Try.func80, Try.ntmps80
      go_wp2_with fail
      refine bodyPost_ret (v := .tuple #[.agg #[.int .i64 0, .int .i64 0, .string ByteArray.empty], .int .i64 10]) (by simp [results, Try.results80, go_sem]; try rfl) rfl ?_
      unfold RetV
      rw [HV.out, HC.out]
      exact ⟨rfl, (by repeat (first | exact Ext.refl _ | assumption | refine Ext.alloc ?_ _ | refine Ext.drewN ?_ _ | refine Ext.drew ?_ | refine Ext.set ?_ (by dsimp only; omega) _ | refine Ext.trans ?_ (by assumption)))⟩
  · rcases sb with rfl | ⟨m, rfl, hm1, hm2⟩ | ⟨t, rfl, -⟩
    · show Calls Try.prog 80 #[.int .i64 op, .agg #[.int .i64 2, .int .i64 0, .string s], .agg #[.int .i64 0, .int .i64 0, .string ByteArray.empty]] w _
      have HV := Lib.hid (show binV op ⟨2, 0, s⟩ nulV = nulV by unfold binV; rw [e12, e13, e10, e11]; rfl)
      have HC := Lib.hid (show binC op ⟨2, 0, s⟩ nulV = 10 by unfold binC; rw [e12, e13, e10, e11]; rfl)
      go_enter Try.func80, Try.ntmps80
      go_wp2_with fail
      refine bodyPost_ret (v := .tuple #[.agg #[.int .i64 0, .int .i64 0, .string ByteArray.empty], .int .i64 10]) (by simp [results, Try.results80, go_sem]; try rfl) rfl ?_
      unfold RetV
      rw [HV.out, HC.out]
      exact ⟨rfl, (by repeat (first | exact Ext.refl _ | assumption | refine Ext.alloc ?_ _ | refine Ext.drewN ?_ _ | refine Ext.drew ?_ | refine Ext.set ?_ (by dsimp only; omega) _ | refine Ext.trans ?_ (by assumption)))⟩
    · show Calls Try.prog 80 #[.int .i64 op, .agg #[.int .i64 2, .int .i64 0, .string s], .agg #[.int .i64 1, .int .i64 m, .string ByteArray.empty]] w _
      have HV := Lib.hid (show binV op ⟨2, 0, s⟩ (numV m) = nulV by unfold binV; rw [e12, e13, e10, e11]; rfl)
      have HC := Lib.hid (show binC op ⟨2, 0, s⟩ (numV m) = 10 by unfold binC; rw [e12, e13, e10, e11]; rfl)
      go_enter Try.func80, Try.ntmps80
      go_wp2_with fail
      refine bodyPost_ret (v := .tuple #[.agg #[.int .i64 0, .int .i64 0, .string ByteArray.empty], .int .i64 10]) (by simp [results, Try.results80, go_sem]; try rfl) rfl ?_
      unfold RetV
      rw [HV.out, HC.out]
      exact ⟨rfl, (by repeat (first | exact Ext.refl _ | assumption | refine Ext.alloc ?_ _ | refine Ext.drewN ?_ _ | refine Ext.drew ?_ | refine Ext.set ?_ (by dsimp only; omega) _ | refine Ext.trans ?_ (by assumption)))⟩
    · show Calls Try.prog 80 #[.int .i64 op, .agg #[.int .i64 2, .int .i64 0, .string s], .agg #[.int .i64 2, .int .i64 0, .string t]] w _
      have HV := Lib.hid (show binV op ⟨2, 0, s⟩ ⟨2, 0, t⟩ = nulV by unfold binV; rw [e12, e13, e10, e11]; rfl)
      have HC := Lib.hid (show binC op ⟨2, 0, s⟩ ⟨2, 0, t⟩ = 10 by unfold binC; rw [e12, e13, e10, e11]; rfl)
      go_enter Try.func80, Try.ntmps80
      go_wp2_with fail
      refine bodyPost_ret (v := .tuple #[.agg #[.int .i64 0, .int .i64 0, .string ByteArray.empty], .int .i64 10]) (by simp [results, Try.results80, go_sem]; try rfl) rfl ?_
      unfold RetV
      rw [HV.out, HC.out]
      exact ⟨rfl, (by repeat (first | exact Ext.refl _ | assumption | refine Ext.alloc ?_ _ | refine Ext.drewN ?_ _ | refine Ext.drew ?_ | refine Ext.set ?_ (by dsimp only; omega) _ | refine Ext.trans ?_ (by assumption)))⟩
end Go.Proofs.Ythfkfdfcgldbeaa
