/- The walk of what two values join, in the reference (printed by gen_bin3.py). -/
import Derived.Test.YthfkfdfcgldbeaaBin3
namespace Go.Proofs.Ythfkfdfcgldbeaa
open Go.RowKit Go.Deep
set_option linter.unusedVariables false
set_option maxRecDepth 100000
def bitI (b : Bool) : Int := if b then 1 else 0
theorem spec_l01Bit (b : Bool) (w : World) : Calls Try.prog 122 #[.bool b] w fun e w' => e = .returned (.int .i64 (bitI b)) ∧ w = w' := by
  cases b
  · go_enter Try.func122, Try.ntmps122
    go_wp2_with fail
    go_ret
    exact ⟨rfl, rfl⟩
  · go_enter Try.func122, Try.ntmps122
    go_wp2_with fail
    go_ret
    exact ⟨rfl, rfl⟩
theorem spec_l10Int (n : Int) (w : World) : Calls Try.prog 121 #[.int .i64 n] w fun e w' => e = .returned (.agg #[.int .i64 1, .int .i64 n, .string ByteArray.empty]) ∧ Ext w w' := by
  go_enter Try.func121, Try.ntmps121
  go_wp2_with fail
  refine bodyPost_ret (v := .agg #[.int .i64 1, .int .i64 n, .string ByteArray.empty]) (by simp [results, Try.results121, go_sem]; try rfl) rfl ⟨rfl, (by repeat (first | exact Ext.refl _ | assumption | refine Ext.alloc ?_ _ | refine Ext.drewN ?_ _ | refine Ext.drew ?_ | refine Ext.set ?_ (by dsimp only; omega) _ | refine Ext.trans ?_ (by assumption)))⟩
theorem spec_l10Bounded (n : Int) (w : World) : Calls Try.prog 124 #[.int .i64 n] w (RetV w (bndV n) (bndC n)) := by
  have HX := Lib.hid (Blk.new w 30 [.int .i64 0, .int .i64 0, .string ⟨#[]⟩])
  have HI := Lib.hid (fun W => spec_l01In n (-1000000000) 1000000000 W)
  have HN := Lib.hid (fun W => spec_l10Int n W)
  have hV : bndV n = if inB n (-1000000000) 1000000000 then numV n else nulV := rfl
  have hC : bndC n = if inB n (-1000000000) 1000000000 then 0 else 12 := rfl
  generalize inB n (-1000000000) 1000000000 = q at HI hV hC
  rcases q with _ | _
  · have HV := Lib.hid (show bndV n = nulV by rw [hV]; rfl)
    have HC := Lib.hid (show bndC n = 12 by rw [hC]; rfl)
    clear hV hC
    go_enter Try.func124, Try.ntmps124
    go_wp2_with fail
    refine (HI.out _).mono ?_
    rintro e w1 ⟨rfl, rfl⟩
    go_wp2_with fail
    refine bodyPost_ret (v := .tuple #[.agg #[.int .i64 0, .int .i64 0, .string ByteArray.empty], .int .i64 12]) (by simp [results, Try.results124, go_sem]; try rfl) rfl ?_
    unfold RetV
    rw [HV.out, HC.out]
    exact ⟨rfl, (by repeat (first | exact Ext.refl _ | assumption | refine Ext.alloc ?_ _ | refine Ext.drewN ?_ _ | refine Ext.drew ?_ | refine Ext.set ?_ (by dsimp only; omega) _ | refine Ext.trans ?_ (by assumption)))⟩
  · have HV := Lib.hid (show bndV n = numV n by rw [hV]; rfl)
    have HC := Lib.hid (show bndC n = 0 by rw [hC]; rfl)
    clear hV hC
    go_enter Try.func124, Try.ntmps124
    go_wp2_with fail
    refine (HI.out _).mono ?_
    rintro e w1 ⟨rfl, rfl⟩
    go_wp2_with fail
    refine (HN.out _).mono ?_
    rintro e w1 ⟨rfl, E1⟩
    obtain ⟨r0, r1, r2⟩ := (HX.out.ext E1).cells3
    have f0 := (HX.out.ext E1).frozen 0
    have f1 := (HX.out.ext E1).frozen 1
    have f2 := (HX.out.ext E1).frozen 2
    go_wp2_with fail
    refine bodyPost_ret (v := .tuple #[.agg #[.int .i64 1, .int .i64 n, .string ByteArray.empty], .int .i64 0]) (by simp [results, Try.results124, go_sem, r0, r1, r2]; try rfl) rfl ?_
    unfold RetV
    rw [HV.out, HC.out]
    exact ⟨rfl, (by repeat (first | exact Ext.refl _ | assumption | refine Ext.alloc ?_ _ | refine Ext.drewN ?_ _ | refine Ext.drew ?_ | refine Ext.set ?_ (by dsimp only; omega) _ | refine Ext.trans ?_ (by assumption)))⟩
set_option maxHeartbeats 8000000 in
theorem spec_binary12 (a b : CValue) (w : World) (ha : okV a = true) (hb : okV b = true) : Calls Try.prog 80 #[.int .i64 12, .agg #[.int .i64 a.a, .int .i64 a.b, .string a.c], .agg #[.int .i64 b.a, .int .i64 b.b, .string b.c]] w (RetV w (binV 12 a b) (binC 12 a b)) := by
  have sa := okV_shape ha
  have sb := okV_shape hb
  clear ha hb
  rcases sa with rfl | ⟨n, rfl, -, -⟩ | ⟨s, rfl, -⟩
  · rcases sb with rfl | ⟨m, rfl, -, -⟩ | ⟨t, rfl, -⟩
    · have hX := Blk.new ((w.alloc (.cells #[.int .i64 0, .int .i64 0, .string ByteArray.empty] 30)).alloc (.cells #[.int .i64 0, .int .i64 0, .string ByteArray.empty] 30)) 30 [.int .i64 0, .int .i64 0, .string ⟨#[]⟩]
      rw [World.size_alloc, World.size_alloc] at hX
      have HX := Lib.hid hX
      clear hX
      show Calls Try.prog 80 #[.int .i64 12, .agg #[.int .i64 0, .int .i64 0, .string ByteArray.empty], .agg #[.int .i64 0, .int .i64 0, .string ByteArray.empty]] w _
      have HV := Lib.hid (show binV 12 nulV nulV = nulV from rfl)
      have HC := Lib.hid (show binC 12 nulV nulV = 0 from rfl)
      go_enter Try.func80, Try.ntmps80
      go_wp2_with fail
      refine bodyPost_ret (v := .tuple #[.agg #[.int .i64 0, .int .i64 0, .string ByteArray.empty], .int .i64 0]) (by simp [results, Try.results80, go_sem]; try rfl) rfl ?_
      unfold RetV
      rw [HV.out, HC.out]
      exact ⟨rfl, (by repeat (first | exact Ext.refl _ | assumption | refine Ext.alloc ?_ _ | refine Ext.drewN ?_ _ | refine Ext.drew ?_ | refine Ext.set ?_ (by dsimp only; omega) _ | refine Ext.trans ?_ (by assumption)))⟩
    · have hX := Blk.new ((w.alloc (.cells #[.int .i64 0, .int .i64 0, .string ByteArray.empty] 30)).alloc (.cells #[.int .i64 1, .int .i64 m, .string ByteArray.empty] 30)) 30 [.int .i64 0, .int .i64 0, .string ⟨#[]⟩]
      rw [World.size_alloc, World.size_alloc] at hX
      have HX := Lib.hid hX
      clear hX
      show Calls Try.prog 80 #[.int .i64 12, .agg #[.int .i64 0, .int .i64 0, .string ByteArray.empty], .agg #[.int .i64 1, .int .i64 m, .string ByteArray.empty]] w _
      rcases gb : (m == 0) with _ | _
      · have gb2 : (m != 0) = true := by unfold bne; rw [gb]; rfl
        have HV := Lib.hid (show binV 12 nulV (numV m) = nulV from by show (if (false || (m == 0)) = true then numV 0 else nulV) = _; rw [gb]; rfl)
        have HC := Lib.hid (show binC 12 nulV (numV m) = 0 from rfl)
        go_enter Try.func80, Try.ntmps80
        go_wp2_with fail
        refine bodyPost_ret (v := .tuple #[.agg #[.int .i64 0, .int .i64 0, .string ByteArray.empty], .int .i64 0]) (by simp [results, Try.results80, go_sem]; try rfl) rfl ?_
        unfold RetV
        rw [HV.out, HC.out]
        exact ⟨rfl, (by repeat (first | exact Ext.refl _ | assumption | refine Ext.alloc ?_ _ | refine Ext.drewN ?_ _ | refine Ext.drew ?_ | refine Ext.set ?_ (by dsimp only; omega) _ | refine Ext.trans ?_ (by assumption)))⟩
      · have HI := Lib.hid (fun z W => spec_l10Int z W)
        have HB := Lib.hid (fun q W => spec_l01Bit q W)
        have HBtrue := Lib.hid (fun W => show Calls Try.prog 122 #[.bool true] W fun e w' => e = .returned (.int .i64 1) ∧ W = w' from spec_l01Bit true W)
        have HBfalse := Lib.hid (fun W => show Calls Try.prog 122 #[.bool false] W fun e w' => e = .returned (.int .i64 0) ∧ W = w' from spec_l01Bit false W)
        have gb2 : (m != 0) = false := by unfold bne; rw [gb]; rfl
        have HV := Lib.hid (show binV 12 nulV (numV m) = numV 0 from by show (if (false || (m == 0)) = true then numV 0 else nulV) = _; rw [gb]; rfl)
        have HC := Lib.hid (show binC 12 nulV (numV m) = 0 from rfl)
        go_enter Try.func80, Try.ntmps80
        go_wp2_with fail
        refine (HI.out 0 _).mono ?_
        rintro e w1 ⟨rfl, E1⟩
        obtain ⟨r10, r11, r12⟩ := (HX.out.ext E1).cells3
        have f10 := (HX.out.ext E1).frozen 0
        have f11 := (HX.out.ext E1).frozen 1
        have f12 := (HX.out.ext E1).frozen 2
        go_wp2_with fail
        refine bodyPost_ret (v := .tuple #[.agg #[.int .i64 1, .int .i64 0, .string ByteArray.empty], .int .i64 0]) (by simp [results, Try.results80, go_sem, r10, r11, r12]; try rfl) rfl ?_
        unfold RetV
        rw [HV.out, HC.out]
        exact ⟨rfl, (by repeat (first | exact Ext.refl _ | assumption | refine Ext.alloc ?_ _ | refine Ext.drewN ?_ _ | refine Ext.drew ?_ | refine Ext.set ?_ (by dsimp only; omega) _ | refine Ext.trans ?_ (by assumption)))⟩
    · show Calls Try.prog 80 #[.int .i64 12, .agg #[.int .i64 0, .int .i64 0, .string ByteArray.empty], .agg #[.int .i64 2, .int .i64 0, .string t]] w _
      have HV := Lib.hid (show binV 12 nulV ⟨2, 0, t⟩ = nulV from rfl)
      have HC := Lib.hid (show binC 12 nulV ⟨2, 0, t⟩ = 10 from rfl)
      go_enter Try.func80, Try.ntmps80
      go_wp2_with fail
      refine bodyPost_ret (v := .tuple #[.agg #[.int .i64 0, .int .i64 0, .string ByteArray.empty], .int .i64 10]) (by simp [results, Try.results80, go_sem]; try rfl) rfl ?_
      unfold RetV
      rw [HV.out, HC.out]
      exact ⟨rfl, (by repeat (first | exact Ext.refl _ | assumption | refine Ext.alloc ?_ _ | refine Ext.drewN ?_ _ | refine Ext.drew ?_ | refine Ext.set ?_ (by dsimp only; omega) _ | refine Ext.trans ?_ (by assumption)))⟩
  · rcases sb with rfl | ⟨m, rfl, -, -⟩ | ⟨t, rfl, -⟩
    · have hX := Blk.new ((w.alloc (.cells #[.int .i64 1, .int .i64 n, .string ByteArray.empty] 30)).alloc (.cells #[.int .i64 0, .int .i64 0, .string ByteArray.empty] 30)) 30 [.int .i64 0, .int .i64 0, .string ⟨#[]⟩]
      rw [World.size_alloc, World.size_alloc] at hX
      have HX := Lib.hid hX
      clear hX
      show Calls Try.prog 80 #[.int .i64 12, .agg #[.int .i64 1, .int .i64 n, .string ByteArray.empty], .agg #[.int .i64 0, .int .i64 0, .string ByteArray.empty]] w _
      rcases ga : (n == 0) with _ | _
      · have ga2 : (n != 0) = true := by unfold bne; rw [ga]; rfl
        have HV := Lib.hid (show binV 12 (numV n) nulV = nulV from by show (if ((n == 0) || false) = true then numV 0 else nulV) = _; rw [ga]; rfl)
        have HC := Lib.hid (show binC 12 (numV n) nulV = 0 from rfl)
        go_enter Try.func80, Try.ntmps80
        go_wp2_with fail
        refine bodyPost_ret (v := .tuple #[.agg #[.int .i64 0, .int .i64 0, .string ByteArray.empty], .int .i64 0]) (by simp [results, Try.results80, go_sem]; try rfl) rfl ?_
        unfold RetV
        rw [HV.out, HC.out]
        exact ⟨rfl, (by repeat (first | exact Ext.refl _ | assumption | refine Ext.alloc ?_ _ | refine Ext.drewN ?_ _ | refine Ext.drew ?_ | refine Ext.set ?_ (by dsimp only; omega) _ | refine Ext.trans ?_ (by assumption)))⟩
      · have HI := Lib.hid (fun z W => spec_l10Int z W)
        have HB := Lib.hid (fun q W => spec_l01Bit q W)
        have HBtrue := Lib.hid (fun W => show Calls Try.prog 122 #[.bool true] W fun e w' => e = .returned (.int .i64 1) ∧ W = w' from spec_l01Bit true W)
        have HBfalse := Lib.hid (fun W => show Calls Try.prog 122 #[.bool false] W fun e w' => e = .returned (.int .i64 0) ∧ W = w' from spec_l01Bit false W)
        have ga2 : (n != 0) = false := by unfold bne; rw [ga]; rfl
        have HV := Lib.hid (show binV 12 (numV n) nulV = numV 0 from by show (if ((n == 0) || false) = true then numV 0 else nulV) = _; rw [ga]; rfl)
        have HC := Lib.hid (show binC 12 (numV n) nulV = 0 from rfl)
        go_enter Try.func80, Try.ntmps80
        go_wp2_with fail
        refine (HI.out 0 _).mono ?_
        rintro e w1 ⟨rfl, E1⟩
        obtain ⟨r10, r11, r12⟩ := (HX.out.ext E1).cells3
        have f10 := (HX.out.ext E1).frozen 0
        have f11 := (HX.out.ext E1).frozen 1
        have f12 := (HX.out.ext E1).frozen 2
        go_wp2_with fail
        refine bodyPost_ret (v := .tuple #[.agg #[.int .i64 1, .int .i64 0, .string ByteArray.empty], .int .i64 0]) (by simp [results, Try.results80, go_sem, r10, r11, r12]; try rfl) rfl ?_
        unfold RetV
        rw [HV.out, HC.out]
        exact ⟨rfl, (by repeat (first | exact Ext.refl _ | assumption | refine Ext.alloc ?_ _ | refine Ext.drewN ?_ _ | refine Ext.drew ?_ | refine Ext.set ?_ (by dsimp only; omega) _ | refine Ext.trans ?_ (by assumption)))⟩
    · have hX := Blk.new ((w.alloc (.cells #[.int .i64 1, .int .i64 n, .string ByteArray.empty] 30)).alloc (.cells #[.int .i64 1, .int .i64 m, .string ByteArray.empty] 30)) 30 [.int .i64 0, .int .i64 0, .string ⟨#[]⟩]
      rw [World.size_alloc, World.size_alloc] at hX
      have HX := Lib.hid hX
      clear hX
      show Calls Try.prog 80 #[.int .i64 12, .agg #[.int .i64 1, .int .i64 n, .string ByteArray.empty], .agg #[.int .i64 1, .int .i64 m, .string ByteArray.empty]] w _
      rcases ga : (n == 0) with _ | _
      · rcases gb : (m == 0) with _ | _
        · have HI := Lib.hid (fun z W => spec_l10Int z W)
          have HB := Lib.hid (fun q W => spec_l01Bit q W)
          have HBtrue := Lib.hid (fun W => show Calls Try.prog 122 #[.bool true] W fun e w' => e = .returned (.int .i64 1) ∧ W = w' from spec_l01Bit true W)
          have HBfalse := Lib.hid (fun W => show Calls Try.prog 122 #[.bool false] W fun e w' => e = .returned (.int .i64 0) ∧ W = w' from spec_l01Bit false W)
          have ga2 : (n != 0) = true := by unfold bne; rw [ga]; rfl
          have gb2 : (m != 0) = true := by unfold bne; rw [gb]; rfl
          have HV := Lib.hid (show binV 12 (numV n) (numV m) = numV 1 from by show (if ((n == 0) || (m == 0)) = true then numV 0 else numV 1) = _; rw [ga, gb]; rfl)
          have HC := Lib.hid (show binC 12 (numV n) (numV m) = 0 from rfl)
          go_enter Try.func80, Try.ntmps80
          go_wp2_with fail
          refine (HBtrue.out _).mono ?_
          rintro e w1 ⟨rfl, rfl⟩
          go_wp2_with fail
          refine (HI.out 1 _).mono ?_
          rintro e w1 ⟨rfl, E1⟩
          obtain ⟨r10, r11, r12⟩ := (HX.out.ext E1).cells3
          have f10 := (HX.out.ext E1).frozen 0
          have f11 := (HX.out.ext E1).frozen 1
          have f12 := (HX.out.ext E1).frozen 2
          go_wp2_with fail
          refine bodyPost_ret (v := .tuple #[.agg #[.int .i64 1, .int .i64 1, .string ByteArray.empty], .int .i64 0]) (by simp [results, Try.results80, go_sem, r10, r11, r12]; try rfl) rfl ?_
          unfold RetV
          rw [HV.out, HC.out]
          exact ⟨rfl, (by repeat (first | exact Ext.refl _ | assumption | refine Ext.alloc ?_ _ | refine Ext.drewN ?_ _ | refine Ext.drew ?_ | refine Ext.set ?_ (by dsimp only; omega) _ | refine Ext.trans ?_ (by assumption)))⟩
        · have HI := Lib.hid (fun z W => spec_l10Int z W)
          have HB := Lib.hid (fun q W => spec_l01Bit q W)
          have HBtrue := Lib.hid (fun W => show Calls Try.prog 122 #[.bool true] W fun e w' => e = .returned (.int .i64 1) ∧ W = w' from spec_l01Bit true W)
          have HBfalse := Lib.hid (fun W => show Calls Try.prog 122 #[.bool false] W fun e w' => e = .returned (.int .i64 0) ∧ W = w' from spec_l01Bit false W)
          have ga2 : (n != 0) = true := by unfold bne; rw [ga]; rfl
          have gb2 : (m != 0) = false := by unfold bne; rw [gb]; rfl
          have HV := Lib.hid (show binV 12 (numV n) (numV m) = numV 0 from by show (if ((n == 0) || (m == 0)) = true then numV 0 else numV 1) = _; rw [ga, gb]; rfl)
          have HC := Lib.hid (show binC 12 (numV n) (numV m) = 0 from rfl)
          go_enter Try.func80, Try.ntmps80
          go_wp2_with fail
          refine (HI.out 0 _).mono ?_
          rintro e w1 ⟨rfl, E1⟩
          obtain ⟨r10, r11, r12⟩ := (HX.out.ext E1).cells3
          have f10 := (HX.out.ext E1).frozen 0
          have f11 := (HX.out.ext E1).frozen 1
          have f12 := (HX.out.ext E1).frozen 2
          go_wp2_with fail
          refine bodyPost_ret (v := .tuple #[.agg #[.int .i64 1, .int .i64 0, .string ByteArray.empty], .int .i64 0]) (by simp [results, Try.results80, go_sem, r10, r11, r12]; try rfl) rfl ?_
          unfold RetV
          rw [HV.out, HC.out]
          exact ⟨rfl, (by repeat (first | exact Ext.refl _ | assumption | refine Ext.alloc ?_ _ | refine Ext.drewN ?_ _ | refine Ext.drew ?_ | refine Ext.set ?_ (by dsimp only; omega) _ | refine Ext.trans ?_ (by assumption)))⟩
      · rcases gb : (m == 0) with _ | _
        · have HI := Lib.hid (fun z W => spec_l10Int z W)
          have HB := Lib.hid (fun q W => spec_l01Bit q W)
          have HBtrue := Lib.hid (fun W => show Calls Try.prog 122 #[.bool true] W fun e w' => e = .returned (.int .i64 1) ∧ W = w' from spec_l01Bit true W)
          have HBfalse := Lib.hid (fun W => show Calls Try.prog 122 #[.bool false] W fun e w' => e = .returned (.int .i64 0) ∧ W = w' from spec_l01Bit false W)
          have ga2 : (n != 0) = false := by unfold bne; rw [ga]; rfl
          have gb2 : (m != 0) = true := by unfold bne; rw [gb]; rfl
          have HV := Lib.hid (show binV 12 (numV n) (numV m) = numV 0 from by show (if ((n == 0) || (m == 0)) = true then numV 0 else numV 1) = _; rw [ga, gb]; rfl)
          have HC := Lib.hid (show binC 12 (numV n) (numV m) = 0 from rfl)
          go_enter Try.func80, Try.ntmps80
          go_wp2_with fail
          refine (HI.out 0 _).mono ?_
          rintro e w1 ⟨rfl, E1⟩
          obtain ⟨r10, r11, r12⟩ := (HX.out.ext E1).cells3
          have f10 := (HX.out.ext E1).frozen 0
          have f11 := (HX.out.ext E1).frozen 1
          have f12 := (HX.out.ext E1).frozen 2
          go_wp2_with fail
          refine bodyPost_ret (v := .tuple #[.agg #[.int .i64 1, .int .i64 0, .string ByteArray.empty], .int .i64 0]) (by simp [results, Try.results80, go_sem, r10, r11, r12]; try rfl) rfl ?_
          unfold RetV
          rw [HV.out, HC.out]
          exact ⟨rfl, (by repeat (first | exact Ext.refl _ | assumption | refine Ext.alloc ?_ _ | refine Ext.drewN ?_ _ | refine Ext.drew ?_ | refine Ext.set ?_ (by dsimp only; omega) _ | refine Ext.trans ?_ (by assumption)))⟩
        · have HI := Lib.hid (fun z W => spec_l10Int z W)
          have HB := Lib.hid (fun q W => spec_l01Bit q W)
          have HBtrue := Lib.hid (fun W => show Calls Try.prog 122 #[.bool true] W fun e w' => e = .returned (.int .i64 1) ∧ W = w' from spec_l01Bit true W)
          have HBfalse := Lib.hid (fun W => show Calls Try.prog 122 #[.bool false] W fun e w' => e = .returned (.int .i64 0) ∧ W = w' from spec_l01Bit false W)
          have ga2 : (n != 0) = false := by unfold bne; rw [ga]; rfl
          have gb2 : (m != 0) = false := by unfold bne; rw [gb]; rfl
          have HV := Lib.hid (show binV 12 (numV n) (numV m) = numV 0 from by show (if ((n == 0) || (m == 0)) = true then numV 0 else numV 1) = _; rw [ga, gb]; rfl)
          have HC := Lib.hid (show binC 12 (numV n) (numV m) = 0 from rfl)
          go_enter Try.func80, Try.ntmps80
          go_wp2_with fail
          refine (HI.out 0 _).mono ?_
          rintro e w1 ⟨rfl, E1⟩
          obtain ⟨r10, r11, r12⟩ := (HX.out.ext E1).cells3
          have f10 := (HX.out.ext E1).frozen 0
          have f11 := (HX.out.ext E1).frozen 1
          have f12 := (HX.out.ext E1).frozen 2
          go_wp2_with fail
          refine bodyPost_ret (v := .tuple #[.agg #[.int .i64 1, .int .i64 0, .string ByteArray.empty], .int .i64 0]) (by simp [results, Try.results80, go_sem, r10, r11, r12]; try rfl) rfl ?_
          unfold RetV
          rw [HV.out, HC.out]
          exact ⟨rfl, (by repeat (first | exact Ext.refl _ | assumption | refine Ext.alloc ?_ _ | refine Ext.drewN ?_ _ | refine Ext.drew ?_ | refine Ext.set ?_ (by dsimp only; omega) _ | refine Ext.trans ?_ (by assumption)))⟩
    · show Calls Try.prog 80 #[.int .i64 12, .agg #[.int .i64 1, .int .i64 n, .string ByteArray.empty], .agg #[.int .i64 2, .int .i64 0, .string t]] w _
      have HV := Lib.hid (show binV 12 (numV n) ⟨2, 0, t⟩ = nulV from rfl)
      have HC := Lib.hid (show binC 12 (numV n) ⟨2, 0, t⟩ = 10 from rfl)
      go_enter Try.func80, Try.ntmps80
      go_wp2_with fail
      refine bodyPost_ret (v := .tuple #[.agg #[.int .i64 0, .int .i64 0, .string ByteArray.empty], .int .i64 10]) (by simp [results, Try.results80, go_sem]; try rfl) rfl ?_
      unfold RetV
      rw [HV.out, HC.out]
      exact ⟨rfl, (by repeat (first | exact Ext.refl _ | assumption | refine Ext.alloc ?_ _ | refine Ext.drewN ?_ _ | refine Ext.drew ?_ | refine Ext.set ?_ (by dsimp only; omega) _ | refine Ext.trans ?_ (by assumption)))⟩
  · rcases sb with rfl | ⟨m, rfl, -, -⟩ | ⟨t, rfl, -⟩
    · show Calls Try.prog 80 #[.int .i64 12, .agg #[.int .i64 2, .int .i64 0, .string s], .agg #[.int .i64 0, .int .i64 0, .string ByteArray.empty]] w _
      have HV := Lib.hid (show binV 12 ⟨2, 0, s⟩ nulV = nulV from rfl)
      have HC := Lib.hid (show binC 12 ⟨2, 0, s⟩ nulV = 10 from rfl)
      go_enter Try.func80, Try.ntmps80
      go_wp2_with fail
      refine bodyPost_ret (v := .tuple #[.agg #[.int .i64 0, .int .i64 0, .string ByteArray.empty], .int .i64 10]) (by simp [results, Try.results80, go_sem]; try rfl) rfl ?_
      unfold RetV
      rw [HV.out, HC.out]
      exact ⟨rfl, (by repeat (first | exact Ext.refl _ | assumption | refine Ext.alloc ?_ _ | refine Ext.drewN ?_ _ | refine Ext.drew ?_ | refine Ext.set ?_ (by dsimp only; omega) _ | refine Ext.trans ?_ (by assumption)))⟩
    · show Calls Try.prog 80 #[.int .i64 12, .agg #[.int .i64 2, .int .i64 0, .string s], .agg #[.int .i64 1, .int .i64 m, .string ByteArray.empty]] w _
      have HV := Lib.hid (show binV 12 ⟨2, 0, s⟩ (numV m) = nulV from rfl)
      have HC := Lib.hid (show binC 12 ⟨2, 0, s⟩ (numV m) = 10 from rfl)
      go_enter Try.func80, Try.ntmps80
      go_wp2_with fail
      refine bodyPost_ret (v := .tuple #[.agg #[.int .i64 0, .int .i64 0, .string ByteArray.empty], .int .i64 10]) (by simp [results, Try.results80, go_sem]; try rfl) rfl ?_
      unfold RetV
      rw [HV.out, HC.out]
      exact ⟨rfl, (by repeat (first | exact Ext.refl _ | assumption | refine Ext.alloc ?_ _ | refine Ext.drewN ?_ _ | refine Ext.drew ?_ | refine Ext.set ?_ (by dsimp only; omega) _ | refine Ext.trans ?_ (by assumption)))⟩
    · show Calls Try.prog 80 #[.int .i64 12, .agg #[.int .i64 2, .int .i64 0, .string s], .agg #[.int .i64 2, .int .i64 0, .string t]] w _
      have HV := Lib.hid (show binV 12 ⟨2, 0, s⟩ ⟨2, 0, t⟩ = nulV from rfl)
      have HC := Lib.hid (show binC 12 ⟨2, 0, s⟩ ⟨2, 0, t⟩ = 10 from rfl)
      go_enter Try.func80, Try.ntmps80
      go_wp2_with fail
      refine bodyPost_ret (v := .tuple #[.agg #[.int .i64 0, .int .i64 0, .string ByteArray.empty], .int .i64 10]) (by simp [results, Try.results80, go_sem]; try rfl) rfl ?_
      unfold RetV
      rw [HV.out, HC.out]
      exact ⟨rfl, (by repeat (first | exact Ext.refl _ | assumption | refine Ext.alloc ?_ _ | refine Ext.drewN ?_ _ | refine Ext.drew ?_ | refine Ext.set ?_ (by dsimp only; omega) _ | refine Ext.trans ?_ (by assumption)))⟩
set_option maxHeartbeats 8000000 in
theorem spec_binary13 (a b : CValue) (w : World) (ha : okV a = true) (hb : okV b = true) : Calls Try.prog 80 #[.int .i64 13, .agg #[.int .i64 a.a, .int .i64 a.b, .string a.c], .agg #[.int .i64 b.a, .int .i64 b.b, .string b.c]] w (RetV w (binV 13 a b) (binC 13 a b)) := by
  have sa := okV_shape ha
  have sb := okV_shape hb
  clear ha hb
  rcases sa with rfl | ⟨n, rfl, -, -⟩ | ⟨s, rfl, -⟩
  · rcases sb with rfl | ⟨m, rfl, -, -⟩ | ⟨t, rfl, -⟩
    · have hX := Blk.new ((w.alloc (.cells #[.int .i64 0, .int .i64 0, .string ByteArray.empty] 30)).alloc (.cells #[.int .i64 0, .int .i64 0, .string ByteArray.empty] 30)) 30 [.int .i64 0, .int .i64 0, .string ⟨#[]⟩]
      rw [World.size_alloc, World.size_alloc] at hX
      have HX := Lib.hid hX
      clear hX
      show Calls Try.prog 80 #[.int .i64 13, .agg #[.int .i64 0, .int .i64 0, .string ByteArray.empty], .agg #[.int .i64 0, .int .i64 0, .string ByteArray.empty]] w _
      have HV := Lib.hid (show binV 13 nulV nulV = nulV from rfl)
      have HC := Lib.hid (show binC 13 nulV nulV = 0 from rfl)
      go_enter Try.func80, Try.ntmps80
      go_wp2_with fail
      refine bodyPost_ret (v := .tuple #[.agg #[.int .i64 0, .int .i64 0, .string ByteArray.empty], .int .i64 0]) (by simp [results, Try.results80, go_sem]; try rfl) rfl ?_
      unfold RetV
      rw [HV.out, HC.out]
      exact ⟨rfl, (by repeat (first | exact Ext.refl _ | assumption | refine Ext.alloc ?_ _ | refine Ext.drewN ?_ _ | refine Ext.drew ?_ | refine Ext.set ?_ (by dsimp only; omega) _ | refine Ext.trans ?_ (by assumption)))⟩
    · have hX := Blk.new ((w.alloc (.cells #[.int .i64 0, .int .i64 0, .string ByteArray.empty] 30)).alloc (.cells #[.int .i64 1, .int .i64 m, .string ByteArray.empty] 30)) 30 [.int .i64 0, .int .i64 0, .string ⟨#[]⟩]
      rw [World.size_alloc, World.size_alloc] at hX
      have HX := Lib.hid hX
      clear hX
      show Calls Try.prog 80 #[.int .i64 13, .agg #[.int .i64 0, .int .i64 0, .string ByteArray.empty], .agg #[.int .i64 1, .int .i64 m, .string ByteArray.empty]] w _
      rcases gb : (m == 0) with _ | _
      · have HI := Lib.hid (fun z W => spec_l10Int z W)
        have HB := Lib.hid (fun q W => spec_l01Bit q W)
        have HBtrue := Lib.hid (fun W => show Calls Try.prog 122 #[.bool true] W fun e w' => e = .returned (.int .i64 1) ∧ W = w' from spec_l01Bit true W)
        have HBfalse := Lib.hid (fun W => show Calls Try.prog 122 #[.bool false] W fun e w' => e = .returned (.int .i64 0) ∧ W = w' from spec_l01Bit false W)
        have gb2 : (m != 0) = true := by unfold bne; rw [gb]; rfl
        have HV := Lib.hid (show binV 13 nulV (numV m) = numV 1 from by show (if (false || !(m == 0)) = true then numV 1 else nulV) = _; rw [gb]; rfl)
        have HC := Lib.hid (show binC 13 nulV (numV m) = 0 from rfl)
        go_enter Try.func80, Try.ntmps80
        go_wp2_with fail
        refine (HI.out 1 _).mono ?_
        rintro e w1 ⟨rfl, E1⟩
        obtain ⟨r10, r11, r12⟩ := (HX.out.ext E1).cells3
        have f10 := (HX.out.ext E1).frozen 0
        have f11 := (HX.out.ext E1).frozen 1
        have f12 := (HX.out.ext E1).frozen 2
        go_wp2_with fail
        refine bodyPost_ret (v := .tuple #[.agg #[.int .i64 1, .int .i64 1, .string ByteArray.empty], .int .i64 0]) (by simp [results, Try.results80, go_sem, r10, r11, r12]; try rfl) rfl ?_
        unfold RetV
        rw [HV.out, HC.out]
        exact ⟨rfl, (by repeat (first | exact Ext.refl _ | assumption | refine Ext.alloc ?_ _ | refine Ext.drewN ?_ _ | refine Ext.drew ?_ | refine Ext.set ?_ (by dsimp only; omega) _ | refine Ext.trans ?_ (by assumption)))⟩
      · have gb2 : (m != 0) = false := by unfold bne; rw [gb]; rfl
        have HV := Lib.hid (show binV 13 nulV (numV m) = nulV from by show (if (false || !(m == 0)) = true then numV 1 else nulV) = _; rw [gb]; rfl)
        have HC := Lib.hid (show binC 13 nulV (numV m) = 0 from rfl)
        go_enter Try.func80, Try.ntmps80
        go_wp2_with fail
        refine bodyPost_ret (v := .tuple #[.agg #[.int .i64 0, .int .i64 0, .string ByteArray.empty], .int .i64 0]) (by simp [results, Try.results80, go_sem]; try rfl) rfl ?_
        unfold RetV
        rw [HV.out, HC.out]
        exact ⟨rfl, (by repeat (first | exact Ext.refl _ | assumption | refine Ext.alloc ?_ _ | refine Ext.drewN ?_ _ | refine Ext.drew ?_ | refine Ext.set ?_ (by dsimp only; omega) _ | refine Ext.trans ?_ (by assumption)))⟩
    · show Calls Try.prog 80 #[.int .i64 13, .agg #[.int .i64 0, .int .i64 0, .string ByteArray.empty], .agg #[.int .i64 2, .int .i64 0, .string t]] w _
      have HV := Lib.hid (show binV 13 nulV ⟨2, 0, t⟩ = nulV from rfl)
      have HC := Lib.hid (show binC 13 nulV ⟨2, 0, t⟩ = 10 from rfl)
      go_enter Try.func80, Try.ntmps80
      go_wp2_with fail
      refine bodyPost_ret (v := .tuple #[.agg #[.int .i64 0, .int .i64 0, .string ByteArray.empty], .int .i64 10]) (by simp [results, Try.results80, go_sem]; try rfl) rfl ?_
      unfold RetV
      rw [HV.out, HC.out]
      exact ⟨rfl, (by repeat (first | exact Ext.refl _ | assumption | refine Ext.alloc ?_ _ | refine Ext.drewN ?_ _ | refine Ext.drew ?_ | refine Ext.set ?_ (by dsimp only; omega) _ | refine Ext.trans ?_ (by assumption)))⟩
  · rcases sb with rfl | ⟨m, rfl, -, -⟩ | ⟨t, rfl, -⟩
    · have hX := Blk.new ((w.alloc (.cells #[.int .i64 1, .int .i64 n, .string ByteArray.empty] 30)).alloc (.cells #[.int .i64 0, .int .i64 0, .string ByteArray.empty] 30)) 30 [.int .i64 0, .int .i64 0, .string ⟨#[]⟩]
      rw [World.size_alloc, World.size_alloc] at hX
      have HX := Lib.hid hX
      clear hX
      show Calls Try.prog 80 #[.int .i64 13, .agg #[.int .i64 1, .int .i64 n, .string ByteArray.empty], .agg #[.int .i64 0, .int .i64 0, .string ByteArray.empty]] w _
      rcases ga : (n == 0) with _ | _
      · have HI := Lib.hid (fun z W => spec_l10Int z W)
        have HB := Lib.hid (fun q W => spec_l01Bit q W)
        have HBtrue := Lib.hid (fun W => show Calls Try.prog 122 #[.bool true] W fun e w' => e = .returned (.int .i64 1) ∧ W = w' from spec_l01Bit true W)
        have HBfalse := Lib.hid (fun W => show Calls Try.prog 122 #[.bool false] W fun e w' => e = .returned (.int .i64 0) ∧ W = w' from spec_l01Bit false W)
        have ga2 : (n != 0) = true := by unfold bne; rw [ga]; rfl
        have HV := Lib.hid (show binV 13 (numV n) nulV = numV 1 from by show (if (!(n == 0) || false) = true then numV 1 else nulV) = _; rw [ga]; rfl)
        have HC := Lib.hid (show binC 13 (numV n) nulV = 0 from rfl)
        go_enter Try.func80, Try.ntmps80
        go_wp2_with fail
        refine (HI.out 1 _).mono ?_
        rintro e w1 ⟨rfl, E1⟩
        obtain ⟨r10, r11, r12⟩ := (HX.out.ext E1).cells3
        have f10 := (HX.out.ext E1).frozen 0
        have f11 := (HX.out.ext E1).frozen 1
        have f12 := (HX.out.ext E1).frozen 2
        go_wp2_with fail
        refine bodyPost_ret (v := .tuple #[.agg #[.int .i64 1, .int .i64 1, .string ByteArray.empty], .int .i64 0]) (by simp [results, Try.results80, go_sem, r10, r11, r12]; try rfl) rfl ?_
        unfold RetV
        rw [HV.out, HC.out]
        exact ⟨rfl, (by repeat (first | exact Ext.refl _ | assumption | refine Ext.alloc ?_ _ | refine Ext.drewN ?_ _ | refine Ext.drew ?_ | refine Ext.set ?_ (by dsimp only; omega) _ | refine Ext.trans ?_ (by assumption)))⟩
      · have ga2 : (n != 0) = false := by unfold bne; rw [ga]; rfl
        have HV := Lib.hid (show binV 13 (numV n) nulV = nulV from by show (if (!(n == 0) || false) = true then numV 1 else nulV) = _; rw [ga]; rfl)
        have HC := Lib.hid (show binC 13 (numV n) nulV = 0 from rfl)
        go_enter Try.func80, Try.ntmps80
        go_wp2_with fail
        refine bodyPost_ret (v := .tuple #[.agg #[.int .i64 0, .int .i64 0, .string ByteArray.empty], .int .i64 0]) (by simp [results, Try.results80, go_sem]; try rfl) rfl ?_
        unfold RetV
        rw [HV.out, HC.out]
        exact ⟨rfl, (by repeat (first | exact Ext.refl _ | assumption | refine Ext.alloc ?_ _ | refine Ext.drewN ?_ _ | refine Ext.drew ?_ | refine Ext.set ?_ (by dsimp only; omega) _ | refine Ext.trans ?_ (by assumption)))⟩
    · have hX := Blk.new ((w.alloc (.cells #[.int .i64 1, .int .i64 n, .string ByteArray.empty] 30)).alloc (.cells #[.int .i64 1, .int .i64 m, .string ByteArray.empty] 30)) 30 [.int .i64 0, .int .i64 0, .string ⟨#[]⟩]
      rw [World.size_alloc, World.size_alloc] at hX
      have HX := Lib.hid hX
      clear hX
      show Calls Try.prog 80 #[.int .i64 13, .agg #[.int .i64 1, .int .i64 n, .string ByteArray.empty], .agg #[.int .i64 1, .int .i64 m, .string ByteArray.empty]] w _
      rcases ga : (n == 0) with _ | _
      · rcases gb : (m == 0) with _ | _
        · have HI := Lib.hid (fun z W => spec_l10Int z W)
          have HB := Lib.hid (fun q W => spec_l01Bit q W)
          have HBtrue := Lib.hid (fun W => show Calls Try.prog 122 #[.bool true] W fun e w' => e = .returned (.int .i64 1) ∧ W = w' from spec_l01Bit true W)
          have HBfalse := Lib.hid (fun W => show Calls Try.prog 122 #[.bool false] W fun e w' => e = .returned (.int .i64 0) ∧ W = w' from spec_l01Bit false W)
          have ga2 : (n != 0) = true := by unfold bne; rw [ga]; rfl
          have gb2 : (m != 0) = true := by unfold bne; rw [gb]; rfl
          have HV := Lib.hid (show binV 13 (numV n) (numV m) = numV 1 from by show (if (!(n == 0) || !(m == 0)) = true then numV 1 else numV 0) = _; rw [ga, gb]; rfl)
          have HC := Lib.hid (show binC 13 (numV n) (numV m) = 0 from rfl)
          go_enter Try.func80, Try.ntmps80
          go_wp2_with fail
          refine (HI.out 1 _).mono ?_
          rintro e w1 ⟨rfl, E1⟩
          obtain ⟨r10, r11, r12⟩ := (HX.out.ext E1).cells3
          have f10 := (HX.out.ext E1).frozen 0
          have f11 := (HX.out.ext E1).frozen 1
          have f12 := (HX.out.ext E1).frozen 2
          go_wp2_with fail
          refine bodyPost_ret (v := .tuple #[.agg #[.int .i64 1, .int .i64 1, .string ByteArray.empty], .int .i64 0]) (by simp [results, Try.results80, go_sem, r10, r11, r12]; try rfl) rfl ?_
          unfold RetV
          rw [HV.out, HC.out]
          exact ⟨rfl, (by repeat (first | exact Ext.refl _ | assumption | refine Ext.alloc ?_ _ | refine Ext.drewN ?_ _ | refine Ext.drew ?_ | refine Ext.set ?_ (by dsimp only; omega) _ | refine Ext.trans ?_ (by assumption)))⟩
        · have HI := Lib.hid (fun z W => spec_l10Int z W)
          have HB := Lib.hid (fun q W => spec_l01Bit q W)
          have HBtrue := Lib.hid (fun W => show Calls Try.prog 122 #[.bool true] W fun e w' => e = .returned (.int .i64 1) ∧ W = w' from spec_l01Bit true W)
          have HBfalse := Lib.hid (fun W => show Calls Try.prog 122 #[.bool false] W fun e w' => e = .returned (.int .i64 0) ∧ W = w' from spec_l01Bit false W)
          have ga2 : (n != 0) = true := by unfold bne; rw [ga]; rfl
          have gb2 : (m != 0) = false := by unfold bne; rw [gb]; rfl
          have HV := Lib.hid (show binV 13 (numV n) (numV m) = numV 1 from by show (if (!(n == 0) || !(m == 0)) = true then numV 1 else numV 0) = _; rw [ga, gb]; rfl)
          have HC := Lib.hid (show binC 13 (numV n) (numV m) = 0 from rfl)
          go_enter Try.func80, Try.ntmps80
          go_wp2_with fail
          refine (HI.out 1 _).mono ?_
          rintro e w1 ⟨rfl, E1⟩
          obtain ⟨r10, r11, r12⟩ := (HX.out.ext E1).cells3
          have f10 := (HX.out.ext E1).frozen 0
          have f11 := (HX.out.ext E1).frozen 1
          have f12 := (HX.out.ext E1).frozen 2
          go_wp2_with fail
          refine bodyPost_ret (v := .tuple #[.agg #[.int .i64 1, .int .i64 1, .string ByteArray.empty], .int .i64 0]) (by simp [results, Try.results80, go_sem, r10, r11, r12]; try rfl) rfl ?_
          unfold RetV
          rw [HV.out, HC.out]
          exact ⟨rfl, (by repeat (first | exact Ext.refl _ | assumption | refine Ext.alloc ?_ _ | refine Ext.drewN ?_ _ | refine Ext.drew ?_ | refine Ext.set ?_ (by dsimp only; omega) _ | refine Ext.trans ?_ (by assumption)))⟩
      · rcases gb : (m == 0) with _ | _
        · have HI := Lib.hid (fun z W => spec_l10Int z W)
          have HB := Lib.hid (fun q W => spec_l01Bit q W)
          have HBtrue := Lib.hid (fun W => show Calls Try.prog 122 #[.bool true] W fun e w' => e = .returned (.int .i64 1) ∧ W = w' from spec_l01Bit true W)
          have HBfalse := Lib.hid (fun W => show Calls Try.prog 122 #[.bool false] W fun e w' => e = .returned (.int .i64 0) ∧ W = w' from spec_l01Bit false W)
          have ga2 : (n != 0) = false := by unfold bne; rw [ga]; rfl
          have gb2 : (m != 0) = true := by unfold bne; rw [gb]; rfl
          have HV := Lib.hid (show binV 13 (numV n) (numV m) = numV 1 from by show (if (!(n == 0) || !(m == 0)) = true then numV 1 else numV 0) = _; rw [ga, gb]; rfl)
          have HC := Lib.hid (show binC 13 (numV n) (numV m) = 0 from rfl)
          go_enter Try.func80, Try.ntmps80
          go_wp2_with fail
          refine (HI.out 1 _).mono ?_
          rintro e w1 ⟨rfl, E1⟩
          obtain ⟨r10, r11, r12⟩ := (HX.out.ext E1).cells3
          have f10 := (HX.out.ext E1).frozen 0
          have f11 := (HX.out.ext E1).frozen 1
          have f12 := (HX.out.ext E1).frozen 2
          go_wp2_with fail
          refine bodyPost_ret (v := .tuple #[.agg #[.int .i64 1, .int .i64 1, .string ByteArray.empty], .int .i64 0]) (by simp [results, Try.results80, go_sem, r10, r11, r12]; try rfl) rfl ?_
          unfold RetV
          rw [HV.out, HC.out]
          exact ⟨rfl, (by repeat (first | exact Ext.refl _ | assumption | refine Ext.alloc ?_ _ | refine Ext.drewN ?_ _ | refine Ext.drew ?_ | refine Ext.set ?_ (by dsimp only; omega) _ | refine Ext.trans ?_ (by assumption)))⟩
        · have HI := Lib.hid (fun z W => spec_l10Int z W)
          have HB := Lib.hid (fun q W => spec_l01Bit q W)
          have HBtrue := Lib.hid (fun W => show Calls Try.prog 122 #[.bool true] W fun e w' => e = .returned (.int .i64 1) ∧ W = w' from spec_l01Bit true W)
          have HBfalse := Lib.hid (fun W => show Calls Try.prog 122 #[.bool false] W fun e w' => e = .returned (.int .i64 0) ∧ W = w' from spec_l01Bit false W)
          have ga2 : (n != 0) = false := by unfold bne; rw [ga]; rfl
          have gb2 : (m != 0) = false := by unfold bne; rw [gb]; rfl
          have HV := Lib.hid (show binV 13 (numV n) (numV m) = numV 0 from by show (if (!(n == 0) || !(m == 0)) = true then numV 1 else numV 0) = _; rw [ga, gb]; rfl)
          have HC := Lib.hid (show binC 13 (numV n) (numV m) = 0 from rfl)
          go_enter Try.func80, Try.ntmps80
          go_wp2_with fail
          refine (HBfalse.out _).mono ?_
          rintro e w1 ⟨rfl, rfl⟩
          go_wp2_with fail
          refine (HI.out 0 _).mono ?_
          rintro e w1 ⟨rfl, E1⟩
          obtain ⟨r10, r11, r12⟩ := (HX.out.ext E1).cells3
          have f10 := (HX.out.ext E1).frozen 0
          have f11 := (HX.out.ext E1).frozen 1
          have f12 := (HX.out.ext E1).frozen 2
          go_wp2_with fail
          refine bodyPost_ret (v := .tuple #[.agg #[.int .i64 1, .int .i64 0, .string ByteArray.empty], .int .i64 0]) (by simp [results, Try.results80, go_sem, r10, r11, r12]; try rfl) rfl ?_
          unfold RetV
          rw [HV.out, HC.out]
          exact ⟨rfl, (by repeat (first | exact Ext.refl _ | assumption | refine Ext.alloc ?_ _ | refine Ext.drewN ?_ _ | refine Ext.drew ?_ | refine Ext.set ?_ (by dsimp only; omega) _ | refine Ext.trans ?_ (by assumption)))⟩
    · show Calls Try.prog 80 #[.int .i64 13, .agg #[.int .i64 1, .int .i64 n, .string ByteArray.empty], .agg #[.int .i64 2, .int .i64 0, .string t]] w _
      have HV := Lib.hid (show binV 13 (numV n) ⟨2, 0, t⟩ = nulV from rfl)
      have HC := Lib.hid (show binC 13 (numV n) ⟨2, 0, t⟩ = 10 from rfl)
      go_enter Try.func80, Try.ntmps80
      go_wp2_with fail
      refine bodyPost_ret (v := .tuple #[.agg #[.int .i64 0, .int .i64 0, .string ByteArray.empty], .int .i64 10]) (by simp [results, Try.results80, go_sem]; try rfl) rfl ?_
      unfold RetV
      rw [HV.out, HC.out]
      exact ⟨rfl, (by repeat (first | exact Ext.refl _ | assumption | refine Ext.alloc ?_ _ | refine Ext.drewN ?_ _ | refine Ext.drew ?_ | refine Ext.set ?_ (by dsimp only; omega) _ | refine Ext.trans ?_ (by assumption)))⟩
  · rcases sb with rfl | ⟨m, rfl, -, -⟩ | ⟨t, rfl, -⟩
    · show Calls Try.prog 80 #[.int .i64 13, .agg #[.int .i64 2, .int .i64 0, .string s], .agg #[.int .i64 0, .int .i64 0, .string ByteArray.empty]] w _
      have HV := Lib.hid (show binV 13 ⟨2, 0, s⟩ nulV = nulV from rfl)
      have HC := Lib.hid (show binC 13 ⟨2, 0, s⟩ nulV = 10 from rfl)
      go_enter Try.func80, Try.ntmps80
      go_wp2_with fail
      refine bodyPost_ret (v := .tuple #[.agg #[.int .i64 0, .int .i64 0, .string ByteArray.empty], .int .i64 10]) (by simp [results, Try.results80, go_sem]; try rfl) rfl ?_
      unfold RetV
      rw [HV.out, HC.out]
      exact ⟨rfl, (by repeat (first | exact Ext.refl _ | assumption | refine Ext.alloc ?_ _ | refine Ext.drewN ?_ _ | refine Ext.drew ?_ | refine Ext.set ?_ (by dsimp only; omega) _ | refine Ext.trans ?_ (by assumption)))⟩
    · show Calls Try.prog 80 #[.int .i64 13, .agg #[.int .i64 2, .int .i64 0, .string s], .agg #[.int .i64 1, .int .i64 m, .string ByteArray.empty]] w _
      have HV := Lib.hid (show binV 13 ⟨2, 0, s⟩ (numV m) = nulV from rfl)
      have HC := Lib.hid (show binC 13 ⟨2, 0, s⟩ (numV m) = 10 from rfl)
      go_enter Try.func80, Try.ntmps80
      go_wp2_with fail
      refine bodyPost_ret (v := .tuple #[.agg #[.int .i64 0, .int .i64 0, .string ByteArray.empty], .int .i64 10]) (by simp [results, Try.results80, go_sem]; try rfl) rfl ?_
      unfold RetV
      rw [HV.out, HC.out]
      exact ⟨rfl, (by repeat (first | exact Ext.refl _ | assumption | refine Ext.alloc ?_ _ | refine Ext.drewN ?_ _ | refine Ext.drew ?_ | refine Ext.set ?_ (by dsimp only; omega) _ | refine Ext.trans ?_ (by assumption)))⟩
    · show Calls Try.prog 80 #[.int .i64 13, .agg #[.int .i64 2, .int .i64 0, .string s], .agg #[.int .i64 2, .int .i64 0, .string t]] w _
      have HV := Lib.hid (show binV 13 ⟨2, 0, s⟩ ⟨2, 0, t⟩ = nulV from rfl)
      have HC := Lib.hid (show binC 13 ⟨2, 0, s⟩ ⟨2, 0, t⟩ = 10 from rfl)
      go_enter Try.func80, Try.ntmps80
      go_wp2_with fail
      refine bodyPost_ret (v := .tuple #[.agg #[.int .i64 0, .int .i64 0, .string ByteArray.empty], .int .i64 10]) (by simp [results, Try.results80, go_sem]; try rfl) rfl ?_
      unfold RetV
      rw [HV.out, HC.out]
      exact ⟨rfl, (by repeat (first | exact Ext.refl _ | assumption | refine Ext.alloc ?_ _ | refine Ext.drewN ?_ _ | refine Ext.drew ?_ | refine Ext.set ?_ (by dsimp only; omega) _ | refine Ext.trans ?_ (by assumption)))⟩
end Go.Proofs.Ythfkfdfcgldbeaa
