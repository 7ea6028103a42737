/- The walks of what two numbers join, and of what two values join (printed by gen_bin2.py). -/
import Derived.Test.YthfkfdfcgldbeaaBin
namespace Go.Proofs.Ythfkfdfcgldbeaa
open Go.RowKit Go.Deep
set_option linter.unusedVariables false
set_option maxRecDepth 100000
theorem mul_bound {n m : Int} (hn1 : -1000000000 ≤ n) (hn2 : n ≤ 1000000000) (hm1 : -1000000000 ≤ m) (hm2 : m ≤ 1000000000) : -1000000000000000000 ≤ n * m ∧ n * m ≤ 1000000000000000000 := by
  have h1 : n.natAbs * m.natAbs ≤ 1000000000 * 1000000000 := Nat.mul_le_mul (by omega) (by omega)
  rw [← Int.natAbs_mul] at h1
  omega
theorem tdiv_bound {n m : Int} (hn1 : -1000000000 ≤ n) (hn2 : n ≤ 1000000000) : -1000000000 ≤ n.tdiv m ∧ n.tdiv m ≤ 1000000000 := by
  have h1 : (n.tdiv m).natAbs ≤ n.natAbs := by rw [Int.natAbs_tdiv]; exact Nat.div_le_self _ _
  omega
theorem impl_isNumber (n : Int) (w : World) : Calls Try.prog 85 #[.int .i64 n] w fun e w' => e = .returned (.bool (inB n (-1000000000) 1000000000)) ∧ w = w' := by
  have HI := Lib.hid (fun W => impl_inRange n (-1000000000) 1000000000 W)
  go_enter Try.func85, Try.ntmps85
  go_wp2_with fail
  refine (HI.out _).mono ?_
  rintro e w' ⟨rfl, rfl⟩
  go_wp2_with fail
  go_ret
  exact ⟨rfl, rfl⟩
set_option maxHeartbeats 4000000 in
theorem impl_arith (op n m : Int) (w : World) (hop : 6 ≤ op ∧ op ≤ 9) (hn1 : -1000000000 ≤ n) (hn2 : n ≤ 1000000000) (hm1 : -1000000000 ≤ m) (hm2 : m ≤ 1000000000) :
    Calls Try.prog 128 #[.int .i64 op, .int .i64 n, .int .i64 m] w (RetV w (ariV op n m) (ariC op n m)) := by
  have HX := Lib.hid (Blk.new w 30 [.int .i64 0, .int .i64 0, .string ⟨#[]⟩])
  obtain ⟨hp1, hp2⟩ := mul_bound hn1 hn2 hm1 hm2
  obtain ⟨hd1, hd2⟩ := tdiv_bound (m := m) hn1 hn2
  have hw : IntKind.i64.wrap (n * m) = n * m := IntWalk.i64_in _ (by omega)
  have hw2 : IntKind.i64.wrap (n.tdiv m) = n.tdiv m := IntWalk.i64_in _ (by omega)
  obtain rfl | rfl | rfl | rfl : op = 6 ∨ op = 7 ∨ op = 8 ∨ op = 9 := by omega
  · clear hop hw hw2 hp1 hp2 hd1 hd2
    have HI := Lib.hid (fun W => impl_isNumber (n + m) W)
    have HN := Lib.hid (fun W => impl_numberValue (n + m) W)
    have hV : ariV 6 n m = bndV (n + m) := rfl
    have hC : ariC 6 n m = bndC (n + m) := rfl
    have hbV : bndV (n + m) = if inB (n + m) (-1000000000) 1000000000 then numV (n + m) else nulV := rfl
    have hbC : bndC (n + m) = if inB (n + m) (-1000000000) 1000000000 then 0 else 12 := rfl
    generalize inB (n + m) (-1000000000) 1000000000 = q at HI hbV hbC
    rcases q with _ | _
    · have HV := Lib.hid (show ariV 6 n m = nulV by rw [hV, hbV]; rfl)
      have HC := Lib.hid (show ariC 6 n m = 12 by rw [hC, hbC]; rfl)
      clear hV hC hbV hbC
      go_enter Try.func128, Try.ntmps128
      go_wp2_with fail
      refine (HI.out _).mono ?_
      rintro e w1 ⟨rfl, rfl⟩
      go_wp2_with fail
      refine bodyPost_ret (v := .tuple #[.agg #[.int .i64 0, .int .i64 0, .string ByteArray.empty], .int .i64 12]) (by simp [results, Try.results128, go_sem]; try rfl) rfl ?_
      unfold RetV
      rw [HV.out, HC.out]
      exact ⟨rfl, (by repeat (first | exact Ext.refl _ | assumption | refine Ext.alloc ?_ _ | refine Ext.drewN ?_ _ | refine Ext.drew ?_ | refine Ext.set ?_ (by dsimp only; omega) _ | refine Ext.trans ?_ (by assumption)))⟩
    · have HV := Lib.hid (show ariV 6 n m = numV (n + m) by rw [hV, hbV]; rfl)
      have HC := Lib.hid (show ariC 6 n m = 0 by rw [hC, hbC]; rfl)
      clear hV hC hbV hbC
      go_enter Try.func128, Try.ntmps128
      go_wp2_with fail
      refine (HI.out _).mono ?_
      rintro e w1 ⟨rfl, rfl⟩
      go_wp2_with fail
      refine (HN.out _).mono ?_
      rintro e w1 ⟨rfl, E1⟩
      obtain ⟨r0, r1, r2⟩ := (HX.out.ext E1).cells3
      have f0 := (HX.out.ext E1).frozen 0
      have f1 := (HX.out.ext E1).frozen 1
      have f2 := (HX.out.ext E1).frozen 2
      go_wp2_with fail
      refine bodyPost_ret (v := .tuple #[.agg #[.int .i64 1, .int .i64 (n + m), .string ByteArray.empty], .int .i64 0]) (by simp [results, Try.results128, go_sem, r0, r1, r2]; try rfl) rfl ?_
      unfold RetV
      rw [HV.out, HC.out]
      exact ⟨rfl, (by repeat (first | exact Ext.refl _ | assumption | refine Ext.alloc ?_ _ | refine Ext.drewN ?_ _ | refine Ext.drew ?_ | refine Ext.set ?_ (by dsimp only; omega) _ | refine Ext.trans ?_ (by assumption)))⟩
  · clear hop hw hw2 hp1 hp2 hd1 hd2
    have HI := Lib.hid (fun W => impl_isNumber (n - m) W)
    have HN := Lib.hid (fun W => impl_numberValue (n - m) W)
    have hV : ariV 7 n m = bndV (n - m) := rfl
    have hC : ariC 7 n m = bndC (n - m) := rfl
    have hbV : bndV (n - m) = if inB (n - m) (-1000000000) 1000000000 then numV (n - m) else nulV := rfl
    have hbC : bndC (n - m) = if inB (n - m) (-1000000000) 1000000000 then 0 else 12 := rfl
    generalize inB (n - m) (-1000000000) 1000000000 = q at HI hbV hbC
    rcases q with _ | _
    · have HV := Lib.hid (show ariV 7 n m = nulV by rw [hV, hbV]; rfl)
      have HC := Lib.hid (show ariC 7 n m = 12 by rw [hC, hbC]; rfl)
      clear hV hC hbV hbC
      go_enter Try.func128, Try.ntmps128
      go_wp2_with fail
      refine (HI.out _).mono ?_
      rintro e w1 ⟨rfl, rfl⟩
      go_wp2_with fail
      refine bodyPost_ret (v := .tuple #[.agg #[.int .i64 0, .int .i64 0, .string ByteArray.empty], .int .i64 12]) (by simp [results, Try.results128, go_sem]; try rfl) rfl ?_
      unfold RetV
      rw [HV.out, HC.out]
      exact ⟨rfl, (by repeat (first | exact Ext.refl _ | assumption | refine Ext.alloc ?_ _ | refine Ext.drewN ?_ _ | refine Ext.drew ?_ | refine Ext.set ?_ (by dsimp only; omega) _ | refine Ext.trans ?_ (by assumption)))⟩
    · have HV := Lib.hid (show ariV 7 n m = numV (n - m) by rw [hV, hbV]; rfl)
      have HC := Lib.hid (show ariC 7 n m = 0 by rw [hC, hbC]; rfl)
      clear hV hC hbV hbC
      go_enter Try.func128, Try.ntmps128
      go_wp2_with fail
      refine (HI.out _).mono ?_
      rintro e w1 ⟨rfl, rfl⟩
      go_wp2_with fail
      refine (HN.out _).mono ?_
      rintro e w1 ⟨rfl, E1⟩
      obtain ⟨r0, r1, r2⟩ := (HX.out.ext E1).cells3
      have f0 := (HX.out.ext E1).frozen 0
      have f1 := (HX.out.ext E1).frozen 1
      have f2 := (HX.out.ext E1).frozen 2
      go_wp2_with fail
      refine bodyPost_ret (v := .tuple #[.agg #[.int .i64 1, .int .i64 (n - m), .string ByteArray.empty], .int .i64 0]) (by simp [results, Try.results128, go_sem, r0, r1, r2]; try rfl) rfl ?_
      unfold RetV
      rw [HV.out, HC.out]
      exact ⟨rfl, (by repeat (first | exact Ext.refl _ | assumption | refine Ext.alloc ?_ _ | refine Ext.drewN ?_ _ | refine Ext.drew ?_ | refine Ext.set ?_ (by dsimp only; omega) _ | refine Ext.trans ?_ (by assumption)))⟩
  · clear hop hw2 hd1 hd2
    have HI := Lib.hid (fun W => impl_isNumber (n * m) W)
    have HN := Lib.hid (fun W => impl_numberValue (n * m) W)
    have hV : ariV 8 n m = bndV (n * m) := rfl
    have hC : ariC 8 n m = bndC (n * m) := rfl
    have hbV : bndV (n * m) = if inB (n * m) (-1000000000) 1000000000 then numV (n * m) else nulV := rfl
    have hbC : bndC (n * m) = if inB (n * m) (-1000000000) 1000000000 then 0 else 12 := rfl
    generalize inB (n * m) (-1000000000) 1000000000 = q at HI hbV hbC
    rcases q with _ | _
    · have HV := Lib.hid (show ariV 8 n m = nulV by rw [hV, hbV]; rfl)
      have HC := Lib.hid (show ariC 8 n m = 12 by rw [hC, hbC]; rfl)
      clear hV hC hbV hbC
      go_enter Try.func128, Try.ntmps128
      go_wp2_with fail
      refine (HI.out _).mono ?_
      rintro e w1 ⟨rfl, rfl⟩
      go_wp2_with fail
      refine bodyPost_ret (v := .tuple #[.agg #[.int .i64 0, .int .i64 0, .string ByteArray.empty], .int .i64 12]) (by simp [results, Try.results128, go_sem]; try rfl) rfl ?_
      unfold RetV
      rw [HV.out, HC.out]
      exact ⟨rfl, (by repeat (first | exact Ext.refl _ | assumption | refine Ext.alloc ?_ _ | refine Ext.drewN ?_ _ | refine Ext.drew ?_ | refine Ext.set ?_ (by dsimp only; omega) _ | refine Ext.trans ?_ (by assumption)))⟩
    · have HV := Lib.hid (show ariV 8 n m = numV (n * m) by rw [hV, hbV]; rfl)
      have HC := Lib.hid (show ariC 8 n m = 0 by rw [hC, hbC]; rfl)
      clear hV hC hbV hbC
      go_enter Try.func128, Try.ntmps128
      go_wp2_with fail
      refine (HI.out _).mono ?_
      rintro e w1 ⟨rfl, rfl⟩
      go_wp2_with fail
      refine (HN.out _).mono ?_
      rintro e w1 ⟨rfl, E1⟩
      obtain ⟨r0, r1, r2⟩ := (HX.out.ext E1).cells3
      have f0 := (HX.out.ext E1).frozen 0
      have f1 := (HX.out.ext E1).frozen 1
      have f2 := (HX.out.ext E1).frozen 2
      go_wp2_with fail
      refine bodyPost_ret (v := .tuple #[.agg #[.int .i64 1, .int .i64 (n * m), .string ByteArray.empty], .int .i64 0]) (by simp [results, Try.results128, go_sem, r0, r1, r2]; try rfl) rfl ?_
      unfold RetV
      rw [HV.out, HC.out]
      exact ⟨rfl, (by repeat (first | exact Ext.refl _ | assumption | refine Ext.alloc ?_ _ | refine Ext.drewN ?_ _ | refine Ext.drew ?_ | refine Ext.set ?_ (by dsimp only; omega) _ | refine Ext.trans ?_ (by assumption)))⟩
  · clear hop hw hp1 hp2
    by_cases h0 : m = 0
    · subst h0
      have HV := Lib.hid (show ariV 9 n 0 = nulV from rfl)
      have HC := Lib.hid (show ariC 9 n 0 = 11 from rfl)
      clear hw2 hd1 hd2
      go_enter Try.func128, Try.ntmps128
      go_wp2_with fail
      refine bodyPost_ret (v := .tuple #[.agg #[.int .i64 0, .int .i64 0, .string ByteArray.empty], .int .i64 11]) (by simp [results, Try.results128, go_sem]; try rfl) rfl ?_
      unfold RetV
      rw [HV.out, HC.out]
      exact ⟨rfl, (by repeat (first | exact Ext.refl _ | assumption | refine Ext.alloc ?_ _ | refine Ext.drewN ?_ _ | refine Ext.drew ?_ | refine Ext.set ?_ (by dsimp only; omega) _ | refine Ext.trans ?_ (by assumption)))⟩
    have HI := Lib.hid (fun W => impl_isNumber (n.tdiv m) W)
    have HN := Lib.hid (fun W => impl_numberValue (n.tdiv m) W)
    have hV : ariV 9 n m = bndV (n.tdiv m) := by unfold ariV; rw [if_neg (by decide), if_neg (by decide), if_neg (by decide), if_neg h0]
    have hC : ariC 9 n m = bndC (n.tdiv m) := by unfold ariC; rw [if_neg (by decide), if_neg (by decide), if_neg (by decide), if_neg h0]
    have hbV : bndV (n.tdiv m) = if inB (n.tdiv m) (-1000000000) 1000000000 then numV (n.tdiv m) else nulV := rfl
    have hbC : bndC (n.tdiv m) = if inB (n.tdiv m) (-1000000000) 1000000000 then 0 else 12 := rfl
    generalize inB (n.tdiv m) (-1000000000) 1000000000 = q at HI hbV hbC
    rcases q with _ | _
    · have HV := Lib.hid (show ariV 9 n m = nulV by rw [hV, hbV]; rfl)
      have HC := Lib.hid (show ariC 9 n m = 12 by rw [hC, hbC]; rfl)
      clear hV hC hbV hbC
      go_enter Try.func128, Try.ntmps128
      go_wp2_with fail
      refine (HI.out _).mono ?_
      rintro e w1 ⟨rfl, rfl⟩
      go_wp2_with fail
      refine bodyPost_ret (v := .tuple #[.agg #[.int .i64 0, .int .i64 0, .string ByteArray.empty], .int .i64 12]) (by simp [results, Try.results128, go_sem]; try rfl) rfl ?_
      unfold RetV
      rw [HV.out, HC.out]
      exact ⟨rfl, (by repeat (first | exact Ext.refl _ | assumption | refine Ext.alloc ?_ _ | refine Ext.drewN ?_ _ | refine Ext.drew ?_ | refine Ext.set ?_ (by dsimp only; omega) _ | refine Ext.trans ?_ (by assumption)))⟩
    · have HV := Lib.hid (show ariV 9 n m = numV (n.tdiv m) by rw [hV, hbV]; rfl)
      have HC := Lib.hid (show ariC 9 n m = 0 by rw [hC, hbC]; rfl)
      clear hV hC hbV hbC
      go_enter Try.func128, Try.ntmps128
      go_wp2_with fail
      refine (HI.out _).mono ?_
      rintro e w1 ⟨rfl, rfl⟩
      go_wp2_with fail
      refine (HN.out _).mono ?_
      rintro e w1 ⟨rfl, E1⟩
      obtain ⟨r0, r1, r2⟩ := (HX.out.ext E1).cells3
      have f0 := (HX.out.ext E1).frozen 0
      have f1 := (HX.out.ext E1).frozen 1
      have f2 := (HX.out.ext E1).frozen 2
      go_wp2_with fail
      refine bodyPost_ret (v := .tuple #[.agg #[.int .i64 1, .int .i64 (n.tdiv m), .string ByteArray.empty], .int .i64 0]) (by simp [results, Try.results128, go_sem, r0, r1, r2]; try rfl) rfl ?_
      unfold RetV
      rw [HV.out, HC.out]
      exact ⟨rfl, (by repeat (first | exact Ext.refl _ | assumption | refine Ext.alloc ?_ _ | refine Ext.drewN ?_ _ | refine Ext.drew ?_ | refine Ext.set ?_ (by dsimp only; omega) _ | refine Ext.trans ?_ (by assumption)))⟩
end Go.Proofs.Ythfkfdfcgldbeaa
