/- The walks of BinaryValue (printed by gen_bin6.py). -/
import Derived.Test.YthfkfdfcgldbeaaBin5
namespace Go.Proofs.Ythfkfdfcgldbeaa
open Go.RowKit Go.Deep
set_option linter.unusedVariables false
set_option maxRecDepth 100000
def bvV (op : Int) (a b : CValue) : CValue := if okV a = false then nulV else if okV b = false then nulV else if inB op 6 13 = false then nulV else binV op a b
def bvC (op : Int) (a b : CValue) : Int := if okV a = false then 1 else if okV b = false then 1 else if inB op 6 13 = false then 4 else binC op a b
theorem impl_binary_any (op : Int) (a b : CValue) (w : World) (hop : inB op 6 13 = true) (ha : okV a = true) (hb : okV b = true) : Calls Try.prog 82 #[.int .i64 op, .agg #[.int .i64 a.a, .int .i64 a.b, .string a.c], .agg #[.int .i64 b.a, .int .i64 b.b, .string b.c]] w (RetV w (binV op a b) (binC op a b)) := by
  have h := inB_true hop
  obtain h1 | rfl | rfl | rfl | rfl : (6 ≤ op ∧ op ≤ 9) ∨ op = 10 ∨ op = 11 ∨ op = 12 ∨ op = 13 := by omega
  · exact impl_binaryO op a b w h1 ha hb
  · exact impl_binary10 a b w ha hb
  · exact impl_binary11 a b w ha hb
  · exact impl_binary12 a b w ha hb
  · exact impl_binary13 a b w ha hb
theorem spec_binary_any (op : Int) (a b : CValue) (w : World) (hop : inB op 6 13 = true) (ha : okV a = true) (hb : okV b = true) : Calls Try.prog 80 #[.int .i64 op, .agg #[.int .i64 a.a, .int .i64 a.b, .string a.c], .agg #[.int .i64 b.a, .int .i64 b.b, .string b.c]] w (RetV w (binV op a b) (binC op a b)) := by
  have h := inB_true hop
  obtain h1 | rfl | rfl | rfl | rfl : (6 ≤ op ∧ op ≤ 9) ∨ op = 10 ∨ op = 11 ∨ op = 12 ∨ op = 13 := by omega
  · exact spec_binaryO op a b w h1 ha hb
  · exact spec_binary10 a b w ha hb
  · exact spec_binary11 a b w ha hb
  · exact spec_binary12 a b w ha hb
  · exact spec_binary13 a b w ha hb
theorem impl_isBinary (n : Int) (w : World) : Calls Try.prog 81 #[.int .i64 n] w fun e w' => e = .returned (.bool (inB n 6 13)) ∧ w = w' := by
  have HI := Lib.hid (fun W => impl_inRange n 6 13 W)
  go_enter Try.func81, Try.ntmps81
  go_wp2_with fail
  refine (HI.out _).mono ?_
  rintro e w' ⟨rfl, rfl⟩
  go_wp2_with fail
  go_ret
  exact ⟨rfl, rfl⟩
set_option maxHeartbeats 4000000 in
theorem impl_BinaryValue (op : Int) (a b : CValue) (w : World) (ha : a.c.size ≤ maxLen) (hb : b.c.size ≤ maxLen) : Calls Try.prog 38 #[.int .i64 op, .agg #[.int .i64 a.a, .int .i64 a.b, .string a.c], .agg #[.int .i64 b.a, .int .i64 b.b, .string b.c]] w (RetV w (bvV op a b) (bvC op a b)) := by
  have hV : bvV op a b = if okV a = false then nulV else if okV b = false then nulV else if inB op 6 13 = false then nulV else binV op a b := rfl
  have hC : bvC op a b = if okV a = false then 1 else if okV b = false then 1 else if inB op 6 13 = false then 4 else binC op a b := rfl
  have HA := Lib.hid (show ∀ W, Calls Try.prog 41 #[.agg #[.int .i64 a.a, .int .i64 a.b, .string a.c]] W fun e w' => e = .returned (.bool (okV a)) ∧ Ext W w' from fun W => impl_ValueOK a.a a.b a.c W ha)
  have HB := Lib.hid (show ∀ W, Calls Try.prog 41 #[.agg #[.int .i64 b.a, .int .i64 b.b, .string b.c]] W fun e w' => e = .returned (.bool (okV b)) ∧ Ext W w' from fun W => impl_ValueOK b.a b.b b.c W hb)
  have HR := Lib.hid (fun W => impl_isBinary op W)
  have hK := fun W h1 h2 h3 => impl_binary_any op a b W h1 h2 h3
  have HXa := Lib.hid (((Blk.new w 30 [.int .i64 a.a, .int .i64 a.b, .string a.c]).alloc (.cells #[.int .i64 b.a, .int .i64 b.b, .string b.c] 30)).alloc (.cells #[.int .i64 0, .int .i64 0, .string ⟨#[]⟩] 30))
  have hXb := (Blk.new (w.alloc (.cells #[.int .i64 a.a, .int .i64 a.b, .string a.c] 30)) 30 [.int .i64 b.a, .int .i64 b.b, .string b.c]).alloc (.cells #[.int .i64 0, .int .i64 0, .string ⟨#[]⟩] 30)
  rw [World.size_alloc] at hXb
  have HXb := Lib.hid hXb
  have hXr := Blk.new ((w.alloc (.cells #[.int .i64 a.a, .int .i64 a.b, .string a.c] 30)).alloc (.cells #[.int .i64 b.a, .int .i64 b.b, .string b.c] 30)) 30 [.int .i64 0, .int .i64 0, .string ⟨#[]⟩]
  rw [World.size_alloc, World.size_alloc] at hXr
  have HXr := Lib.hid hXr
  have HE0 := Lib.hid (show Ext w (((w.alloc (.cells #[.int .i64 a.a, .int .i64 a.b, .string a.c] 30)).alloc (.cells #[.int .i64 b.a, .int .i64 b.b, .string b.c] 30)).alloc (.cells #[.int .i64 0, .int .i64 0, .string ⟨#[]⟩] 30)) from (by repeat (first | exact Ext.refl _ | assumption | refine Ext.alloc ?_ _ | refine Ext.drewN ?_ _ | refine Ext.drew ?_ | refine Ext.set ?_ (by dsimp only; omega) _ | refine Ext.trans ?_ (by assumption))))
  clear hXb hXr
  generalize bvV op a b = x at hV ⊢
  generalize bvC op a b = c at hC ⊢
  generalize okV a = b1 at hV hC HA hK
  generalize okV b = b2 at hV hC HB hK
  generalize inB op 6 13 = b3 at hV hC HR hK
  rcases b1 with _ | _
  · have HV := Lib.hid (show x = nulV by rw [hV]; rfl)
    have HC := Lib.hid (show c = 1 by rw [hC]; rfl)
    clear hV hC hK
    go_enter Try.func38, Try.ntmps38
    go_wp2_with fail
    refine (HA.out _).mono ?_
    rintro e w1 ⟨rfl, E1⟩
    have HE1 := Lib.hid E1
    clear E1
    obtain ⟨p0, p1, p2⟩ := (HXb.out.ext HE1.out).cells3
    obtain ⟨r0, r1, r2⟩ := (HXr.out.ext HE1.out).cells3
    have rf0 := (HXr.out.ext HE1.out).frozen 0
    have rf1 := (HXr.out.ext HE1.out).frozen 1
    have rf2 := (HXr.out.ext HE1.out).frozen 2
    go_wp2_with fail
    refine bodyPost_ret (v := .tuple #[.agg #[.int .i64 0, .int .i64 0, .string ByteArray.empty], .int .i64 1]) (by simp [results, Try.results38, go_sem, r0, r1, r2]; try rfl) rfl ?_
    unfold RetV
    rw [HV.out, HC.out]
    exact ⟨rfl, (((HE0.out.trans HE1.out).set (by dsimp only; omega) _).set (by dsimp only; omega) _).set (by dsimp only; omega) _⟩
  rcases b2 with _ | _
  · have HV := Lib.hid (show x = nulV by rw [hV]; rfl)
    have HC := Lib.hid (show c = 1 by rw [hC]; rfl)
    clear hV hC hK
    go_enter Try.func38, Try.ntmps38
    go_wp2_with fail
    refine (HA.out _).mono ?_
    rintro e w1 ⟨rfl, E1⟩
    have HE1 := Lib.hid E1
    clear E1
    obtain ⟨p0, p1, p2⟩ := (HXb.out.ext HE1.out).cells3
    obtain ⟨r0, r1, r2⟩ := (HXr.out.ext HE1.out).cells3
    have rf0 := (HXr.out.ext HE1.out).frozen 0
    have rf1 := (HXr.out.ext HE1.out).frozen 1
    have rf2 := (HXr.out.ext HE1.out).frozen 2
    go_wp2_with fail
    refine (HB.out _).mono ?_
    rintro e w2 ⟨rfl, E2⟩
    have HE2 := Lib.hid (HE1.out.trans E2)
    clear E2 p0 p1 p2 r0 r1 r2 rf0 rf1 rf2
    obtain ⟨q0, q1, q2⟩ := (HXa.out.ext HE2.out).cells3
    obtain ⟨p0, p1, p2⟩ := (HXb.out.ext HE2.out).cells3
    obtain ⟨r0, r1, r2⟩ := (HXr.out.ext HE2.out).cells3
    have rf0 := (HXr.out.ext HE2.out).frozen 0
    have rf1 := (HXr.out.ext HE2.out).frozen 1
    have rf2 := (HXr.out.ext HE2.out).frozen 2
    go_wp2_with fail
    refine bodyPost_ret (v := .tuple #[.agg #[.int .i64 0, .int .i64 0, .string ByteArray.empty], .int .i64 1]) (by simp [results, Try.results38, go_sem, r0, r1, r2]; try rfl) rfl ?_
    unfold RetV
    rw [HV.out, HC.out]
    exact ⟨rfl, (((HE0.out.trans HE2.out).set (by dsimp only; omega) _).set (by dsimp only; omega) _).set (by dsimp only; omega) _⟩
  rcases b3 with _ | _
  · have HV := Lib.hid (show x = nulV by rw [hV]; rfl)
    have HC := Lib.hid (show c = 4 by rw [hC]; rfl)
    clear hV hC hK
    go_enter Try.func38, Try.ntmps38
    go_wp2_with fail
    refine (HA.out _).mono ?_
    rintro e w1 ⟨rfl, E1⟩
    have HE1 := Lib.hid E1
    clear E1
    obtain ⟨p0, p1, p2⟩ := (HXb.out.ext HE1.out).cells3
    obtain ⟨r0, r1, r2⟩ := (HXr.out.ext HE1.out).cells3
    have rf0 := (HXr.out.ext HE1.out).frozen 0
    have rf1 := (HXr.out.ext HE1.out).frozen 1
    have rf2 := (HXr.out.ext HE1.out).frozen 2
    go_wp2_with fail
    refine (HB.out _).mono ?_
    rintro e w2 ⟨rfl, E2⟩
    have HE2 := Lib.hid (HE1.out.trans E2)
    clear E2 p0 p1 p2 r0 r1 r2 rf0 rf1 rf2
    obtain ⟨q0, q1, q2⟩ := (HXa.out.ext HE2.out).cells3
    obtain ⟨p0, p1, p2⟩ := (HXb.out.ext HE2.out).cells3
    obtain ⟨r0, r1, r2⟩ := (HXr.out.ext HE2.out).cells3
    have rf0 := (HXr.out.ext HE2.out).frozen 0
    have rf1 := (HXr.out.ext HE2.out).frozen 1
    have rf2 := (HXr.out.ext HE2.out).frozen 2
    go_wp2_with fail
    refine (HR.out _).mono ?_
    rintro e w3 ⟨rfl, rfl⟩
    go_wp2_with fail
    refine bodyPost_ret (v := .tuple #[.agg #[.int .i64 0, .int .i64 0, .string ByteArray.empty], .int .i64 4]) (by simp [results, Try.results38, go_sem, r0, r1, r2]; try rfl) rfl ?_
    unfold RetV
    rw [HV.out, HC.out]
    exact ⟨rfl, (((HE0.out.trans HE2.out).set (by dsimp only; omega) _).set (by dsimp only; omega) _).set (by dsimp only; omega) _⟩
  · have HV := Lib.hid (show x = binV op a b by rw [hV]; rfl)
    have HC := Lib.hid (show c = binC op a b by rw [hC]; rfl)
    have HK := Lib.hid (fun W => hK W rfl rfl rfl)
    clear hV hC hK
    generalize binV op a b = y at HV HK
    generalize binC op a b = d at HC HK
    go_enter Try.func38, Try.ntmps38
    go_wp2_with fail
    refine (HA.out _).mono ?_
    rintro e w1 ⟨rfl, E1⟩
    have HE1 := Lib.hid E1
    clear E1
    obtain ⟨p0, p1, p2⟩ := (HXb.out.ext HE1.out).cells3
    obtain ⟨r0, r1, r2⟩ := (HXr.out.ext HE1.out).cells3
    have rf0 := (HXr.out.ext HE1.out).frozen 0
    have rf1 := (HXr.out.ext HE1.out).frozen 1
    have rf2 := (HXr.out.ext HE1.out).frozen 2
    go_wp2_with fail
    refine (HB.out _).mono ?_
    rintro e w2 ⟨rfl, E2⟩
    have HE2 := Lib.hid (HE1.out.trans E2)
    clear E2 p0 p1 p2 r0 r1 r2 rf0 rf1 rf2
    obtain ⟨q0, q1, q2⟩ := (HXa.out.ext HE2.out).cells3
    obtain ⟨p0, p1, p2⟩ := (HXb.out.ext HE2.out).cells3
    obtain ⟨r0, r1, r2⟩ := (HXr.out.ext HE2.out).cells3
    have rf0 := (HXr.out.ext HE2.out).frozen 0
    have rf1 := (HXr.out.ext HE2.out).frozen 1
    have rf2 := (HXr.out.ext HE2.out).frozen 2
    go_wp2_with fail
    refine (HR.out _).mono ?_
    rintro e w3 ⟨rfl, rfl⟩
    go_wp2_with fail
    refine (HK.out _).mono ?_
    rintro e w4 ⟨rfl, E4⟩
    have HE4 := Lib.hid (HE2.out.trans E4)
    clear E4 p0 p1 p2 q0 q1 q2 r0 r1 r2 rf0 rf1 rf2
    obtain ⟨r0, r1, r2⟩ := (HXr.out.ext HE4.out).cells3
    have rf0 := (HXr.out.ext HE4.out).frozen 0
    have rf1 := (HXr.out.ext HE4.out).frozen 1
    have rf2 := (HXr.out.ext HE4.out).frozen 2
    go_wp2_with fail
    refine bodyPost_ret (v := .tuple #[.agg #[.int .i64 y.a, .int .i64 y.b, .string y.c], .int .i64 d]) (by simp [results, Try.results38, go_sem, r0, r1, r2]; try rfl) rfl ?_
    unfold RetV
    rw [HV.out, HC.out]
    exact ⟨rfl, (((HE0.out.trans HE4.out).set (by dsimp only; omega) _).set (by dsimp only; omega) _).set (by dsimp only; omega) _⟩
set_option maxHeartbeats 4000000 in
theorem spec_BinaryValue (op : Int) (a b : CValue) (w : World) (ha : a.c.size ≤ maxLen) (hb : b.c.size ≤ maxLen) : Calls Try.prog 36 #[.int .i64 op, .agg #[.int .i64 a.a, .int .i64 a.b, .string a.c], .agg #[.int .i64 b.a, .int .i64 b.b, .string b.c]] w (RetV w (bvV op a b) (bvC op a b)) := by
  have hV : bvV op a b = if okV a = false then nulV else if okV b = false then nulV else if inB op 6 13 = false then nulV else binV op a b := rfl
  have hC : bvC op a b = if okV a = false then 1 else if okV b = false then 1 else if inB op 6 13 = false then 4 else binC op a b := rfl
  have HA := Lib.hid (show ∀ W, Calls Try.prog 79 #[.agg #[.int .i64 a.a, .int .i64 a.b, .string a.c]] W fun e w' => e = .returned (.bool (okV a)) ∧ Ext W w' from fun W => spec_ValueOK a.a a.b a.c W ha)
  have HB := Lib.hid (show ∀ W, Calls Try.prog 79 #[.agg #[.int .i64 b.a, .int .i64 b.b, .string b.c]] W fun e w' => e = .returned (.bool (okV b)) ∧ Ext W w' from fun W => spec_ValueOK b.a b.b b.c W hb)
  have HR := Lib.hid (fun W => spec_l01In op 6 13 W)
  have hK := fun W h1 h2 h3 => spec_binary_any op a b W h1 h2 h3
  have HXa := Lib.hid (((Blk.new w 30 [.int .i64 a.a, .int .i64 a.b, .string a.c]).alloc (.cells #[.int .i64 b.a, .int .i64 b.b, .string b.c] 30)).alloc (.cells #[.int .i64 0, .int .i64 0, .string ⟨#[]⟩] 30))
  have hXb := (Blk.new (w.alloc (.cells #[.int .i64 a.a, .int .i64 a.b, .string a.c] 30)) 30 [.int .i64 b.a, .int .i64 b.b, .string b.c]).alloc (.cells #[.int .i64 0, .int .i64 0, .string ⟨#[]⟩] 30)
  rw [World.size_alloc] at hXb
  have HXb := Lib.hid hXb
  have hXr := Blk.new ((w.alloc (.cells #[.int .i64 a.a, .int .i64 a.b, .string a.c] 30)).alloc (.cells #[.int .i64 b.a, .int .i64 b.b, .string b.c] 30)) 30 [.int .i64 0, .int .i64 0, .string ⟨#[]⟩]
  rw [World.size_alloc, World.size_alloc] at hXr
  have HXr := Lib.hid hXr
  have HE0 := Lib.hid (show Ext w (((w.alloc (.cells #[.int .i64 a.a, .int .i64 a.b, .string a.c] 30)).alloc (.cells #[.int .i64 b.a, .int .i64 b.b, .string b.c] 30)).alloc (.cells #[.int .i64 0, .int .i64 0, .string ⟨#[]⟩] 30)) from (by repeat (first | exact Ext.refl _ | assumption | refine Ext.alloc ?_ _ | refine Ext.drewN ?_ _ | refine Ext.drew ?_ | refine Ext.set ?_ (by dsimp only; omega) _ | refine Ext.trans ?_ (by assumption))))
  clear hXb hXr
  generalize bvV op a b = x at hV ⊢
  generalize bvC op a b = c at hC ⊢
  generalize okV a = b1 at hV hC HA hK
  generalize okV b = b2 at hV hC HB hK
  generalize inB op 6 13 = b3 at hV hC HR hK
  rcases b1 with _ | _
  · have HV := Lib.hid (show x = nulV by rw [hV]; rfl)
    have HC := Lib.hid (show c = 1 by rw [hC]; rfl)
    clear hV hC hK
    go_enter Try.func36, Try.ntmps36
    go_wp2_with fail
    refine (HA.out _).mono ?_
    rintro e w1 ⟨rfl, E1⟩
    have HE1 := Lib.hid E1
    clear E1
    obtain ⟨p0, p1, p2⟩ := (HXb.out.ext HE1.out).cells3
    obtain ⟨r0, r1, r2⟩ := (HXr.out.ext HE1.out).cells3
    have rf0 := (HXr.out.ext HE1.out).frozen 0
    have rf1 := (HXr.out.ext HE1.out).frozen 1
    have rf2 := (HXr.out.ext HE1.out).frozen 2
    go_wp2_with fail
    refine bodyPost_ret (v := .tuple #[.agg #[.int .i64 0, .int .i64 0, .string ByteArray.empty], .int .i64 1]) (by simp [results, Try.results36, go_sem, r0, r1, r2]; try rfl) rfl ?_
    unfold RetV
    rw [HV.out, HC.out]
    exact ⟨rfl, (((HE0.out.trans HE1.out).set (by dsimp only; omega) _).set (by dsimp only; omega) _).set (by dsimp only; omega) _⟩
  rcases b2 with _ | _
  · have HV := Lib.hid (show x = nulV by rw [hV]; rfl)
    have HC := Lib.hid (show c = 1 by rw [hC]; rfl)
    clear hV hC hK
    go_enter Try.func36, Try.ntmps36
    go_wp2_with fail
    refine (HA.out _).mono ?_
    rintro e w1 ⟨rfl, E1⟩
    have HE1 := Lib.hid E1
    clear E1
    obtain ⟨p0, p1, p2⟩ := (HXb.out.ext HE1.out).cells3
    obtain ⟨r0, r1, r2⟩ := (HXr.out.ext HE1.out).cells3
    have rf0 := (HXr.out.ext HE1.out).frozen 0
    have rf1 := (HXr.out.ext HE1.out).frozen 1
    have rf2 := (HXr.out.ext HE1.out).frozen 2
    go_wp2_with fail
    refine (HB.out _).mono ?_
    rintro e w2 ⟨rfl, E2⟩
    have HE2 := Lib.hid (HE1.out.trans E2)
    clear E2 p0 p1 p2 r0 r1 r2 rf0 rf1 rf2
    obtain ⟨q0, q1, q2⟩ := (HXa.out.ext HE2.out).cells3
    obtain ⟨p0, p1, p2⟩ := (HXb.out.ext HE2.out).cells3
    obtain ⟨r0, r1, r2⟩ := (HXr.out.ext HE2.out).cells3
    have rf0 := (HXr.out.ext HE2.out).frozen 0
    have rf1 := (HXr.out.ext HE2.out).frozen 1
    have rf2 := (HXr.out.ext HE2.out).frozen 2
    go_wp2_with fail
    refine bodyPost_ret (v := .tuple #[.agg #[.int .i64 0, .int .i64 0, .string ByteArray.empty], .int .i64 1]) (by simp [results, Try.results36, go_sem, r0, r1, r2]; try rfl) rfl ?_
    unfold RetV
    rw [HV.out, HC.out]
    exact ⟨rfl, (((HE0.out.trans HE2.out).set (by dsimp only; omega) _).set (by dsimp only; omega) _).set (by dsimp only; omega) _⟩
  rcases b3 with _ | _
  · have HV := Lib.hid (show x = nulV by rw [hV]; rfl)
    have HC := Lib.hid (show c = 4 by rw [hC]; rfl)
    clear hV hC hK
    go_enter Try.func36, Try.ntmps36
    go_wp2_with fail
    refine (HA.out _).mono ?_
    rintro e w1 ⟨rfl, E1⟩
    have HE1 := Lib.hid E1
    clear E1
    obtain ⟨p0, p1, p2⟩ := (HXb.out.ext HE1.out).cells3
    obtain ⟨r0, r1, r2⟩ := (HXr.out.ext HE1.out).cells3
    have rf0 := (HXr.out.ext HE1.out).frozen 0
    have rf1 := (HXr.out.ext HE1.out).frozen 1
    have rf2 := (HXr.out.ext HE1.out).frozen 2
    go_wp2_with fail
    refine (HB.out _).mono ?_
    rintro e w2 ⟨rfl, E2⟩
    have HE2 := Lib.hid (HE1.out.trans E2)
    clear E2 p0 p1 p2 r0 r1 r2 rf0 rf1 rf2
    obtain ⟨q0, q1, q2⟩ := (HXa.out.ext HE2.out).cells3
    obtain ⟨p0, p1, p2⟩ := (HXb.out.ext HE2.out).cells3
    obtain ⟨r0, r1, r2⟩ := (HXr.out.ext HE2.out).cells3
    have rf0 := (HXr.out.ext HE2.out).frozen 0
    have rf1 := (HXr.out.ext HE2.out).frozen 1
    have rf2 := (HXr.out.ext HE2.out).frozen 2
    go_wp2_with fail
    refine (HR.out _).mono ?_
    rintro e w3 ⟨rfl, rfl⟩
    go_wp2_with fail
    refine bodyPost_ret (v := .tuple #[.agg #[.int .i64 0, .int .i64 0, .string ByteArray.empty], .int .i64 4]) (by simp [results, Try.results36, go_sem, r0, r1, r2]; try rfl) rfl ?_
    unfold RetV
    rw [HV.out, HC.out]
    exact ⟨rfl, (((HE0.out.trans HE2.out).set (by dsimp only; omega) _).set (by dsimp only; omega) _).set (by dsimp only; omega) _⟩
  · have HV := Lib.hid (show x = binV op a b by rw [hV]; rfl)
    have HC := Lib.hid (show c = binC op a b by rw [hC]; rfl)
    have HK := Lib.hid (fun W => hK W rfl rfl rfl)
    clear hV hC hK
    generalize binV op a b = y at HV HK
    generalize binC op a b = d at HC HK
    go_enter Try.func36, Try.ntmps36
    go_wp2_with fail
    refine (HA.out _).mono ?_
    rintro e w1 ⟨rfl, E1⟩
    have HE1 := Lib.hid E1
    clear E1
    obtain ⟨p0, p1, p2⟩ := (HXb.out.ext HE1.out).cells3
    obtain ⟨r0, r1, r2⟩ := (HXr.out.ext HE1.out).cells3
    have rf0 := (HXr.out.ext HE1.out).frozen 0
    have rf1 := (HXr.out.ext HE1.out).frozen 1
    have rf2 := (HXr.out.ext HE1.out).frozen 2
    go_wp2_with fail
    refine (HB.out _).mono ?_
    rintro e w2 ⟨rfl, E2⟩
    have HE2 := Lib.hid (HE1.out.trans E2)
    clear E2 p0 p1 p2 r0 r1 r2 rf0 rf1 rf2
    obtain ⟨q0, q1, q2⟩ := (HXa.out.ext HE2.out).cells3
    obtain ⟨p0, p1, p2⟩ := (HXb.out.ext HE2.out).cells3
    obtain ⟨r0, r1, r2⟩ := (HXr.out.ext HE2.out).cells3
    have rf0 := (HXr.out.ext HE2.out).frozen 0
    have rf1 := (HXr.out.ext HE2.out).frozen 1
    have rf2 := (HXr.out.ext HE2.out).frozen 2
    go_wp2_with fail
    refine (HR.out _).mono ?_
    rintro e w3 ⟨rfl, rfl⟩
    go_wp2_with fail
    refine (HK.out _).mono ?_
    rintro e w4 ⟨rfl, E4⟩
    have HE4 := Lib.hid (HE2.out.trans E4)
    clear E4 p0 p1 p2 q0 q1 q2 r0 r1 r2 rf0 rf1 rf2
    obtain ⟨r0, r1, r2⟩ := (HXr.out.ext HE4.out).cells3
    have rf0 := (HXr.out.ext HE4.out).frozen 0
    have rf1 := (HXr.out.ext HE4.out).frozen 1
    have rf2 := (HXr.out.ext HE4.out).frozen 2
    go_wp2_with fail
    refine bodyPost_ret (v := .tuple #[.agg #[.int .i64 y.a, .int .i64 y.b, .string y.c], .int .i64 d]) (by simp [results, Try.results36, go_sem, r0, r1, r2]; try rfl) rfl ?_
    unfold RetV
    rw [HV.out, HC.out]
    exact ⟨rfl, (((HE0.out.trans HE4.out).set (by dsimp only; omega) _).set (by dsimp only; omega) _).set (by dsimp only; omega) _⟩
end Go.Proofs.Ythfkfdfcgldbeaa
