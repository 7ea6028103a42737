/- The walk of FnValues. -/
import Derived.Test.YthfkfdfcgldbeaaSrcV
import Derived.Test.YthfkfdfcgldbeaaRg
namespace Go.Proofs.Ythfkfdfcgldbeaa
open Go.RowKit Go.Deep
set_option linter.unusedVariables false
set_option maxRecDepth 100000
theorem run_neq_Value (x : CValue) (W : World) : (binOp .neq 30 (.agg #[.int .i64 x.a, .int .i64 x.b, .string x.c]) (.agg #[.int .i64 x.a, .int .i64 x.b, .string x.c])).run Try.prog W = .ok (.bool false) W := by
  obtain ⟨a, b, c⟩ := x
  go_simp
theorem spec_l00Source (A : Option Addr) (n cp : Nat) (l : List UInt8) (w0 w : World) (hE : Ext w0 w) (hl : l.length = n) (hn : n ≤ 1048576) (hr : Rd w0 A (l.map fun c => Value.int .u8 (c.toNat : Int))) :
    Calls Try.prog 83 #[.slice A n cp] w fun e w' => e = .returned (.pointer (some ⟨w.heap.size, 0, none⟩)) ∧ Src w0 w' w.heap.size 169 0 ∧ Ext w w' := by
  have e1 : (n : Int).tmod 1000 = ((n % 1000 : Nat) : Int) := by rw [Int.tmod_eq_emod_of_nonneg (by omega)]; omega
  have e2 : (n : Int) % 1000 = ((n % 1000 : Nat) : Int) := by omega
  have hm : n % 1000 < 2147483648 := by omega
  have HP := Lib.hid (show ∀ W', W' = w.alloc (.cells #[.slice A n cp, .int .i64 0, .int .i64 ((n % 1000 : Nat) : Int)] 169) → Src w0 W' w.heap.size 169 0 ∧ Ext w W' from by
    rintro W' rfl
    exact ⟨⟨hE.le, hE.alloc _, A, n, cp, l, 0, n % 1000, Blk.new w _ [.slice A n cp, .int .i64 ((0 : Nat) : Int), .int .i64 ((n % 1000 : Nat) : Int)], hl, hn, hr, Nat.le_refl _, hm⟩, (Ext.refl w).alloc _⟩)
  generalize n % 1000 = q at e1 e2 HP
  clear hl hr hE
  go_enter Try.func83, Try.ntmps83
  go_wp2_with fail
  go_ret
  exact ⟨rfl, HP.out _ rfl⟩
set_option maxHeartbeats 1000000 in
theorem spec_ValueOf (A : Option Addr) (n cp : Nat) (l : List UInt8) (w : World) (hl : l.length = n) (hn : n ≤ 1048576) (hr : Rd w A (l.map fun c => Value.int .u8 (c.toNat : Int))) :
    Calls Try.prog 40 #[.slice A n cp] w (VaPost w) := by
  have HR := Lib.hid (Blk.new w 30 [.int .i64 0, .int .i64 0, .string ⟨#[]⟩])
  have HE := Lib.hid (show Ext w (w.alloc (.cells #[.int .i64 0, .int .i64 0, .string ⟨#[]⟩] 30)) from (by repeat (first | exact Ext.refl _ | assumption | refine Ext.alloc ?_ _ | refine Ext.drewN ?_ _ | refine Ext.drew ?_ | refine Ext.set ?_ (by dsimp only; omega) _ | refine Ext.trans ?_ (by assumption))))
  have HS := Lib.hid (spec_l00Source A n cp l (w.alloc (.cells #[.int .i64 0, .int .i64 0, .string ⟨#[]⟩] 30)) (w.alloc (.cells #[.int .i64 0, .int .i64 0, .string ⟨#[]⟩] 30)) (Ext.refl _) hl hn (hr.ext HE.out))
  clear hl hr
  go_enter Try.func40, Try.ntmps40
  go_wp2_with fail
  refine HS.out.mono ?_
  rintro e w1 ⟨rfl, hS1, E1⟩
  rw [World.size_alloc] at hS1
  have hV := src_value _ w1 _ 0 hS1 (by omega)
  unfold VaPost at hV
  have HV := Lib.hid hV
  clear hV hS1 HS
  go_wp2_with fail
  refine HV.out.mono ?_
  rintro e w2 ⟨x, rfl, hx, E2⟩
  have HX := Lib.hid hx
  have HR2 := Lib.hid (HR.out.ext E2)
  have HE2 := Lib.hid (HE.out.trans E2)
  clear hx E1 E2 HR HE HV
  obtain ⟨p0, p1, p2⟩ := HR2.out.cells3
  have f0 := HR2.out.frozen 0
  have f1 := HR2.out.frozen 1
  have f2 := HR2.out.frozen 2
  go_wp2_with fail
  refine bodyPost_ret (v := .agg #[.int .i64 x.a, .int .i64 x.b, .string x.c]) (by simp [results, Try.results40, go_sem, p0, p1, p2]; try rfl) rfl ?_
  exact VaPost.of x HX.out (Ext.set (Ext.set (Ext.set HE2.out (Nat.le_refl _) _) (Nat.le_refl _) _) (Nat.le_refl _) _)
set_option maxHeartbeats 8000000 in
theorem walk_FnValues (w : World) (A : Option Addr) (n cp : Nat) (l : List UInt8) (hl : l.length = n) (hc : n ≤ cp) (hm : cp ≤ maxLen) (hr : Rd w A (l.map fun c => Value.int .u8 (c.toNat : Int))) (A2 : Option Addr) (n2 cp2 : Nat) (l2 : List UInt8) (hl2 : l2.length = n2) (hc2 : n2 ≤ cp2) (hm2 : cp2 ≤ maxLen) (hr2 : Rd w A2 (l2.map fun c => Value.int .u8 (c.toNat : Int))) :
    Calls Try.prog 8 #[.slice A n cp, .slice A2 n2 cp2] w fun e w' => e = .returned (.bool true) ∧ Ext w w' := by
  unfold maxLen at hm hm2
  by_cases hbig : (1048576 : Int) < (n : Int)
  · clear hl hr hl2 hr2
    go_enter Try.func8, Try.ntmps8
    go_wp2_with fail
    go_ret
    exact ⟨rfl, Ext.refl _⟩
  by_cases hbig2 : (1048576 : Int) < (n2 : Int)
  · clear hl hr hl2 hr2
    go_enter Try.func8, Try.ntmps8
    go_wp2_with fail
    go_ret
    exact ⟨rfl, Ext.refl _⟩
  have HV1 := Lib.hid (spec_ValueOf A n cp l w hl (by omega) hr)
  have HL2 := Lib.hid hl2
  have HR2 := Lib.hid hr2
  have hn2 : n2 ≤ 1048576 := by omega
  clear hl hr hl2 hr2
  unfold VaPost at HV1
  go_enter Try.func8, Try.ntmps8
  go_wp2_with fail
  refine HV1.out.mono ?_
  rintro e w1 ⟨a, rfl, hax, E1⟩
  have ha := Lib.hid hax
  have HA1 := Lib.hid (Blk.new w1 30 [.int .i64 a.a, .int .i64 a.b, .string a.c])
  have HE1 := Lib.hid (E1.alloc (.cells #[.int .i64 a.a, .int .i64 a.b, .string a.c] 30))
  clear hax E1 HV1
  go_wp2_with fail
  generalize w1.alloc (.cells #[.int .i64 a.a, .int .i64 a.b, .string a.c] 30) = wa at HA1 HE1 ⊢
  generalize w1.heap.size = ya at HA1 ⊢
  have HV2 := Lib.hid (spec_ValueOf A2 n2 cp2 l2 wa HL2.out hn2 (HR2.out.ext HE1.out))
  unfold VaPost at HV2
  refine HV2.out.mono ?_
  rintro e w2 ⟨b, rfl, hbx, E2⟩
  have hb := Lib.hid hbx
  have HA2 := Lib.hid (((HA1.out.ext E2).alloc (.cells #[.int .i64 b.a, .int .i64 b.b, .string b.c] 30)).alloc (.cells #[.int .i64 0, .int .i64 0, .string ⟨#[]⟩] 30))
  have HB2 := Lib.hid ((Blk.new w2 30 [.int .i64 b.a, .int .i64 b.b, .string b.c]).alloc (.cells #[.int .i64 0, .int .i64 0, .string ⟨#[]⟩] 30))
  have hN2 := Blk.new (w2.alloc (.cells #[.int .i64 b.a, .int .i64 b.b, .string b.c] 30)) 30 [.int .i64 0, .int .i64 0, .string ⟨#[]⟩]
  rw [World.size_alloc] at hN2
  have HN2 := Lib.hid hN2
  have HE2 := Lib.hid (((HE1.out.trans E2).alloc (.cells #[.int .i64 b.a, .int .i64 b.b, .string b.c] 30)).alloc (.cells #[.int .i64 0, .int .i64 0, .string ⟨#[]⟩] 30))
  clear hbx E2 HV2 hN2 HA1 HE1
  go_wp2_with fail
  generalize (w2.alloc (.cells #[.int .i64 b.a, .int .i64 b.b, .string b.c] 30)).alloc (.cells #[.int .i64 0, .int .i64 0, .string ⟨#[]⟩] 30) = w3 at HA2 HB2 HN2 HE2 ⊢
  generalize w2.heap.size = yb at HB2 HN2 ⊢
  go_loopw [8] (fun i wr => ∃ k : Nat, 6 ≤ k ∧ k ≤ 14 ∧ i = .int .i64 (k : Int) ∧ Blk wr ya 30 [.int .i64 a.a, .int .i64 a.b, .string a.c] ∧ Blk wr yb 30 [.int .i64 b.a, .int .i64 b.b, .string b.c] ∧ Blk wr (yb + 1) 30 [.int .i64 0, .int .i64 0, .string ⟨#[]⟩] ∧ Ext w wr) (fun i _ => 14 - (intOf i).toNat)
  case atStart => exact ⟨6, by omega, by omega, rfl, HA2.out, HB2.out, HN2.out, HE2.out⟩
  case round =>
    obtain ⟨k, hk1, hk2, rfl, hA, hB, hN, hE⟩ := hrel
    have HA := Lib.hid hA
    have HBb := Lib.hid hB
    have HN := Lib.hid hN
    have HE := Lib.hid hE
    clear hA hB hN hE HA2 HB2 HN2 HE2
    obtain rfl | rfl | rfl | rfl | rfl | rfl | rfl | rfl | rfl : k = 6 ∨ k = 7 ∨ k = 8 ∨ k = 9 ∨ k = 10 ∨ k = 11 ∨ k = 12 ∨ k = 13 ∨ k = 14 := by omega
    · have hi1 := fun W => impl_BinaryValue 6 a b W (okV_small ha.out) (okV_small hb.out)
      have hs1 := fun W => spec_BinaryValue 6 a b W (okV_small ha.out) (okV_small hb.out)
      have hok := okV_bvV 6 a b
      have hi2 : ∀ W, Calls Try.prog 38 #[.int .i64 6, .agg #[.int .i64 0, .int .i64 0, .string ⟨#[]⟩], .agg #[.int .i64 b.a, .int .i64 b.b, .string b.c]] W (RetV W ⟨0, 0, ⟨#[]⟩⟩ (bvC 6 nulV b)) := fun W => by
        have h := impl_BinaryValue 6 nulV b W (okV_small okV_nulV) (okV_small hb.out)
        rw [bvV_none (by omega) b] at h
        exact h
      generalize bvC 6 nulV b = c2 at hi2
      have hcm := bv_comm (op := 6) (by omega) ha.out hb.out
      have hi3 := fun W => impl_BinaryValue 6 b a W (okV_small hb.out) (okV_small ha.out)
      rw [← hcm.1, ← hcm.2] at hi3
      clear hcm
      generalize bvV 6 a b = x at hi1 hs1 hok hi3
      generalize bvC 6 a b = c at hi1 hs1 hi3
      have HI1 := Lib.hid hi1
      have HS1 := Lib.hid hs1
      have HI2 := Lib.hid hi2
      have HI3 := Lib.hid hi3
      have HOK := Lib.hid hok
      have HVO := Lib.hid (fun W => impl_ValueOK x.a x.b x.c W (okV_small hok))
      have hcc : (c != c) = false := by simp
      have hnx := run_neq_Value x
      clear hi1 hs1 hi2 hi3 hok
      obtain ⟨a0, a1, a2⟩ := HA.out.cells3
      obtain ⟨b0, b1, b2⟩ := HBb.out.cells3
      go_wp2_with fail
      refine (HI1.out _).mono ?_
      rintro e w1 ⟨rfl, E1⟩
      have HX := Lib.hid (Blk.new w1 30 [.int .i64 x.a, .int .i64 x.b, .string x.c])
      have HE1 := Lib.hid (E1.alloc (.cells #[.int .i64 x.a, .int .i64 x.b, .string x.c] 30))
      clear E1 a0 a1 a2 b0 b1 b2
      obtain ⟨a0, a1, a2⟩ := (HA.out.ext HE1.out).cells3
      obtain ⟨b0, b1, b2⟩ := (HBb.out.ext HE1.out).cells3
      go_wp2_with fail
      generalize w1.alloc (.cells #[.int .i64 x.a, .int .i64 x.b, .string x.c] 30) = w1' at HX HE1 a0 a1 a2 b0 b1 b2 ⊢
      generalize w1.heap.size = y1 at HX ⊢
      refine (HS1.out _).mono ?_
      rintro e w2 ⟨rfl, E2⟩
      have HX2 := Lib.hid ((HX.out.ext E2).alloc (.cells #[.int .i64 x.a, .int .i64 x.b, .string x.c] 30))
      have HY := Lib.hid (Blk.new w2 30 [.int .i64 x.a, .int .i64 x.b, .string x.c])
      have HE2 := Lib.hid ((HE1.out.trans E2).alloc (.cells #[.int .i64 x.a, .int .i64 x.b, .string x.c] 30))
      clear E2 a0 a1 a2 b0 b1 b2 HX HE1
      obtain ⟨p0, p1, p2⟩ := HX2.out.cells3
      obtain ⟨q0, q1, q2⟩ := HY.out.cells3
      go_wp2_with fail
      generalize w2.alloc (.cells #[.int .i64 x.a, .int .i64 x.b, .string x.c] 30) = w2' at HX2 HY HE2 p0 p1 p2 q0 q1 q2 ⊢
      refine (HVO.out _).mono ?_
      rintro e w3 ⟨rfl, E3⟩
      have hvb : valB x.a x.b x.c = true := HOK.out
      rw [hvb]
      have HX3 := Lib.hid (HX2.out.ext E3)
      have HE3 := Lib.hid (HE2.out.trans E3)
      clear E3 p0 p1 p2 q0 q1 q2 HX2 HY HE2 hvb
      obtain ⟨n0, n1, n2⟩ := (HN.out.ext HE3.out).cells3
      obtain ⟨b0, b1, b2⟩ := (HBb.out.ext HE3.out).cells3
      go_wp2_with fail
      refine (HI2.out _).mono ?_
      rintro e w4 ⟨rfl, E4⟩
      have HX4 := Lib.hid ((HX3.out.ext E4).alloc (.cells #[.int .i64 0, .int .i64 0, .string ⟨#[]⟩] 30))
      have HE4 := Lib.hid ((HE3.out.trans E4).alloc (.cells #[.int .i64 0, .int .i64 0, .string ⟨#[]⟩] 30))
      have HY := Lib.hid (Blk.new w4 30 [.int .i64 0, .int .i64 0, .string ⟨#[]⟩])
      clear E4 n0 n1 n2 b0 b1 b2 HX3 HE3
      have hnz := run_neq_Value ⟨0, 0, ⟨#[]⟩⟩
      obtain ⟨m0, m1, m2⟩ := HY.out.cells3
      obtain ⟨n0, n1, n2⟩ := (HN.out.ext HE4.out).cells3
      rcases hc0 : (c2 == 0) with _ | _
      · obtain ⟨a0, a1, a2⟩ := (HA.out.ext HE4.out).cells3
        obtain ⟨b0, b1, b2⟩ := (HBb.out.ext HE4.out).cells3
        go_wp2_with fail
        generalize w4.alloc (.cells #[.int .i64 0, .int .i64 0, .string ⟨#[]⟩] 30) = w4' at *
        refine (HI3.out _).mono ?_
        rintro e w5 ⟨rfl, E5⟩
        have HX5 := Lib.hid ((HX4.out.ext E5).alloc (.cells #[.int .i64 x.a, .int .i64 x.b, .string x.c] 30))
        have HY5 := Lib.hid (Blk.new w5 30 [.int .i64 x.a, .int .i64 x.b, .string x.c])
        have HE5 := Lib.hid ((HE4.out.trans E5).alloc (.cells #[.int .i64 x.a, .int .i64 x.b, .string x.c] 30))
        clear E5 a0 a1 a2 b0 b1 b2
        obtain ⟨p0, p1, p2⟩ := HX5.out.cells3
        obtain ⟨q0, q1, q2⟩ := HY5.out.cells3
        go_wp2_with fail
        go_roundw
        case rel => exact ⟨7, by omega, by omega, rfl, HA.out.ext HE5.out, HBb.out.ext HE5.out, HN.out.ext HE5.out, HE.out.trans HE5.out⟩
        case measure => simp [intOf]
      · obtain ⟨a0, a1, a2⟩ := (HA.out.ext HE4.out).cells3
        obtain ⟨b0, b1, b2⟩ := (HBb.out.ext HE4.out).cells3
        go_wp2_with fail
        generalize w4.alloc (.cells #[.int .i64 0, .int .i64 0, .string ⟨#[]⟩] 30) = w4' at *
        refine (HI3.out _).mono ?_
        rintro e w5 ⟨rfl, E5⟩
        have HX5 := Lib.hid ((HX4.out.ext E5).alloc (.cells #[.int .i64 x.a, .int .i64 x.b, .string x.c] 30))
        have HY5 := Lib.hid (Blk.new w5 30 [.int .i64 x.a, .int .i64 x.b, .string x.c])
        have HE5 := Lib.hid ((HE4.out.trans E5).alloc (.cells #[.int .i64 x.a, .int .i64 x.b, .string x.c] 30))
        clear E5 a0 a1 a2 b0 b1 b2
        obtain ⟨p0, p1, p2⟩ := HX5.out.cells3
        obtain ⟨q0, q1, q2⟩ := HY5.out.cells3
        go_wp2_with fail
        go_roundw
        case rel => exact ⟨7, by omega, by omega, rfl, HA.out.ext HE5.out, HBb.out.ext HE5.out, HN.out.ext HE5.out, HE.out.trans HE5.out⟩
        case measure => simp [intOf]
    · have hi1 := fun W => impl_BinaryValue 7 a b W (okV_small ha.out) (okV_small hb.out)
      have hs1 := fun W => spec_BinaryValue 7 a b W (okV_small ha.out) (okV_small hb.out)
      have hok := okV_bvV 7 a b
      have hi2 : ∀ W, Calls Try.prog 38 #[.int .i64 7, .agg #[.int .i64 0, .int .i64 0, .string ⟨#[]⟩], .agg #[.int .i64 b.a, .int .i64 b.b, .string b.c]] W (RetV W ⟨0, 0, ⟨#[]⟩⟩ (bvC 7 nulV b)) := fun W => by
        have h := impl_BinaryValue 7 nulV b W (okV_small okV_nulV) (okV_small hb.out)
        rw [bvV_none (by omega) b] at h
        exact h
      generalize bvC 7 nulV b = c2 at hi2
      generalize bvV 7 a b = x at hi1 hs1 hok
      generalize bvC 7 a b = c at hi1 hs1
      have HI1 := Lib.hid hi1
      have HS1 := Lib.hid hs1
      have HI2 := Lib.hid hi2
      have HOK := Lib.hid hok
      have HVO := Lib.hid (fun W => impl_ValueOK x.a x.b x.c W (okV_small hok))
      have hcc : (c != c) = false := by simp
      have hnx := run_neq_Value x
      clear hi1 hs1 hi2 hok
      obtain ⟨a0, a1, a2⟩ := HA.out.cells3
      obtain ⟨b0, b1, b2⟩ := HBb.out.cells3
      go_wp2_with fail
      refine (HI1.out _).mono ?_
      rintro e w1 ⟨rfl, E1⟩
      have HX := Lib.hid (Blk.new w1 30 [.int .i64 x.a, .int .i64 x.b, .string x.c])
      have HE1 := Lib.hid (E1.alloc (.cells #[.int .i64 x.a, .int .i64 x.b, .string x.c] 30))
      clear E1 a0 a1 a2 b0 b1 b2
      obtain ⟨a0, a1, a2⟩ := (HA.out.ext HE1.out).cells3
      obtain ⟨b0, b1, b2⟩ := (HBb.out.ext HE1.out).cells3
      go_wp2_with fail
      generalize w1.alloc (.cells #[.int .i64 x.a, .int .i64 x.b, .string x.c] 30) = w1' at HX HE1 a0 a1 a2 b0 b1 b2 ⊢
      generalize w1.heap.size = y1 at HX ⊢
      refine (HS1.out _).mono ?_
      rintro e w2 ⟨rfl, E2⟩
      have HX2 := Lib.hid ((HX.out.ext E2).alloc (.cells #[.int .i64 x.a, .int .i64 x.b, .string x.c] 30))
      have HY := Lib.hid (Blk.new w2 30 [.int .i64 x.a, .int .i64 x.b, .string x.c])
      have HE2 := Lib.hid ((HE1.out.trans E2).alloc (.cells #[.int .i64 x.a, .int .i64 x.b, .string x.c] 30))
      clear E2 a0 a1 a2 b0 b1 b2 HX HE1
      obtain ⟨p0, p1, p2⟩ := HX2.out.cells3
      obtain ⟨q0, q1, q2⟩ := HY.out.cells3
      go_wp2_with fail
      generalize w2.alloc (.cells #[.int .i64 x.a, .int .i64 x.b, .string x.c] 30) = w2' at HX2 HY HE2 p0 p1 p2 q0 q1 q2 ⊢
      refine (HVO.out _).mono ?_
      rintro e w3 ⟨rfl, E3⟩
      have hvb : valB x.a x.b x.c = true := HOK.out
      rw [hvb]
      have HX3 := Lib.hid (HX2.out.ext E3)
      have HE3 := Lib.hid (HE2.out.trans E3)
      clear E3 p0 p1 p2 q0 q1 q2 HX2 HY HE2 hvb
      obtain ⟨n0, n1, n2⟩ := (HN.out.ext HE3.out).cells3
      obtain ⟨b0, b1, b2⟩ := (HBb.out.ext HE3.out).cells3
      go_wp2_with fail
      refine (HI2.out _).mono ?_
      rintro e w4 ⟨rfl, E4⟩
      have HX4 := Lib.hid ((HX3.out.ext E4).alloc (.cells #[.int .i64 0, .int .i64 0, .string ⟨#[]⟩] 30))
      have HE4 := Lib.hid ((HE3.out.trans E4).alloc (.cells #[.int .i64 0, .int .i64 0, .string ⟨#[]⟩] 30))
      have HY := Lib.hid (Blk.new w4 30 [.int .i64 0, .int .i64 0, .string ⟨#[]⟩])
      clear E4 n0 n1 n2 b0 b1 b2 HX3 HE3
      have hnz := run_neq_Value ⟨0, 0, ⟨#[]⟩⟩
      obtain ⟨m0, m1, m2⟩ := HY.out.cells3
      obtain ⟨n0, n1, n2⟩ := (HN.out.ext HE4.out).cells3
      rcases hc0 : (c2 == 0) with _ | _
      · go_wp2_with fail
        go_roundw
        case rel => exact ⟨8, by omega, by omega, rfl, HA.out.ext HE4.out, HBb.out.ext HE4.out, HN.out.ext HE4.out, HE.out.trans HE4.out⟩
        case measure => simp [intOf]
      · go_wp2_with fail
        go_roundw
        case rel => exact ⟨8, by omega, by omega, rfl, HA.out.ext HE4.out, HBb.out.ext HE4.out, HN.out.ext HE4.out, HE.out.trans HE4.out⟩
        case measure => simp [intOf]
    · have hi1 := fun W => impl_BinaryValue 8 a b W (okV_small ha.out) (okV_small hb.out)
      have hs1 := fun W => spec_BinaryValue 8 a b W (okV_small ha.out) (okV_small hb.out)
      have hok := okV_bvV 8 a b
      have hi2 : ∀ W, Calls Try.prog 38 #[.int .i64 8, .agg #[.int .i64 0, .int .i64 0, .string ⟨#[]⟩], .agg #[.int .i64 b.a, .int .i64 b.b, .string b.c]] W (RetV W ⟨0, 0, ⟨#[]⟩⟩ (bvC 8 nulV b)) := fun W => by
        have h := impl_BinaryValue 8 nulV b W (okV_small okV_nulV) (okV_small hb.out)
        rw [bvV_none (by omega) b] at h
        exact h
      generalize bvC 8 nulV b = c2 at hi2
      have hcm := bv_comm (op := 8) (by omega) ha.out hb.out
      have hi3 := fun W => impl_BinaryValue 8 b a W (okV_small hb.out) (okV_small ha.out)
      rw [← hcm.1, ← hcm.2] at hi3
      clear hcm
      generalize bvV 8 a b = x at hi1 hs1 hok hi3
      generalize bvC 8 a b = c at hi1 hs1 hi3
      have HI1 := Lib.hid hi1
      have HS1 := Lib.hid hs1
      have HI2 := Lib.hid hi2
      have HI3 := Lib.hid hi3
      have HOK := Lib.hid hok
      have HVO := Lib.hid (fun W => impl_ValueOK x.a x.b x.c W (okV_small hok))
      have hcc : (c != c) = false := by simp
      have hnx := run_neq_Value x
      clear hi1 hs1 hi2 hi3 hok
      obtain ⟨a0, a1, a2⟩ := HA.out.cells3
      obtain ⟨b0, b1, b2⟩ := HBb.out.cells3
      go_wp2_with fail
      refine (HI1.out _).mono ?_
      rintro e w1 ⟨rfl, E1⟩
      have HX := Lib.hid (Blk.new w1 30 [.int .i64 x.a, .int .i64 x.b, .string x.c])
      have HE1 := Lib.hid (E1.alloc (.cells #[.int .i64 x.a, .int .i64 x.b, .string x.c] 30))
      clear E1 a0 a1 a2 b0 b1 b2
      obtain ⟨a0, a1, a2⟩ := (HA.out.ext HE1.out).cells3
      obtain ⟨b0, b1, b2⟩ := (HBb.out.ext HE1.out).cells3
      go_wp2_with fail
      generalize w1.alloc (.cells #[.int .i64 x.a, .int .i64 x.b, .string x.c] 30) = w1' at HX HE1 a0 a1 a2 b0 b1 b2 ⊢
      generalize w1.heap.size = y1 at HX ⊢
      refine (HS1.out _).mono ?_
      rintro e w2 ⟨rfl, E2⟩
      have HX2 := Lib.hid ((HX.out.ext E2).alloc (.cells #[.int .i64 x.a, .int .i64 x.b, .string x.c] 30))
      have HY := Lib.hid (Blk.new w2 30 [.int .i64 x.a, .int .i64 x.b, .string x.c])
      have HE2 := Lib.hid ((HE1.out.trans E2).alloc (.cells #[.int .i64 x.a, .int .i64 x.b, .string x.c] 30))
      clear E2 a0 a1 a2 b0 b1 b2 HX HE1
      obtain ⟨p0, p1, p2⟩ := HX2.out.cells3
      obtain ⟨q0, q1, q2⟩ := HY.out.cells3
      go_wp2_with fail
      generalize w2.alloc (.cells #[.int .i64 x.a, .int .i64 x.b, .string x.c] 30) = w2' at HX2 HY HE2 p0 p1 p2 q0 q1 q2 ⊢
      refine (HVO.out _).mono ?_
      rintro e w3 ⟨rfl, E3⟩
      have hvb : valB x.a x.b x.c = true := HOK.out
      rw [hvb]
      have HX3 := Lib.hid (HX2.out.ext E3)
      have HE3 := Lib.hid (HE2.out.trans E3)
      clear E3 p0 p1 p2 q0 q1 q2 HX2 HY HE2 hvb
      obtain ⟨n0, n1, n2⟩ := (HN.out.ext HE3.out).cells3
      obtain ⟨b0, b1, b2⟩ := (HBb.out.ext HE3.out).cells3
      go_wp2_with fail
      refine (HI2.out _).mono ?_
      rintro e w4 ⟨rfl, E4⟩
      have HX4 := Lib.hid ((HX3.out.ext E4).alloc (.cells #[.int .i64 0, .int .i64 0, .string ⟨#[]⟩] 30))
      have HE4 := Lib.hid ((HE3.out.trans E4).alloc (.cells #[.int .i64 0, .int .i64 0, .string ⟨#[]⟩] 30))
      have HY := Lib.hid (Blk.new w4 30 [.int .i64 0, .int .i64 0, .string ⟨#[]⟩])
      clear E4 n0 n1 n2 b0 b1 b2 HX3 HE3
      have hnz := run_neq_Value ⟨0, 0, ⟨#[]⟩⟩
      obtain ⟨m0, m1, m2⟩ := HY.out.cells3
      obtain ⟨n0, n1, n2⟩ := (HN.out.ext HE4.out).cells3
      rcases hc0 : (c2 == 0) with _ | _
      · obtain ⟨a0, a1, a2⟩ := (HA.out.ext HE4.out).cells3
        obtain ⟨b0, b1, b2⟩ := (HBb.out.ext HE4.out).cells3
        go_wp2_with fail
        generalize w4.alloc (.cells #[.int .i64 0, .int .i64 0, .string ⟨#[]⟩] 30) = w4' at *
        refine (HI3.out _).mono ?_
        rintro e w5 ⟨rfl, E5⟩
        have HX5 := Lib.hid ((HX4.out.ext E5).alloc (.cells #[.int .i64 x.a, .int .i64 x.b, .string x.c] 30))
        have HY5 := Lib.hid (Blk.new w5 30 [.int .i64 x.a, .int .i64 x.b, .string x.c])
        have HE5 := Lib.hid ((HE4.out.trans E5).alloc (.cells #[.int .i64 x.a, .int .i64 x.b, .string x.c] 30))
        clear E5 a0 a1 a2 b0 b1 b2
        obtain ⟨p0, p1, p2⟩ := HX5.out.cells3
        obtain ⟨q0, q1, q2⟩ := HY5.out.cells3
        go_wp2_with fail
        go_roundw
        case rel => exact ⟨9, by omega, by omega, rfl, HA.out.ext HE5.out, HBb.out.ext HE5.out, HN.out.ext HE5.out, HE.out.trans HE5.out⟩
        case measure => simp [intOf]
      · obtain ⟨a0, a1, a2⟩ := (HA.out.ext HE4.out).cells3
        obtain ⟨b0, b1, b2⟩ := (HBb.out.ext HE4.out).cells3
        go_wp2_with fail
        generalize w4.alloc (.cells #[.int .i64 0, .int .i64 0, .string ⟨#[]⟩] 30) = w4' at *
        refine (HI3.out _).mono ?_
        rintro e w5 ⟨rfl, E5⟩
        have HX5 := Lib.hid ((HX4.out.ext E5).alloc (.cells #[.int .i64 x.a, .int .i64 x.b, .string x.c] 30))
        have HY5 := Lib.hid (Blk.new w5 30 [.int .i64 x.a, .int .i64 x.b, .string x.c])
        have HE5 := Lib.hid ((HE4.out.trans E5).alloc (.cells #[.int .i64 x.a, .int .i64 x.b, .string x.c] 30))
        clear E5 a0 a1 a2 b0 b1 b2
        obtain ⟨p0, p1, p2⟩ := HX5.out.cells3
        obtain ⟨q0, q1, q2⟩ := HY5.out.cells3
        go_wp2_with fail
        go_roundw
        case rel => exact ⟨9, by omega, by omega, rfl, HA.out.ext HE5.out, HBb.out.ext HE5.out, HN.out.ext HE5.out, HE.out.trans HE5.out⟩
        case measure => simp [intOf]
    · have hi1 := fun W => impl_BinaryValue 9 a b W (okV_small ha.out) (okV_small hb.out)
      have hs1 := fun W => spec_BinaryValue 9 a b W (okV_small ha.out) (okV_small hb.out)
      have hok := okV_bvV 9 a b
      have hi2 : ∀ W, Calls Try.prog 38 #[.int .i64 9, .agg #[.int .i64 0, .int .i64 0, .string ⟨#[]⟩], .agg #[.int .i64 b.a, .int .i64 b.b, .string b.c]] W (RetV W ⟨0, 0, ⟨#[]⟩⟩ (bvC 9 nulV b)) := fun W => by
        have h := impl_BinaryValue 9 nulV b W (okV_small okV_nulV) (okV_small hb.out)
        rw [bvV_none (by omega) b] at h
        exact h
      generalize bvC 9 nulV b = c2 at hi2
      generalize bvV 9 a b = x at hi1 hs1 hok
      generalize bvC 9 a b = c at hi1 hs1
      have HI1 := Lib.hid hi1
      have HS1 := Lib.hid hs1
      have HI2 := Lib.hid hi2
      have HOK := Lib.hid hok
      have HVO := Lib.hid (fun W => impl_ValueOK x.a x.b x.c W (okV_small hok))
      have hcc : (c != c) = false := by simp
      have hnx := run_neq_Value x
      clear hi1 hs1 hi2 hok
      obtain ⟨a0, a1, a2⟩ := HA.out.cells3
      obtain ⟨b0, b1, b2⟩ := HBb.out.cells3
      go_wp2_with fail
      refine (HI1.out _).mono ?_
      rintro e w1 ⟨rfl, E1⟩
      have HX := Lib.hid (Blk.new w1 30 [.int .i64 x.a, .int .i64 x.b, .string x.c])
      have HE1 := Lib.hid (E1.alloc (.cells #[.int .i64 x.a, .int .i64 x.b, .string x.c] 30))
      clear E1 a0 a1 a2 b0 b1 b2
      obtain ⟨a0, a1, a2⟩ := (HA.out.ext HE1.out).cells3
      obtain ⟨b0, b1, b2⟩ := (HBb.out.ext HE1.out).cells3
      go_wp2_with fail
      generalize w1.alloc (.cells #[.int .i64 x.a, .int .i64 x.b, .string x.c] 30) = w1' at HX HE1 a0 a1 a2 b0 b1 b2 ⊢
      generalize w1.heap.size = y1 at HX ⊢
      refine (HS1.out _).mono ?_
      rintro e w2 ⟨rfl, E2⟩
      have HX2 := Lib.hid ((HX.out.ext E2).alloc (.cells #[.int .i64 x.a, .int .i64 x.b, .string x.c] 30))
      have HY := Lib.hid (Blk.new w2 30 [.int .i64 x.a, .int .i64 x.b, .string x.c])
      have HE2 := Lib.hid ((HE1.out.trans E2).alloc (.cells #[.int .i64 x.a, .int .i64 x.b, .string x.c] 30))
      clear E2 a0 a1 a2 b0 b1 b2 HX HE1
      obtain ⟨p0, p1, p2⟩ := HX2.out.cells3
      obtain ⟨q0, q1, q2⟩ := HY.out.cells3
      go_wp2_with fail
      generalize w2.alloc (.cells #[.int .i64 x.a, .int .i64 x.b, .string x.c] 30) = w2' at HX2 HY HE2 p0 p1 p2 q0 q1 q2 ⊢
      refine (HVO.out _).mono ?_
      rintro e w3 ⟨rfl, E3⟩
      have hvb : valB x.a x.b x.c = true := HOK.out
      rw [hvb]
      have HX3 := Lib.hid (HX2.out.ext E3)
      have HE3 := Lib.hid (HE2.out.trans E3)
      clear E3 p0 p1 p2 q0 q1 q2 HX2 HY HE2 hvb
      obtain ⟨n0, n1, n2⟩ := (HN.out.ext HE3.out).cells3
      obtain ⟨b0, b1, b2⟩ := (HBb.out.ext HE3.out).cells3
      go_wp2_with fail
      refine (HI2.out _).mono ?_
      rintro e w4 ⟨rfl, E4⟩
      have HX4 := Lib.hid ((HX3.out.ext E4).alloc (.cells #[.int .i64 0, .int .i64 0, .string ⟨#[]⟩] 30))
      have HE4 := Lib.hid ((HE3.out.trans E4).alloc (.cells #[.int .i64 0, .int .i64 0, .string ⟨#[]⟩] 30))
      have HY := Lib.hid (Blk.new w4 30 [.int .i64 0, .int .i64 0, .string ⟨#[]⟩])
      clear E4 n0 n1 n2 b0 b1 b2 HX3 HE3
      have hnz := run_neq_Value ⟨0, 0, ⟨#[]⟩⟩
      obtain ⟨m0, m1, m2⟩ := HY.out.cells3
      obtain ⟨n0, n1, n2⟩ := (HN.out.ext HE4.out).cells3
      rcases hc0 : (c2 == 0) with _ | _
      · go_wp2_with fail
        go_roundw
        case rel => exact ⟨10, by omega, by omega, rfl, HA.out.ext HE4.out, HBb.out.ext HE4.out, HN.out.ext HE4.out, HE.out.trans HE4.out⟩
        case measure => simp [intOf]
      · go_wp2_with fail
        go_roundw
        case rel => exact ⟨10, by omega, by omega, rfl, HA.out.ext HE4.out, HBb.out.ext HE4.out, HN.out.ext HE4.out, HE.out.trans HE4.out⟩
        case measure => simp [intOf]
    · have hi1 := fun W => impl_BinaryValue 10 a b W (okV_small ha.out) (okV_small hb.out)
      have hs1 := fun W => spec_BinaryValue 10 a b W (okV_small ha.out) (okV_small hb.out)
      have hok := okV_bvV 10 a b
      have hi2 : ∀ W, Calls Try.prog 38 #[.int .i64 10, .agg #[.int .i64 0, .int .i64 0, .string ⟨#[]⟩], .agg #[.int .i64 b.a, .int .i64 b.b, .string b.c]] W (RetV W ⟨0, 0, ⟨#[]⟩⟩ (bvC 10 nulV b)) := fun W => by
        have h := impl_BinaryValue 10 nulV b W (okV_small okV_nulV) (okV_small hb.out)
        rw [bvV_none (by omega) b] at h
        exact h
      generalize bvC 10 nulV b = c2 at hi2
      have hcm := bv_comm (op := 10) (by omega) ha.out hb.out
      have hi3 := fun W => impl_BinaryValue 10 b a W (okV_small hb.out) (okV_small ha.out)
      rw [← hcm.1, ← hcm.2] at hi3
      clear hcm
      generalize bvV 10 a b = x at hi1 hs1 hok hi3
      generalize bvC 10 a b = c at hi1 hs1 hi3
      have HI1 := Lib.hid hi1
      have HS1 := Lib.hid hs1
      have HI2 := Lib.hid hi2
      have HI3 := Lib.hid hi3
      have HOK := Lib.hid hok
      have HVO := Lib.hid (fun W => impl_ValueOK x.a x.b x.c W (okV_small hok))
      have hcc : (c != c) = false := by simp
      have hnx := run_neq_Value x
      clear hi1 hs1 hi2 hi3 hok
      obtain ⟨a0, a1, a2⟩ := HA.out.cells3
      obtain ⟨b0, b1, b2⟩ := HBb.out.cells3
      go_wp2_with fail
      refine (HI1.out _).mono ?_
      rintro e w1 ⟨rfl, E1⟩
      have HX := Lib.hid (Blk.new w1 30 [.int .i64 x.a, .int .i64 x.b, .string x.c])
      have HE1 := Lib.hid (E1.alloc (.cells #[.int .i64 x.a, .int .i64 x.b, .string x.c] 30))
      clear E1 a0 a1 a2 b0 b1 b2
      obtain ⟨a0, a1, a2⟩ := (HA.out.ext HE1.out).cells3
      obtain ⟨b0, b1, b2⟩ := (HBb.out.ext HE1.out).cells3
      go_wp2_with fail
      generalize w1.alloc (.cells #[.int .i64 x.a, .int .i64 x.b, .string x.c] 30) = w1' at HX HE1 a0 a1 a2 b0 b1 b2 ⊢
      generalize w1.heap.size = y1 at HX ⊢
      refine (HS1.out _).mono ?_
      rintro e w2 ⟨rfl, E2⟩
      have HX2 := Lib.hid ((HX.out.ext E2).alloc (.cells #[.int .i64 x.a, .int .i64 x.b, .string x.c] 30))
      have HY := Lib.hid (Blk.new w2 30 [.int .i64 x.a, .int .i64 x.b, .string x.c])
      have HE2 := Lib.hid ((HE1.out.trans E2).alloc (.cells #[.int .i64 x.a, .int .i64 x.b, .string x.c] 30))
      clear E2 a0 a1 a2 b0 b1 b2 HX HE1
      obtain ⟨p0, p1, p2⟩ := HX2.out.cells3
      obtain ⟨q0, q1, q2⟩ := HY.out.cells3
      go_wp2_with fail
      generalize w2.alloc (.cells #[.int .i64 x.a, .int .i64 x.b, .string x.c] 30) = w2' at HX2 HY HE2 p0 p1 p2 q0 q1 q2 ⊢
      refine (HVO.out _).mono ?_
      rintro e w3 ⟨rfl, E3⟩
      have hvb : valB x.a x.b x.c = true := HOK.out
      rw [hvb]
      have HX3 := Lib.hid (HX2.out.ext E3)
      have HE3 := Lib.hid (HE2.out.trans E3)
      clear E3 p0 p1 p2 q0 q1 q2 HX2 HY HE2 hvb
      obtain ⟨n0, n1, n2⟩ := (HN.out.ext HE3.out).cells3
      obtain ⟨b0, b1, b2⟩ := (HBb.out.ext HE3.out).cells3
      go_wp2_with fail
      refine (HI2.out _).mono ?_
      rintro e w4 ⟨rfl, E4⟩
      have HX4 := Lib.hid ((HX3.out.ext E4).alloc (.cells #[.int .i64 0, .int .i64 0, .string ⟨#[]⟩] 30))
      have HE4 := Lib.hid ((HE3.out.trans E4).alloc (.cells #[.int .i64 0, .int .i64 0, .string ⟨#[]⟩] 30))
      have HY := Lib.hid (Blk.new w4 30 [.int .i64 0, .int .i64 0, .string ⟨#[]⟩])
      clear E4 n0 n1 n2 b0 b1 b2 HX3 HE3
      have hnz := run_neq_Value ⟨0, 0, ⟨#[]⟩⟩
      obtain ⟨m0, m1, m2⟩ := HY.out.cells3
      obtain ⟨n0, n1, n2⟩ := (HN.out.ext HE4.out).cells3
      rcases hc0 : (c2 == 0) with _ | _
      · obtain ⟨a0, a1, a2⟩ := (HA.out.ext HE4.out).cells3
        obtain ⟨b0, b1, b2⟩ := (HBb.out.ext HE4.out).cells3
        go_wp2_with fail
        generalize w4.alloc (.cells #[.int .i64 0, .int .i64 0, .string ⟨#[]⟩] 30) = w4' at *
        refine (HI3.out _).mono ?_
        rintro e w5 ⟨rfl, E5⟩
        have HX5 := Lib.hid ((HX4.out.ext E5).alloc (.cells #[.int .i64 x.a, .int .i64 x.b, .string x.c] 30))
        have HY5 := Lib.hid (Blk.new w5 30 [.int .i64 x.a, .int .i64 x.b, .string x.c])
        have HE5 := Lib.hid ((HE4.out.trans E5).alloc (.cells #[.int .i64 x.a, .int .i64 x.b, .string x.c] 30))
        clear E5 a0 a1 a2 b0 b1 b2
        obtain ⟨p0, p1, p2⟩ := HX5.out.cells3
        obtain ⟨q0, q1, q2⟩ := HY5.out.cells3
        go_wp2_with fail
        go_roundw
        case rel => exact ⟨11, by omega, by omega, rfl, HA.out.ext HE5.out, HBb.out.ext HE5.out, HN.out.ext HE5.out, HE.out.trans HE5.out⟩
        case measure => simp [intOf]
      · obtain ⟨a0, a1, a2⟩ := (HA.out.ext HE4.out).cells3
        obtain ⟨b0, b1, b2⟩ := (HBb.out.ext HE4.out).cells3
        go_wp2_with fail
        generalize w4.alloc (.cells #[.int .i64 0, .int .i64 0, .string ⟨#[]⟩] 30) = w4' at *
        refine (HI3.out _).mono ?_
        rintro e w5 ⟨rfl, E5⟩
        have HX5 := Lib.hid ((HX4.out.ext E5).alloc (.cells #[.int .i64 x.a, .int .i64 x.b, .string x.c] 30))
        have HY5 := Lib.hid (Blk.new w5 30 [.int .i64 x.a, .int .i64 x.b, .string x.c])
        have HE5 := Lib.hid ((HE4.out.trans E5).alloc (.cells #[.int .i64 x.a, .int .i64 x.b, .string x.c] 30))
        clear E5 a0 a1 a2 b0 b1 b2
        obtain ⟨p0, p1, p2⟩ := HX5.out.cells3
        obtain ⟨q0, q1, q2⟩ := HY5.out.cells3
        go_wp2_with fail
        go_roundw
        case rel => exact ⟨11, by omega, by omega, rfl, HA.out.ext HE5.out, HBb.out.ext HE5.out, HN.out.ext HE5.out, HE.out.trans HE5.out⟩
        case measure => simp [intOf]
    · have hi1 := fun W => impl_BinaryValue 11 a b W (okV_small ha.out) (okV_small hb.out)
      have hs1 := fun W => spec_BinaryValue 11 a b W (okV_small ha.out) (okV_small hb.out)
      have hok := okV_bvV 11 a b
      have hi2 : ∀ W, Calls Try.prog 38 #[.int .i64 11, .agg #[.int .i64 0, .int .i64 0, .string ⟨#[]⟩], .agg #[.int .i64 b.a, .int .i64 b.b, .string b.c]] W (RetV W ⟨0, 0, ⟨#[]⟩⟩ (bvC 11 nulV b)) := fun W => by
        have h := impl_BinaryValue 11 nulV b W (okV_small okV_nulV) (okV_small hb.out)
        rw [bvV_none (by omega) b] at h
        exact h
      generalize bvC 11 nulV b = c2 at hi2
      generalize bvV 11 a b = x at hi1 hs1 hok
      generalize bvC 11 a b = c at hi1 hs1
      have HI1 := Lib.hid hi1
      have HS1 := Lib.hid hs1
      have HI2 := Lib.hid hi2
      have HOK := Lib.hid hok
      have HVO := Lib.hid (fun W => impl_ValueOK x.a x.b x.c W (okV_small hok))
      have hcc : (c != c) = false := by simp
      have hnx := run_neq_Value x
      clear hi1 hs1 hi2 hok
      obtain ⟨a0, a1, a2⟩ := HA.out.cells3
      obtain ⟨b0, b1, b2⟩ := HBb.out.cells3
      go_wp2_with fail
      refine (HI1.out _).mono ?_
      rintro e w1 ⟨rfl, E1⟩
      have HX := Lib.hid (Blk.new w1 30 [.int .i64 x.a, .int .i64 x.b, .string x.c])
      have HE1 := Lib.hid (E1.alloc (.cells #[.int .i64 x.a, .int .i64 x.b, .string x.c] 30))
      clear E1 a0 a1 a2 b0 b1 b2
      obtain ⟨a0, a1, a2⟩ := (HA.out.ext HE1.out).cells3
      obtain ⟨b0, b1, b2⟩ := (HBb.out.ext HE1.out).cells3
      go_wp2_with fail
      generalize w1.alloc (.cells #[.int .i64 x.a, .int .i64 x.b, .string x.c] 30) = w1' at HX HE1 a0 a1 a2 b0 b1 b2 ⊢
      generalize w1.heap.size = y1 at HX ⊢
      refine (HS1.out _).mono ?_
      rintro e w2 ⟨rfl, E2⟩
      have HX2 := Lib.hid ((HX.out.ext E2).alloc (.cells #[.int .i64 x.a, .int .i64 x.b, .string x.c] 30))
      have HY := Lib.hid (Blk.new w2 30 [.int .i64 x.a, .int .i64 x.b, .string x.c])
      have HE2 := Lib.hid ((HE1.out.trans E2).alloc (.cells #[.int .i64 x.a, .int .i64 x.b, .string x.c] 30))
      clear E2 a0 a1 a2 b0 b1 b2 HX HE1
      obtain ⟨p0, p1, p2⟩ := HX2.out.cells3
      obtain ⟨q0, q1, q2⟩ := HY.out.cells3
      go_wp2_with fail
      generalize w2.alloc (.cells #[.int .i64 x.a, .int .i64 x.b, .string x.c] 30) = w2' at HX2 HY HE2 p0 p1 p2 q0 q1 q2 ⊢
      refine (HVO.out _).mono ?_
      rintro e w3 ⟨rfl, E3⟩
      have hvb : valB x.a x.b x.c = true := HOK.out
      rw [hvb]
      have HX3 := Lib.hid (HX2.out.ext E3)
      have HE3 := Lib.hid (HE2.out.trans E3)
      clear E3 p0 p1 p2 q0 q1 q2 HX2 HY HE2 hvb
      obtain ⟨n0, n1, n2⟩ := (HN.out.ext HE3.out).cells3
      obtain ⟨b0, b1, b2⟩ := (HBb.out.ext HE3.out).cells3
      go_wp2_with fail
      refine (HI2.out _).mono ?_
      rintro e w4 ⟨rfl, E4⟩
      have HX4 := Lib.hid ((HX3.out.ext E4).alloc (.cells #[.int .i64 0, .int .i64 0, .string ⟨#[]⟩] 30))
      have HE4 := Lib.hid ((HE3.out.trans E4).alloc (.cells #[.int .i64 0, .int .i64 0, .string ⟨#[]⟩] 30))
      have HY := Lib.hid (Blk.new w4 30 [.int .i64 0, .int .i64 0, .string ⟨#[]⟩])
      clear E4 n0 n1 n2 b0 b1 b2 HX3 HE3
      have hnz := run_neq_Value ⟨0, 0, ⟨#[]⟩⟩
      obtain ⟨m0, m1, m2⟩ := HY.out.cells3
      obtain ⟨n0, n1, n2⟩ := (HN.out.ext HE4.out).cells3
      rcases hc0 : (c2 == 0) with _ | _
      · go_wp2_with fail
        go_roundw
        case rel => exact ⟨12, by omega, by omega, rfl, HA.out.ext HE4.out, HBb.out.ext HE4.out, HN.out.ext HE4.out, HE.out.trans HE4.out⟩
        case measure => simp [intOf]
      · go_wp2_with fail
        go_roundw
        case rel => exact ⟨12, by omega, by omega, rfl, HA.out.ext HE4.out, HBb.out.ext HE4.out, HN.out.ext HE4.out, HE.out.trans HE4.out⟩
        case measure => simp [intOf]
    · have hi1 := fun W => impl_BinaryValue 12 a b W (okV_small ha.out) (okV_small hb.out)
      have hs1 := fun W => spec_BinaryValue 12 a b W (okV_small ha.out) (okV_small hb.out)
      have hok := okV_bvV 12 a b
      have hi2 : ∀ W, Calls Try.prog 38 #[.int .i64 12, .agg #[.int .i64 0, .int .i64 0, .string ⟨#[]⟩], .agg #[.int .i64 b.a, .int .i64 b.b, .string b.c]] W (RetV W (bvV 12 nulV b) (bvC 12 nulV b)) := fun W => impl_BinaryValue 12 nulV b W (okV_small okV_nulV) (okV_small hb.out)
      generalize bvV 12 nulV b = x2 at hi2
      generalize bvC 12 nulV b = c2 at hi2
      have hcm := bv_comm (op := 12) (by omega) ha.out hb.out
      have hi3 := fun W => impl_BinaryValue 12 b a W (okV_small hb.out) (okV_small ha.out)
      rw [← hcm.1, ← hcm.2] at hi3
      clear hcm
      generalize bvV 12 a b = x at hi1 hs1 hok hi3
      generalize bvC 12 a b = c at hi1 hs1 hi3
      have HI1 := Lib.hid hi1
      have HS1 := Lib.hid hs1
      have HI2 := Lib.hid hi2
      have HI3 := Lib.hid hi3
      have HOK := Lib.hid hok
      have HVO := Lib.hid (fun W => impl_ValueOK x.a x.b x.c W (okV_small hok))
      have hcc : (c != c) = false := by simp
      have hnx := run_neq_Value x
      clear hi1 hs1 hi2 hi3 hok
      obtain ⟨a0, a1, a2⟩ := HA.out.cells3
      obtain ⟨b0, b1, b2⟩ := HBb.out.cells3
      go_wp2_with fail
      refine (HI1.out _).mono ?_
      rintro e w1 ⟨rfl, E1⟩
      have HX := Lib.hid (Blk.new w1 30 [.int .i64 x.a, .int .i64 x.b, .string x.c])
      have HE1 := Lib.hid (E1.alloc (.cells #[.int .i64 x.a, .int .i64 x.b, .string x.c] 30))
      clear E1 a0 a1 a2 b0 b1 b2
      obtain ⟨a0, a1, a2⟩ := (HA.out.ext HE1.out).cells3
      obtain ⟨b0, b1, b2⟩ := (HBb.out.ext HE1.out).cells3
      go_wp2_with fail
      generalize w1.alloc (.cells #[.int .i64 x.a, .int .i64 x.b, .string x.c] 30) = w1' at HX HE1 a0 a1 a2 b0 b1 b2 ⊢
      generalize w1.heap.size = y1 at HX ⊢
      refine (HS1.out _).mono ?_
      rintro e w2 ⟨rfl, E2⟩
      have HX2 := Lib.hid ((HX.out.ext E2).alloc (.cells #[.int .i64 x.a, .int .i64 x.b, .string x.c] 30))
      have HY := Lib.hid (Blk.new w2 30 [.int .i64 x.a, .int .i64 x.b, .string x.c])
      have HE2 := Lib.hid ((HE1.out.trans E2).alloc (.cells #[.int .i64 x.a, .int .i64 x.b, .string x.c] 30))
      clear E2 a0 a1 a2 b0 b1 b2 HX HE1
      obtain ⟨p0, p1, p2⟩ := HX2.out.cells3
      obtain ⟨q0, q1, q2⟩ := HY.out.cells3
      go_wp2_with fail
      generalize w2.alloc (.cells #[.int .i64 x.a, .int .i64 x.b, .string x.c] 30) = w2' at HX2 HY HE2 p0 p1 p2 q0 q1 q2 ⊢
      refine (HVO.out _).mono ?_
      rintro e w3 ⟨rfl, E3⟩
      have hvb : valB x.a x.b x.c = true := HOK.out
      rw [hvb]
      have HX3 := Lib.hid (HX2.out.ext E3)
      have HE3 := Lib.hid (HE2.out.trans E3)
      clear E3 p0 p1 p2 q0 q1 q2 HX2 HY HE2 hvb
      obtain ⟨n0, n1, n2⟩ := (HN.out.ext HE3.out).cells3
      obtain ⟨b0, b1, b2⟩ := (HBb.out.ext HE3.out).cells3
      go_wp2_with fail
      refine (HI2.out _).mono ?_
      rintro e w4 ⟨rfl, E4⟩
      have HX4 := Lib.hid ((HX3.out.ext E4).alloc (.cells #[.int .i64 x2.a, .int .i64 x2.b, .string x2.c] 30))
      have HE4 := Lib.hid ((HE3.out.trans E4).alloc (.cells #[.int .i64 x2.a, .int .i64 x2.b, .string x2.c] 30))
      have HY := Lib.hid (Blk.new w4 30 [.int .i64 x2.a, .int .i64 x2.b, .string x2.c])
      clear E4 n0 n1 n2 b0 b1 b2 HX3 HE3
      obtain ⟨a0, a1, a2⟩ := (HA.out.ext HE4.out).cells3
      obtain ⟨b0, b1, b2⟩ := (HBb.out.ext HE4.out).cells3
      go_wp2_with fail
      generalize w4.alloc (.cells #[.int .i64 x2.a, .int .i64 x2.b, .string x2.c] 30) = w4' at *
      refine (HI3.out _).mono ?_
      rintro e w5 ⟨rfl, E5⟩
      have HX5 := Lib.hid ((HX4.out.ext E5).alloc (.cells #[.int .i64 x.a, .int .i64 x.b, .string x.c] 30))
      have HY5 := Lib.hid (Blk.new w5 30 [.int .i64 x.a, .int .i64 x.b, .string x.c])
      have HE5 := Lib.hid ((HE4.out.trans E5).alloc (.cells #[.int .i64 x.a, .int .i64 x.b, .string x.c] 30))
      clear E5 a0 a1 a2 b0 b1 b2
      obtain ⟨p0, p1, p2⟩ := HX5.out.cells3
      obtain ⟨q0, q1, q2⟩ := HY5.out.cells3
      go_wp2_with fail
      go_roundw
      case rel => exact ⟨13, by omega, by omega, rfl, HA.out.ext HE5.out, HBb.out.ext HE5.out, HN.out.ext HE5.out, HE.out.trans HE5.out⟩
      case measure => simp [intOf]
    · have hi1 := fun W => impl_BinaryValue 13 a b W (okV_small ha.out) (okV_small hb.out)
      have hs1 := fun W => spec_BinaryValue 13 a b W (okV_small ha.out) (okV_small hb.out)
      have hok := okV_bvV 13 a b
      have hi2 : ∀ W, Calls Try.prog 38 #[.int .i64 13, .agg #[.int .i64 0, .int .i64 0, .string ⟨#[]⟩], .agg #[.int .i64 b.a, .int .i64 b.b, .string b.c]] W (RetV W (bvV 13 nulV b) (bvC 13 nulV b)) := fun W => impl_BinaryValue 13 nulV b W (okV_small okV_nulV) (okV_small hb.out)
      generalize bvV 13 nulV b = x2 at hi2
      generalize bvC 13 nulV b = c2 at hi2
      have hcm := bv_comm (op := 13) (by omega) ha.out hb.out
      have hi3 := fun W => impl_BinaryValue 13 b a W (okV_small hb.out) (okV_small ha.out)
      rw [← hcm.1, ← hcm.2] at hi3
      clear hcm
      generalize bvV 13 a b = x at hi1 hs1 hok hi3
      generalize bvC 13 a b = c at hi1 hs1 hi3
      have HI1 := Lib.hid hi1
      have HS1 := Lib.hid hs1
      have HI2 := Lib.hid hi2
      have HI3 := Lib.hid hi3
      have HOK := Lib.hid hok
      have HVO := Lib.hid (fun W => impl_ValueOK x.a x.b x.c W (okV_small hok))
      have hcc : (c != c) = false := by simp
      have hnx := run_neq_Value x
      clear hi1 hs1 hi2 hi3 hok
      obtain ⟨a0, a1, a2⟩ := HA.out.cells3
      obtain ⟨b0, b1, b2⟩ := HBb.out.cells3
      go_wp2_with fail
      refine (HI1.out _).mono ?_
      rintro e w1 ⟨rfl, E1⟩
      have HX := Lib.hid (Blk.new w1 30 [.int .i64 x.a, .int .i64 x.b, .string x.c])
      have HE1 := Lib.hid (E1.alloc (.cells #[.int .i64 x.a, .int .i64 x.b, .string x.c] 30))
      clear E1 a0 a1 a2 b0 b1 b2
      obtain ⟨a0, a1, a2⟩ := (HA.out.ext HE1.out).cells3
      obtain ⟨b0, b1, b2⟩ := (HBb.out.ext HE1.out).cells3
      go_wp2_with fail
      generalize w1.alloc (.cells #[.int .i64 x.a, .int .i64 x.b, .string x.c] 30) = w1' at HX HE1 a0 a1 a2 b0 b1 b2 ⊢
      generalize w1.heap.size = y1 at HX ⊢
      refine (HS1.out _).mono ?_
      rintro e w2 ⟨rfl, E2⟩
      have HX2 := Lib.hid ((HX.out.ext E2).alloc (.cells #[.int .i64 x.a, .int .i64 x.b, .string x.c] 30))
      have HY := Lib.hid (Blk.new w2 30 [.int .i64 x.a, .int .i64 x.b, .string x.c])
      have HE2 := Lib.hid ((HE1.out.trans E2).alloc (.cells #[.int .i64 x.a, .int .i64 x.b, .string x.c] 30))
      clear E2 a0 a1 a2 b0 b1 b2 HX HE1
      obtain ⟨p0, p1, p2⟩ := HX2.out.cells3
      obtain ⟨q0, q1, q2⟩ := HY.out.cells3
      go_wp2_with fail
      generalize w2.alloc (.cells #[.int .i64 x.a, .int .i64 x.b, .string x.c] 30) = w2' at HX2 HY HE2 p0 p1 p2 q0 q1 q2 ⊢
      refine (HVO.out _).mono ?_
      rintro e w3 ⟨rfl, E3⟩
      have hvb : valB x.a x.b x.c = true := HOK.out
      rw [hvb]
      have HX3 := Lib.hid (HX2.out.ext E3)
      have HE3 := Lib.hid (HE2.out.trans E3)
      clear E3 p0 p1 p2 q0 q1 q2 HX2 HY HE2 hvb
      obtain ⟨n0, n1, n2⟩ := (HN.out.ext HE3.out).cells3
      obtain ⟨b0, b1, b2⟩ := (HBb.out.ext HE3.out).cells3
      go_wp2_with fail
      refine (HI2.out _).mono ?_
      rintro e w4 ⟨rfl, E4⟩
      have HX4 := Lib.hid ((HX3.out.ext E4).alloc (.cells #[.int .i64 x2.a, .int .i64 x2.b, .string x2.c] 30))
      have HE4 := Lib.hid ((HE3.out.trans E4).alloc (.cells #[.int .i64 x2.a, .int .i64 x2.b, .string x2.c] 30))
      have HY := Lib.hid (Blk.new w4 30 [.int .i64 x2.a, .int .i64 x2.b, .string x2.c])
      clear E4 n0 n1 n2 b0 b1 b2 HX3 HE3
      obtain ⟨a0, a1, a2⟩ := (HA.out.ext HE4.out).cells3
      obtain ⟨b0, b1, b2⟩ := (HBb.out.ext HE4.out).cells3
      go_wp2_with fail
      generalize w4.alloc (.cells #[.int .i64 x2.a, .int .i64 x2.b, .string x2.c] 30) = w4' at *
      refine (HI3.out _).mono ?_
      rintro e w5 ⟨rfl, E5⟩
      have HX5 := Lib.hid ((HX4.out.ext E5).alloc (.cells #[.int .i64 x.a, .int .i64 x.b, .string x.c] 30))
      have HY5 := Lib.hid (Blk.new w5 30 [.int .i64 x.a, .int .i64 x.b, .string x.c])
      have HE5 := Lib.hid ((HE4.out.trans E5).alloc (.cells #[.int .i64 x.a, .int .i64 x.b, .string x.c] 30))
      clear E5 a0 a1 a2 b0 b1 b2
      obtain ⟨p0, p1, p2⟩ := HX5.out.cells3
      obtain ⟨q0, q1, q2⟩ := HY5.out.cells3
      go_wp2_with fail
      go_roundw
      case rel => exact ⟨14, by omega, by omega, rfl, HA.out.ext HE5.out, HBb.out.ext HE5.out, HN.out.ext HE5.out, HE.out.trans HE5.out⟩
      case measure => simp [intOf]
    · go_wp2_with fail
      go_ret
      exact ⟨rfl, HE.out⟩
end Go.Proofs.Ythfkfdfcgldbeaa
