/- The walks of ReadHeader. -/
import Derived.Test.YteaefjicpefgnaaUnseal2
import Derived.Lib.IndexBytes
namespace Go.Proofs.Yteaefjicpefgnaa
open Go.RowKit Go.Deep
set_option linter.unusedVariables false
set_option maxRecDepth 100000
/-- a header that is right -/
def rhOK (l : List UInt8) : Bool := sealB? l && decide (l.length = 6) && decide ((l.getD 0 0).toNat = 104) && decide ((l.getD 1 0).toNat ≤ 60)
/-- what ReadHeader answers -/
def rhV (l : List UInt8) : Int := if 65536 < l.length then 0 else if l.length = 0 then 0 else if rhOK l then ((l.getD 1 0).toNat : Int) else 0
def rhC (l : List UInt8) : Int := if 65536 < l.length then 2 else if l.length = 0 then 0 else if rhOK l then 0 else 8
theorem rh_long {l : List UInt8} (h : 65536 < l.length) : rhV l = 0 ∧ rhC l = 2 := by unfold rhV rhC; rw [if_pos h, if_pos h]; exact ⟨rfl, rfl⟩
theorem rh_none {l : List UInt8} (h : l.length = 0) : rhV l = 0 ∧ rhC l = 0 := by unfold rhV rhC; simp [h]
theorem rh_bad {l : List UInt8} (h1 : ¬ 65536 < l.length) (h2 : ¬ l.length = 0) (h : rhOK l = false) : rhV l = 0 ∧ rhC l = 8 := by unfold rhV rhC; rw [if_neg h1, if_neg h1, if_neg h2, if_neg h2, h]; exact ⟨rfl, rfl⟩
theorem rh_good {l : List UInt8} (h1 : ¬ 65536 < l.length) (h2 : ¬ l.length = 0) (h : rhOK l = true) : rhV l = ((l.getD 1 0).toNat : Int) ∧ rhC l = 0 := by unfold rhV rhC; rw [if_neg h1, if_neg h1, if_neg h2, if_neg h2, h]; exact ⟨rfl, rfl⟩
theorem ret_two {a b c d : Int} (h : a = c ∧ b = d) : Ending.returned (.tuple #[.int .i64 c, .int .i64 d]) = .returned (.tuple #[.int .i64 a, .int .i64 b]) := by rw [h.1, h.2]
theorem two_of {l : List UInt8} (h : l.length = 6) : ∃ x y r, l = x :: y :: r := by
  match l with
  | x :: y :: r => exact ⟨x, y, r, rfl⟩
  | [] => simp at h
  | [_] => simp at h
set_option maxHeartbeats 1000000 in
theorem impl_ReadHeader (A : Option Addr) (n cp : Nat) (l : List UInt8) (w : World) (hl : l.length = n) (hn : n ≤ 1099511627776) (hc : n ≤ cp) (hm : cp ≤ maxLen) (hr : Rd w A (l.map fun c => Value.int .u8 (c.toNat : Int))) :
    Calls Try.prog 22 #[.slice A n cp] w fun e w' => e = .returned (.tuple #[.int .i64 (rhV l), .int .i64 (rhC l)]) ∧ Ext w w' := by
  by_cases h1 : 65536 < n
  · have HV := Lib.hid (rh_long (l := l) (by omega))
    have h1I : (65536 : Int) < (n : Int) := by omega
    clear hl hr
    go_enter Try.func22, Try.ntmps22
    go_wp2_with fail
    go_ret2
    exact ⟨ret_two HV.out, Ext.refl _⟩
  have h1I : ¬ (65536 : Int) < (n : Int) := by omega
  by_cases h0 : n = 0
  · have HV := Lib.hid (rh_none (l := l) (by omega))
    clear hl
    subst h0
    go_enter Try.func22, Try.ntmps22
    go_wp2_with fail
    go_ret2
    exact ⟨ret_two HV.out, Ext.refl _⟩
  have h0I : ((n : Int) == 0) = false := beq_eq_false_iff_ne.2 (by omega)
  have h0' : ¬ l.length = 0 := by omega
  have h1' : ¬ 65536 < l.length := by omega
  by_cases h4 : n < 4
  · have HV := Lib.hid (rh_bad (l := l) h1' h0' (by unfold rhOK sealB?; rw [decide_eq_false (by omega)]; rfl))
    have HU := Lib.hid (fun W => impl_unsealed_short A n cp W h4)
    clear hl h4 hr h0' h1' h0
    go_enter Try.func22, Try.ntmps22
    go_wp2_with fail
    refine (HU.out _).mono ?_
    rintro e w1 ⟨rfl, E1⟩
    go_wp2_with fail
    go_ret2
    exact ⟨ret_two HV.out, E1⟩
  have hm' : (0 : Nat) < (l.map fun c => Value.int .u8 (c.toNat : Int)).length := by simp; omega
  obtain ⟨b, o, rfl, hx⟩ := hr (by intro e; rw [e] at hm'; simp at hm')
  have HU := Lib.hid (impl_unsealed b o n cp l w hl (by omega) hn hc hm hr)
  rcases hs : sealB? l with _ | _
  · have HV := Lib.hid (rh_bad (l := l) h1' h0' (by unfold rhOK; rw [hs]; rfl))
    have HS := Lib.hid hs
    clear hl h4 hr h0' h1' h0 hm' hx hs
    go_enter Try.func22, Try.ntmps22
    go_wp2_with fail
    refine (HU.out).mono ?_
    rintro e w1 ⟨rfl, E1⟩
    rw [HS.out, if_neg (by decide)]
    go_wp2_with fail
    go_ret2
    exact ⟨ret_two HV.out, E1⟩
  by_cases h6 : n = 6
  · subst h6
    obtain ⟨x, y, r, rfl⟩ := two_of hl
    have c0 : w.cell? ⟨b, o + 0, none⟩ = some (.int .u8 (x.toNat : Int)) := hx 0 _ rfl
    have c1 : w.cell? ⟨b, o + 1, none⟩ = some (.int .u8 (y.toNat : Int)) := hx 1 _ rfl
    rw [Nat.add_zero] at c0
    have hOK : rhOK (x :: y :: r) = (decide (x.toNat = 104) && decide (y.toNat ≤ 60)) := by unfold rhOK; rw [hs, hl]; rfl
    have hx8 := x.toNat_lt
    have hy8 := y.toNat_lt
    by_cases hx4 : x.toNat = 104
    · by_cases hy6 : y.toNat ≤ 60
      · have HV := Lib.hid (rh_good (l := x :: y :: r) h1' h0' (by rw [hOK, hx4, decide_eq_true hy6]; rfl))
        have HS := Lib.hid hs
        have hxI : ((x.toNat : Int) != 104) = false := by rw [hx4]; rfl
        have hyI : ¬ (60 : Int) < (y.toNat : Int) := by omega
        clear hl h4 hr h0' h1' h0 hm' hx hs hx4 hOK h1
        go_enter Try.func22, Try.ntmps22
        go_wp2_with fail
        refine (HU.out).mono ?_
        rintro e w1 ⟨rfl, E1⟩
        rw [HS.out, if_pos rfl]
        have k0 := E1.cell c0
        have k1 := E1.cell c1
        go_wp2_with fail
        go_ret2
        exact ⟨ret_two HV.out, E1⟩
      · have HV := Lib.hid (rh_bad (l := x :: y :: r) h1' h0' (by rw [hOK, decide_eq_false hy6]; simp))
        have HS := Lib.hid hs
        have hxI : ((x.toNat : Int) != 104) = false := by rw [hx4]; rfl
        have hyI : (60 : Int) < (y.toNat : Int) := by omega
        clear hl h4 hr h0' h1' h0 hm' hx hs hx4 hOK h1
        go_enter Try.func22, Try.ntmps22
        go_wp2_with fail
        refine (HU.out).mono ?_
        rintro e w1 ⟨rfl, E1⟩
        rw [HS.out, if_pos rfl]
        have k0 := E1.cell c0
        have k1 := E1.cell c1
        go_wp2_with fail
        go_ret2
        exact ⟨ret_two HV.out, E1⟩
    · have HV := Lib.hid (rh_bad (l := x :: y :: r) h1' h0' (by rw [hOK, decide_eq_false hx4]; rfl))
      have HS := Lib.hid hs
      have hxI : ((x.toNat : Int) != 104) = true := by rw [bne_iff_ne]; omega
      clear hl h4 hr h0' h1' h0 hm' hx hs hx4 hOK h1
      go_enter Try.func22, Try.ntmps22
      go_wp2_with fail
      refine (HU.out).mono ?_
      rintro e w1 ⟨rfl, E1⟩
      rw [HS.out, if_pos rfl]
      have k0 := E1.cell c0
      go_wp2_with fail
      go_ret2
      exact ⟨ret_two HV.out, E1⟩
  · have HV := Lib.hid (rh_bad (l := l) h1' h0' (by unfold rhOK; rw [decide_eq_false (show ¬ l.length = 6 by omega)]; simp))
    have HS := Lib.hid hs
    have h6I : (((n - 4 : Nat) : Int) != 2) = true := by rw [bne_iff_ne]; omega
    clear hl hr h0' h1' h0 hm' hx hs h1
    go_enter Try.func22, Try.ntmps22
    go_wp2_with fail
    refine (HU.out).mono ?_
    rintro e w1 ⟨rfl, E1⟩
    rw [HS.out, if_pos rfl]
    go_wp2_with fail
    go_ret2
    exact ⟨ret_two HV.out, E1⟩
theorem str_at {s : ByteArray} {k : Nat} (h : k < s.size) : s[k] = s.data.toList.getD k 0 := by
  have hk : k < s.data.toList.length := by simpa using h
  rw [List.getD_eq_getElem?_getD, List.getElem?_eq_getElem hk]
  simp only [Array.getElem_toList, Option.getD_some]; rfl
theorem str_nil {s : ByteArray} (h : s.size = 0) : s.toList = [] := by
  rw [Lib.toList_data]; exact List.eq_nil_of_length_eq_zero (by simpa using h)
theorem str_some {s : ByteArray} (h : s.size ≠ 0) : s.toList.isEmpty = false := by
  rw [Lib.toList_data]
  have : s.data.toList.length ≠ 0 := by simpa using h
  cases hs : s.data.toList with
  | nil => rw [hs] at this; simp at this
  | cons a r => rfl
set_option maxHeartbeats 1000000 in
theorem spec_l04Epoch (s : ByteArray) (w : World) (h1 : s.size ≤ 65536) :
    Calls Try.prog 64 #[.string s] w fun e w' => e = .returned (if s.size = 0 then .tuple #[.int .i64 0, .bool true] else if rhOK s.data.toList then .tuple #[.int .i64 ((s.data.toList.getD 1 0).toNat : Int), .bool true] else .tuple #[.int .i64 0, .bool false]) ∧ Ext w w' := by
  by_cases h0 : s.size = 0
  · have hb := str_nil h0
    rw [if_pos h0]
    clear h0
    go_enter Try.func64, Try.ntmps64
    go_wp2_with fail
    go_ret2
    exact ⟨rfl, Ext.refl _⟩
  rw [if_neg h0]
  have hb := str_some h0
  have hsl : s.data.toList.length = s.size := by simp
  by_cases h4 : s.size < 4
  · have HV := Lib.hid (show rhOK s.data.toList = false from by unfold rhOK sealB?; rw [decide_eq_false (by omega)]; rfl)
    have HU := Lib.hid (fun W => spec_l03Unseal_short s W h4)
    rw [HV.out, if_neg (by decide)]
    clear h4 h0 hsl
    go_enter Try.func64, Try.ntmps64
    go_wp2_with fail
    refine (HU.out _).mono ?_
    rintro e w1 ⟨rfl, E1⟩
    go_wp2_with fail
    go_ret2
    exact ⟨rfl, E1⟩
  have HU := Lib.hid (spec_l03Unseal s w (by omega) (by omega))
  rcases hs : sealB? s.data.toList with _ | _
  · have HV := Lib.hid (show rhOK s.data.toList = false from by unfold rhOK; rw [hs]; rfl)
    rw [HV.out, if_neg (by decide)]
    have HS := Lib.hid hs
    clear h4 h0 hs hsl
    go_enter Try.func64, Try.ntmps64
    go_wp2_with fail
    refine (HU.out).mono ?_
    rintro e w1 ⟨rfl, E1⟩
    rw [HS.out, if_neg (by decide)]
    go_wp2_with fail
    go_ret2
    exact ⟨rfl, E1⟩
  have HS := Lib.hid hs
  have hX : (s.extract 0 (s.size - 4)).size = s.size - 4 := by simp
  by_cases h6 : s.size = 6
  · have hOK : rhOK s.data.toList = (decide ((s.data.toList.getD 0 0).toNat = 104) && decide ((s.data.toList.getD 1 0).toNat ≤ 60)) := by unfold rhOK; rw [hs, hsl, h6]; rfl
    have hX0 := ext_take s (s.size - 4)
    have HOK := Lib.hid hOK
    have g0 : (s.extract 0 (s.size - 4)).data.toList.getD 0 0 = s.data.toList.getD 0 0 := by rw [hX0, h6]; simp [List.getD_eq_getElem?_getD]
    have g1 : (s.extract 0 (s.size - 4)).data.toList.getD 1 0 = s.data.toList.getD 1 0 := by rw [hX0, h6]; simp [List.getD_eq_getElem?_getD]
    rw [HOK.out]
    have hX := hX.trans (show s.size - 4 = 2 from by omega)
    generalize s.extract 0 (s.size - 4) = X at hX HU g0 g1
    have k0 : 0 < X.size := by omega
    have k1 : 1 < X.size := by omega
    rw [← str_at k0] at g0
    rw [← str_at k1] at g1
    rw [← g0, ← g1]
    have b0 : X[0].toNat < 256 := X[0].toNat_lt
    have b1 : X[1].toNat < 256 := X[1].toNat_lt
    have hXI : ((X.size : Int) != 2) = false := by rw [hX]; rfl
    clear hOK hX0 h4 h0 hs hsl h6 h1 HOK g0 g1 hX
    by_cases hx4 : X[0].toNat = 104
    · have hxI : ((X[0].toNat : Int) != 104) = false := by rw [hx4]; rfl
      have HX4 := Lib.hid hx4
      clear hx4
      by_cases hy6 : X[1].toNat ≤ 60
      · have hyI : ¬ (60 : Int) < (X[1].toNat : Int) := by omega
        rw [HX4.out, decide_eq_true hy6, if_pos (by decide)]
        clear hy6
        go_enter Try.func64, Try.ntmps64
        go_wp2_with fail
        refine (HU.out).mono ?_
        rintro e w1 ⟨rfl, E1⟩
        rw [HS.out, if_pos rfl]
        go_wp2_with fail
        go_ret2
        exact ⟨rfl, E1⟩
      · have hyI : (60 : Int) < (X[1].toNat : Int) := by omega
        rw [decide_eq_false hy6, if_neg (by simp)]
        clear hy6
        go_enter Try.func64, Try.ntmps64
        go_wp2_with fail
        refine (HU.out).mono ?_
        rintro e w1 ⟨rfl, E1⟩
        rw [HS.out, if_pos rfl]
        go_wp2_with fail
        go_ret2
        exact ⟨rfl, E1⟩
    · have hxI : ((X[0].toNat : Int) != 104) = true := by rw [bne_iff_ne]; omega
      rw [decide_eq_false hx4, if_neg (by simp)]
      clear hx4
      go_enter Try.func64, Try.ntmps64
      go_wp2_with fail
      refine (HU.out).mono ?_
      rintro e w1 ⟨rfl, E1⟩
      rw [HS.out, if_pos rfl]
      go_wp2_with fail
      go_ret2
      exact ⟨rfl, E1⟩
  · rw [show rhOK s.data.toList = false from by unfold rhOK; rw [hsl, decide_eq_false h6]; simp, if_neg (by decide)]
    generalize s.extract 0 (s.size - 4) = X at hX HU
    have h6I : ((X.size : Int) != 2) = true := by rw [bne_iff_ne]; omega
    clear h4 h0 hs hsl h6 hX
    go_enter Try.func64, Try.ntmps64
    go_wp2_with fail
    refine (HU.out).mono ?_
    rintro e w1 ⟨rfl, E1⟩
    rw [HS.out, if_pos rfl]
    go_wp2_with fail
    go_ret2
    exact ⟨rfl, E1⟩
set_option maxHeartbeats 1000000 in
theorem spec_ReadHeader (A : Option Addr) (n cp : Nat) (l : List UInt8) (w : World) (hl : l.length = n) (hn : n ≤ 1099511627776) (hr : Rd w A (l.map fun c => Value.int .u8 (c.toNat : Int))) :
    Calls Try.prog 20 #[.slice A n cp] w fun e w' => e = .returned (.tuple #[.int .i64 (rhV l), .int .i64 (rhC l)]) ∧ Ext w w' := by
  by_cases h1 : 65536 < n
  · have HV := Lib.hid (rh_long (l := l) (by omega))
    have h1I : (65536 : Int) < (n : Int) := by omega
    clear hl hr
    go_enter Try.func20, Try.ntmps20
    go_wp2_with fail
    go_ret2
    exact ⟨ret_two HV.out, Ext.refl _⟩
  have h1I : ¬ (65536 : Int) < (n : Int) := by omega
  have h1' : ¬ 65536 < l.length := by omega
  have hcv := run_text (P := Try.prog) (src := 22) (dst := 9) Try.underlying22 Try.underlying5 Try.underlying9 w A n cp l hl hr
  have hE := fun W => spec_l04Epoch (⟨l.toArray⟩ : ByteArray) W (by show l.toArray.size ≤ 65536; simp; omega)
  have e1 : (⟨l.toArray⟩ : ByteArray).size = l.length := by show l.toArray.size = _; simp

  simp only [e1] at hE
  generalize (⟨l.toArray⟩ : ByteArray) = s at hcv hE
  clear e1 h1
  by_cases h0 : l.length = 0
  · have HV := Lib.hid (rh_none h0)
    rw [if_pos h0] at hE
    have HE := Lib.hid hE
    clear hl hE h0 h1' hr
    go_enter Try.func20, Try.ntmps20
    go_wp2_with fail
    refine (HE.out _).mono ?_
    rintro e w1 ⟨rfl, E1⟩
    go_wp2_with fail
    go_ret2
    exact ⟨ret_two HV.out, E1⟩
  rw [if_neg h0] at hE
  rcases hok : rhOK l with _ | _
  · have HV := Lib.hid (rh_bad h1' h0 hok)
    rw [hok, if_neg (by decide)] at hE
    have HE := Lib.hid hE
    clear hl hE h0 h1' hr hok
    go_enter Try.func20, Try.ntmps20
    go_wp2_with fail
    refine (HE.out _).mono ?_
    rintro e w1 ⟨rfl, E1⟩
    go_wp2_with fail
    go_ret2
    exact ⟨ret_two HV.out, E1⟩
  · have HV := Lib.hid (rh_good h1' h0 hok)
    rw [hok, if_pos rfl] at hE
    have HE := Lib.hid hE
    clear hl hE h0 h1' hr hok
    go_enter Try.func20, Try.ntmps20
    go_wp2_with fail
    refine (HE.out _).mono ?_
    rintro e w1 ⟨rfl, E1⟩
    go_wp2_with fail
    go_ret2
    exact ⟨ret_two HV.out, E1⟩
end Go.Proofs.Yteaefjicpefgnaa
