/- The walks of what two values join (printed by gen_bin.py). -/
import Derived.Test.YthfkfdfcgldbeaaKeys
import Derived.Test.YthfkfdfcgldbeaaCompare
import Derived.Test.YthfkfdfcgldbeaaInRange
import Derived.Test.YthfkfdfcgldbeaaRowS
namespace Go.Proofs.Ythfkfdfcgldbeaa
open Go.RowKit Go.Deep
set_option linter.unusedVariables false
set_option maxRecDepth 100000
def nulV : CValue := ⟨0, 0, ByteArray.empty⟩
def numV (n : Int) : CValue := ⟨1, n, ByteArray.empty⟩
def bitV (b : Bool) : CValue := numV (if b then 1 else 0)
def zerB (x : CValue) : Bool := x.a == 1 && x.b == 0
def othB (x : CValue) : Bool := x.a == 1 && !(x.b == 0)
/-- a number's value, if it is one; and the code -/
def bndV (n : Int) : CValue := if inB n (-1000000000) 1000000000 then numV n else nulV
def bndC (n : Int) : Int := if inB n (-1000000000) 1000000000 then 0 else 12
/-- a pair of a value and a code -/
theorem ba_empty {s : ByteArray} (h : s.toList = []) : s = ByteArray.empty := by
  have h1 : s.data.toList = [] := by rw [← ByteArray.toList_eq]; exact h
  apply ByteArray.ext
  rw [← Array.toList_inj, h1]; rfl
def RetV (w : World) (x : CValue) (c : Int) (e : Ending) (w' : World) : Prop := e = .returned (.tuple #[.agg #[.int .i64 x.a, .int .i64 x.b, .string x.c], .int .i64 c]) ∧ Ext w w'
theorem impl_truth (b : Bool) (w : World) : Calls Try.prog 126 #[.bool b] w fun e w' => e = .returned (.agg #[.int .i64 (bitV b).a, .int .i64 (bitV b).b, .string (bitV b).c]) ∧ Ext w w' := by
  have HN := Lib.hid (fun z W => impl_numberValue z W)
  have HX := Lib.hid (Blk.new w 30 [.int .i64 0, .int .i64 0, .string ⟨#[]⟩])
  cases b
  · go_enter Try.func126, Try.ntmps126
    go_wp2_with fail
    refine (HN.out 0 _).mono ?_
    rintro e w1 ⟨rfl, E1⟩
    obtain ⟨c0, c1, c2⟩ := (HX.out.ext E1).cells3
    have cf0 := (HX.out.ext E1).frozen 0
    have cf1 := (HX.out.ext E1).frozen 1
    have cf2 := (HX.out.ext E1).frozen 2
    go_wp2_with fail
    refine bodyPost_ret (v := .agg #[.int .i64 1, .int .i64 0, .string ByteArray.empty]) (by simp [results, Try.results126, go_sem, c0, c1, c2]; try rfl) rfl ⟨rfl, (by repeat (first | exact Ext.refl _ | assumption | refine Ext.alloc ?_ _ | refine Ext.drewN ?_ _ | refine Ext.drew ?_ | refine Ext.set ?_ (by dsimp only; omega) _ | refine Ext.trans ?_ (by assumption)))⟩
  · go_enter Try.func126, Try.ntmps126
    go_wp2_with fail
    refine (HN.out 1 _).mono ?_
    rintro e w1 ⟨rfl, E1⟩
    obtain ⟨c0, c1, c2⟩ := (HX.out.ext E1).cells3
    have cf0 := (HX.out.ext E1).frozen 0
    have cf1 := (HX.out.ext E1).frozen 1
    have cf2 := (HX.out.ext E1).frozen 2
    go_wp2_with fail
    refine bodyPost_ret (v := .agg #[.int .i64 1, .int .i64 1, .string ByteArray.empty]) (by simp [results, Try.results126, go_sem, c0, c1, c2]; try rfl) rfl ⟨rfl, (by repeat (first | exact Ext.refl _ | assumption | refine Ext.alloc ?_ _ | refine Ext.drewN ?_ _ | refine Ext.drew ?_ | refine Ext.set ?_ (by dsimp only; omega) _ | refine Ext.trans ?_ (by assumption)))⟩
theorem okV_nul {x : CValue} (h : okV x = true) (h0 : x.a = 0) : x = nulV := by
  unfold okV valB at h
  rw [if_pos h0] at h
  simp at h
  obtain ⟨a, b, c⟩ := x
  dsimp only at h0 h
  obtain ⟨h1, h2⟩ := h
  subst h0; subst h1
  unfold nulV
  congr 1
  exact ba_empty h2
theorem okV_num' {x : CValue} (h : okV x = true) (h0 : x.a = 1) : x = numV x.b ∧ -1000000000 ≤ x.b ∧ x.b ≤ 1000000000 := by
  unfold okV valB at h
  rw [if_neg (by omega), if_pos h0] at h
  simp at h
  obtain ⟨a, b, c⟩ := x
  dsimp only at h0 h ⊢
  obtain ⟨⟨h1, h2⟩, h3⟩ := h
  subst h0
  refine ⟨?_, h1, h2⟩
  unfold numV
  congr 1
  exact ba_empty h3
theorem okV_txt {x : CValue} (h : okV x = true) (h0 : x.a = 2) : x.b = 0 ∧ x.c.size ≤ 10 := by
  have h1 := okV_cases h
  unfold okV valB at h
  rw [if_neg (by omega), if_neg (by omega), if_pos h0] at h
  simp at h
  exact ⟨h.1, by omega⟩
theorem impl_isZero (x : CValue) (w : World) (hok : okV x = true) : Calls Try.prog 157 #[.agg #[.int .i64 x.a, .int .i64 x.b, .string x.c]] w fun e w' => e = .returned (.bool (zerB x)) ∧ Ext w w' := by
  have hz : zerB x = (x.a == 1 && x.b == 0) := rfl
  have hc := fun h => okV_num' hok h
  generalize zerB x = r at hz ⊢
  obtain ⟨a, b, c⟩ := x
  dsimp only at hz hc ⊢
  by_cases h1 : a = 1
  · obtain ⟨h2, _, _⟩ := hc h1
    injection h2 with _ _ h3
    subst h1; subst h3
    by_cases h4 : b = 0
    · subst h4
      have HZ := Lib.hid (show r = true by rw [hz]; rfl)
      clear hz hc
      go_enter Try.func157, Try.ntmps157
      go_wp2_with fail
      go_ret
      exact ⟨ret_bool HZ.out.symm, (by repeat (first | exact Ext.refl _ | assumption | refine Ext.alloc ?_ _ | refine Ext.drewN ?_ _ | refine Ext.drew ?_ | refine Ext.set ?_ (by dsimp only; omega) _ | refine Ext.trans ?_ (by assumption)))⟩
    · have HZ := Lib.hid (show r = false by rw [hz]; simp [h4])
      clear hz hc
      go_enter Try.func157, Try.ntmps157
      go_wp2_with fail
      go_ret
      exact ⟨ret_bool HZ.out.symm, (by repeat (first | exact Ext.refl _ | assumption | refine Ext.alloc ?_ _ | refine Ext.drewN ?_ _ | refine Ext.drew ?_ | refine Ext.set ?_ (by dsimp only; omega) _ | refine Ext.trans ?_ (by assumption)))⟩
  · have HZ := Lib.hid (show r = false by rw [hz]; simp [h1])
    clear hz hc
    go_enter Try.func157, Try.ntmps157
    go_wp2_with fail
    go_ret
    exact ⟨ret_bool HZ.out.symm, (by repeat (first | exact Ext.refl _ | assumption | refine Ext.alloc ?_ _ | refine Ext.drewN ?_ _ | refine Ext.drew ?_ | refine Ext.set ?_ (by dsimp only; omega) _ | refine Ext.trans ?_ (by assumption)))⟩
theorem impl_isOther (x : CValue) (w : World) : Calls Try.prog 158 #[.agg #[.int .i64 x.a, .int .i64 x.b, .string x.c]] w fun e w' => e = .returned (.bool (othB x)) ∧ Ext w w' := by
  have hz : othB x = (x.a == 1 && !(x.b == 0)) := rfl
  generalize othB x = r at hz ⊢
  rcases h1 : (x.a == 1) with _ | _
  · have HZ := Lib.hid (show r = false by rw [hz, h1]; rfl)
    clear hz
    go_enter Try.func158, Try.ntmps158
    go_wp2_with fail
    go_ret
    exact ⟨ret_bool HZ.out.symm, (by repeat (first | exact Ext.refl _ | assumption | refine Ext.alloc ?_ _ | refine Ext.drewN ?_ _ | refine Ext.drew ?_ | refine Ext.set ?_ (by dsimp only; omega) _ | refine Ext.trans ?_ (by assumption)))⟩
  · rcases h2 : (x.b == 0) with _ | _
    · have HZ := Lib.hid (show r = true by rw [hz, h1, h2]; rfl)
      have h3 : (x.b != 0) = true := by unfold bne; rw [h2]; rfl
      clear hz
      go_enter Try.func158, Try.ntmps158
      go_wp2_with fail
      go_ret
      exact ⟨ret_bool HZ.out.symm, (by repeat (first | exact Ext.refl _ | assumption | refine Ext.alloc ?_ _ | refine Ext.drewN ?_ _ | refine Ext.drew ?_ | refine Ext.set ?_ (by dsimp only; omega) _ | refine Ext.trans ?_ (by assumption)))⟩
    · have HZ := Lib.hid (show r = false by rw [hz, h1, h2]; rfl)
      have h3 : (x.b != 0) = false := by unfold bne; rw [h2]; rfl
      clear hz
      go_enter Try.func158, Try.ntmps158
      go_wp2_with fail
      go_ret
      exact ⟨ret_bool HZ.out.symm, (by repeat (first | exact Ext.refl _ | assumption | refine Ext.alloc ?_ _ | refine Ext.drewN ?_ _ | refine Ext.drew ?_ | refine Ext.set ?_ (by dsimp only; omega) _ | refine Ext.trans ?_ (by assumption)))⟩
/-- the whole of a value -/
theorem okV_shape {x : CValue} (h : okV x = true) : x = nulV ∨ (∃ n : Int, x = numV n ∧ -1000000000 ≤ n ∧ n ≤ 1000000000) ∨ (∃ s : ByteArray, x = ⟨2, 0, s⟩ ∧ s.size ≤ 10) := by
  rcases okV_cases h with h0 | ⟨h1, _, _⟩ | ⟨h2, h3⟩
  · exact .inl (okV_nul h h0)
  · obtain ⟨e, a, b⟩ := okV_num' h h1
    exact .inr (.inl ⟨_, e, a, b⟩)
  · obtain ⟨e, _⟩ := okV_txt h h2
    refine .inr (.inr ⟨x.c, ?_, h3⟩)
    obtain ⟨a, b, c⟩ := x
    dsimp only at h2 e ⊢
    rw [h2, e]
def vEq (x y : CValue) : Bool := x.a == y.a && (x.b == y.b && decide (x.c = y.c))
def vLess (x y : CValue) : Bool := decide (cmpV x.a x.b x.c y.a y.b y.c < 0)
def conV (op : Int) (a b : CValue) : CValue :=
  if (a.a == 2 || b.a == 2) = true then nulV else if (op == 12 && (zerB a || zerB b)) = true then numV 0 else if (op == 13 && (othB a || othB b)) = true then numV 1 else if (a.a == 0 || b.a == 0) = true then nulV else bitV (op == 12)
def conC (a b : CValue) : Int := if (a.a == 2 || b.a == 2) = true then 10 else 0
def ariV (op n m : Int) : CValue := if op = 6 then bndV (n + m) else if op = 7 then bndV (n - m) else if op = 8 then bndV (n * m) else if m = 0 then nulV else bndV (n.tdiv m)
def ariC (op n m : Int) : Int := if op = 6 then bndC (n + m) else if op = 7 then bndC (n - m) else if op = 8 then bndC (n * m) else if m = 0 then 11 else bndC (n.tdiv m)
def binV (op : Int) (a b : CValue) : CValue :=
  if (op == 12 || op == 13) = true then conV op a b
  else if (!(op == 10 || op == 11) && (a.a == 2 || b.a == 2)) = true then nulV
  else if (a.a == 0 || b.a == 0) = true then nulV
  else if (a.a == b.a) = false then nulV
  else if (op == 10) = true then bitV (vEq a b)
  else if (op == 11) = true then bitV (vLess a b)
  else ariV op a.b b.b
def binC (op : Int) (a b : CValue) : Int :=
  if (op == 12 || op == 13) = true then conC a b
  else if (!(op == 10 || op == 11) && (a.a == 2 || b.a == 2)) = true then 10
  else if (a.a == 0 || b.a == 0) = true then 0
  else if (a.a == b.a) = false then 10
  else if (op == 10) = true then 0
  else if (op == 11) = true then 0
  else ariC op a.b b.b
set_option maxHeartbeats 8000000 in
theorem impl_connect12 (a b : CValue) (w : World) (ha : okV a = true) (hb : okV b = true) : Calls Try.prog 125 #[.int .i64 12, .agg #[.int .i64 a.a, .int .i64 a.b, .string a.c], .agg #[.int .i64 b.a, .int .i64 b.b, .string b.c]] w (RetV w (conV 12 a b) (conC a b)) := by
  have HTtrue := Lib.hid (fun W => show Calls Try.prog 126 #[.bool true] W fun e w' => e = .returned (.agg #[.int .i64 1, .int .i64 1, .string ByteArray.empty]) ∧ Ext W w' from impl_truth true W)
  have HTfalse := Lib.hid (fun W => show Calls Try.prog 126 #[.bool false] W fun e w' => e = .returned (.agg #[.int .i64 1, .int .i64 0, .string ByteArray.empty]) ∧ Ext W w' from impl_truth false W)
  have HZa := Lib.hid (fun W => impl_isZero a W ha)
  have HZb := Lib.hid (fun W => impl_isZero b W hb)
  have sa := okV_shape ha
  have sb := okV_shape hb
  clear ha hb
  rcases sa with rfl | ⟨n, rfl, -, -⟩ | ⟨s, rfl, -⟩
  · rcases sb with rfl | ⟨m, rfl, -, -⟩ | ⟨t, rfl, -⟩
    · have HA0 := Lib.hid (show ∀ W, Calls Try.prog 157 #[.agg #[.int .i64 0, .int .i64 0, .string ByteArray.empty]] W fun e w' => e = .returned (.bool false) ∧ Ext W w' from HZa.out)
      have HB0 := Lib.hid (show ∀ W, Calls Try.prog 157 #[.agg #[.int .i64 0, .int .i64 0, .string ByteArray.empty]] W fun e w' => e = .returned (.bool false) ∧ Ext W w' from HZb.out)
      have hX := Blk.new ((w.alloc (.cells #[.int .i64 0, .int .i64 0, .string ByteArray.empty] 30)).alloc (.cells #[.int .i64 0, .int .i64 0, .string ByteArray.empty] 30)) 30 [.int .i64 0, .int .i64 0, .string ⟨#[]⟩]
      rw [World.size_alloc, World.size_alloc] at hX
      have HX := Lib.hid hX
      have hA := ((Blk.new w 30 [.int .i64 0, .int .i64 0, .string ByteArray.empty]).alloc (.cells #[.int .i64 0, .int .i64 0, .string ByteArray.empty] 30)).alloc (.cells #[.int .i64 0, .int .i64 0, .string ⟨#[]⟩] 30)
      have HA := Lib.hid hA
      have hB := (Blk.new (w.alloc (.cells #[.int .i64 0, .int .i64 0, .string ByteArray.empty] 30)) 30 [.int .i64 0, .int .i64 0, .string ByteArray.empty]).alloc (.cells #[.int .i64 0, .int .i64 0, .string ⟨#[]⟩] 30)
      rw [World.size_alloc] at hB
      have HB := Lib.hid hB
      clear hX hA hB
      show Calls Try.prog 125 #[.int .i64 12, .agg #[.int .i64 0, .int .i64 0, .string ByteArray.empty], .agg #[.int .i64 0, .int .i64 0, .string ByteArray.empty]] w _
      have HV := Lib.hid (show conV 12 nulV nulV = nulV from rfl)
      have HC := Lib.hid (show conC nulV nulV = 0 from rfl)
      go_enter Try.func125, Try.ntmps125
      go_wp2_with fail
      refine (HA0.out _).mono ?_
      rintro e w1 ⟨rfl, E1⟩
      obtain ⟨r10, r11, r12⟩ := (HX.out.ext E1).cells3
      have f10 := (HX.out.ext E1).frozen 0
      have f11 := (HX.out.ext E1).frozen 1
      have f12 := (HX.out.ext E1).frozen 2
      obtain ⟨a10, a11, a12⟩ := (HA.out.ext E1).cells3
      obtain ⟨b10, b11, b12⟩ := (HB.out.ext E1).cells3
      go_wp2_with fail
      refine (HB0.out _).mono ?_
      rintro e w2 ⟨rfl, E2⟩
      obtain ⟨r20, r21, r22⟩ := (HX.out.ext (E1.trans E2)).cells3
      have f20 := (HX.out.ext (E1.trans E2)).frozen 0
      have f21 := (HX.out.ext (E1.trans E2)).frozen 1
      have f22 := (HX.out.ext (E1.trans E2)).frozen 2
      obtain ⟨a20, a21, a22⟩ := (HA.out.ext (E1.trans E2)).cells3
      obtain ⟨b20, b21, b22⟩ := (HB.out.ext (E1.trans E2)).cells3
      go_wp2_with fail
      refine bodyPost_ret (v := .tuple #[.agg #[.int .i64 0, .int .i64 0, .string ByteArray.empty], .int .i64 0]) (by simp [results, Try.results125, go_sem, r20, r21, r22]; try rfl) rfl ?_
      unfold RetV
      rw [HV.out, HC.out]
      exact ⟨rfl, (by repeat (first | exact Ext.refl _ | assumption | refine Ext.alloc ?_ _ | refine Ext.drewN ?_ _ | refine Ext.drew ?_ | refine Ext.set ?_ (by dsimp only; omega) _ | refine Ext.trans ?_ (by assumption)))⟩
    · have HA0 := Lib.hid (show ∀ W, Calls Try.prog 157 #[.agg #[.int .i64 0, .int .i64 0, .string ByteArray.empty]] W fun e w' => e = .returned (.bool false) ∧ Ext W w' from HZa.out)
      have HB0 := Lib.hid (show ∀ W, Calls Try.prog 157 #[.agg #[.int .i64 1, .int .i64 m, .string ByteArray.empty]] W fun e w' => e = .returned (.bool (zerB (numV m))) ∧ Ext W w' from HZb.out)
      have hX := Blk.new ((w.alloc (.cells #[.int .i64 0, .int .i64 0, .string ByteArray.empty] 30)).alloc (.cells #[.int .i64 1, .int .i64 m, .string ByteArray.empty] 30)) 30 [.int .i64 0, .int .i64 0, .string ⟨#[]⟩]
      rw [World.size_alloc, World.size_alloc] at hX
      have HX := Lib.hid hX
      have hA := ((Blk.new w 30 [.int .i64 0, .int .i64 0, .string ByteArray.empty]).alloc (.cells #[.int .i64 1, .int .i64 m, .string ByteArray.empty] 30)).alloc (.cells #[.int .i64 0, .int .i64 0, .string ⟨#[]⟩] 30)
      have HA := Lib.hid hA
      have hB := (Blk.new (w.alloc (.cells #[.int .i64 0, .int .i64 0, .string ByteArray.empty] 30)) 30 [.int .i64 1, .int .i64 m, .string ByteArray.empty]).alloc (.cells #[.int .i64 0, .int .i64 0, .string ⟨#[]⟩] 30)
      rw [World.size_alloc] at hB
      have HB := Lib.hid hB
      clear hX hA hB
      show Calls Try.prog 125 #[.int .i64 12, .agg #[.int .i64 0, .int .i64 0, .string ByteArray.empty], .agg #[.int .i64 1, .int .i64 m, .string ByteArray.empty]] w _
      rcases gb : (m == 0) with _ | _
      · have HB1 := Lib.hid (show ∀ W, Calls Try.prog 157 #[.agg #[.int .i64 1, .int .i64 m, .string ByteArray.empty]] W fun e w' => e = .returned (.bool false) ∧ Ext W w' from by have h := HB0.out; rw [show zerB (numV m) = false by show (true && (m == 0)) = _; rw [gb]; rfl] at h; exact h)
        have HV := Lib.hid (show conV 12 nulV (numV m) = nulV from by show (if (false || (m == 0)) = true then numV 0 else nulV) = _; rw [gb]; rfl)
        have HC := Lib.hid (show conC nulV (numV m) = 0 from rfl)
        go_enter Try.func125, Try.ntmps125
        go_wp2_with fail
        refine (HA0.out _).mono ?_
        rintro e w1 ⟨rfl, E1⟩
        obtain ⟨r10, r11, r12⟩ := (HX.out.ext E1).cells3
        have f10 := (HX.out.ext E1).frozen 0
        have f11 := (HX.out.ext E1).frozen 1
        have f12 := (HX.out.ext E1).frozen 2
        obtain ⟨a10, a11, a12⟩ := (HA.out.ext E1).cells3
        obtain ⟨b10, b11, b12⟩ := (HB.out.ext E1).cells3
        go_wp2_with fail
        refine (HB1.out _).mono ?_
        rintro e w2 ⟨rfl, E2⟩
        obtain ⟨r20, r21, r22⟩ := (HX.out.ext (E1.trans E2)).cells3
        have f20 := (HX.out.ext (E1.trans E2)).frozen 0
        have f21 := (HX.out.ext (E1.trans E2)).frozen 1
        have f22 := (HX.out.ext (E1.trans E2)).frozen 2
        obtain ⟨a20, a21, a22⟩ := (HA.out.ext (E1.trans E2)).cells3
        obtain ⟨b20, b21, b22⟩ := (HB.out.ext (E1.trans E2)).cells3
        go_wp2_with fail
        refine bodyPost_ret (v := .tuple #[.agg #[.int .i64 0, .int .i64 0, .string ByteArray.empty], .int .i64 0]) (by simp [results, Try.results125, go_sem, r20, r21, r22]; try rfl) rfl ?_
        unfold RetV
        rw [HV.out, HC.out]
        exact ⟨rfl, (by repeat (first | exact Ext.refl _ | assumption | refine Ext.alloc ?_ _ | refine Ext.drewN ?_ _ | refine Ext.drew ?_ | refine Ext.set ?_ (by dsimp only; omega) _ | refine Ext.trans ?_ (by assumption)))⟩
      · have HB1 := Lib.hid (show ∀ W, Calls Try.prog 157 #[.agg #[.int .i64 1, .int .i64 m, .string ByteArray.empty]] W fun e w' => e = .returned (.bool true) ∧ Ext W w' from by have h := HB0.out; rw [show zerB (numV m) = true by show (true && (m == 0)) = _; rw [gb]; rfl] at h; exact h)
        have HV := Lib.hid (show conV 12 nulV (numV m) = numV 0 from by show (if (false || (m == 0)) = true then numV 0 else _) = _; rw [gb]; rfl)
        have HC := Lib.hid (show conC nulV (numV m) = 0 from rfl)
        go_enter Try.func125, Try.ntmps125
        go_wp2_with fail
        refine (HA0.out _).mono ?_
        rintro e w1 ⟨rfl, E1⟩
        obtain ⟨r10, r11, r12⟩ := (HX.out.ext E1).cells3
        have f10 := (HX.out.ext E1).frozen 0
        have f11 := (HX.out.ext E1).frozen 1
        have f12 := (HX.out.ext E1).frozen 2
        obtain ⟨a10, a11, a12⟩ := (HA.out.ext E1).cells3
        obtain ⟨b10, b11, b12⟩ := (HB.out.ext E1).cells3
        go_wp2_with fail
        refine (HB1.out _).mono ?_
        rintro e w2 ⟨rfl, E2⟩
        obtain ⟨r20, r21, r22⟩ := (HX.out.ext (E1.trans E2)).cells3
        have f20 := (HX.out.ext (E1.trans E2)).frozen 0
        have f21 := (HX.out.ext (E1.trans E2)).frozen 1
        have f22 := (HX.out.ext (E1.trans E2)).frozen 2
        obtain ⟨a20, a21, a22⟩ := (HA.out.ext (E1.trans E2)).cells3
        obtain ⟨b20, b21, b22⟩ := (HB.out.ext (E1.trans E2)).cells3
        go_wp2_with fail
        refine (HTfalse.out _).mono ?_
        rintro e w3 ⟨rfl, E3⟩
        obtain ⟨r30, r31, r32⟩ := (HX.out.ext ((E1.trans E2).trans E3)).cells3
        have f30 := (HX.out.ext ((E1.trans E2).trans E3)).frozen 0
        have f31 := (HX.out.ext ((E1.trans E2).trans E3)).frozen 1
        have f32 := (HX.out.ext ((E1.trans E2).trans E3)).frozen 2
        go_wp2_with fail
        refine bodyPost_ret (v := .tuple #[.agg #[.int .i64 1, .int .i64 0, .string ByteArray.empty], .int .i64 0]) (by simp [results, Try.results125, go_sem, r30, r31, r32]; try rfl) rfl ?_
        unfold RetV
        rw [HV.out, HC.out]
        exact ⟨rfl, (by repeat (first | exact Ext.refl _ | assumption | refine Ext.alloc ?_ _ | refine Ext.drewN ?_ _ | refine Ext.drew ?_ | refine Ext.set ?_ (by dsimp only; omega) _ | refine Ext.trans ?_ (by assumption)))⟩
    · have HA0 := Lib.hid (show ∀ W, Calls Try.prog 157 #[.agg #[.int .i64 0, .int .i64 0, .string ByteArray.empty]] W fun e w' => e = .returned (.bool false) ∧ Ext W w' from HZa.out)
      have HB0 := Lib.hid (show ∀ W, Calls Try.prog 157 #[.agg #[.int .i64 2, .int .i64 0, .string t]] W fun e w' => e = .returned (.bool false) ∧ Ext W w' from HZb.out)
      have hX := Blk.new ((w.alloc (.cells #[.int .i64 0, .int .i64 0, .string ByteArray.empty] 30)).alloc (.cells #[.int .i64 2, .int .i64 0, .string t] 30)) 30 [.int .i64 0, .int .i64 0, .string ⟨#[]⟩]
      rw [World.size_alloc, World.size_alloc] at hX
      have HX := Lib.hid hX
      have hA := ((Blk.new w 30 [.int .i64 0, .int .i64 0, .string ByteArray.empty]).alloc (.cells #[.int .i64 2, .int .i64 0, .string t] 30)).alloc (.cells #[.int .i64 0, .int .i64 0, .string ⟨#[]⟩] 30)
      have HA := Lib.hid hA
      have hB := (Blk.new (w.alloc (.cells #[.int .i64 0, .int .i64 0, .string ByteArray.empty] 30)) 30 [.int .i64 2, .int .i64 0, .string t]).alloc (.cells #[.int .i64 0, .int .i64 0, .string ⟨#[]⟩] 30)
      rw [World.size_alloc] at hB
      have HB := Lib.hid hB
      clear hX hA hB
      show Calls Try.prog 125 #[.int .i64 12, .agg #[.int .i64 0, .int .i64 0, .string ByteArray.empty], .agg #[.int .i64 2, .int .i64 0, .string t]] w _
      have HV := Lib.hid (show conV 12 nulV ⟨2, 0, t⟩ = nulV from rfl)
      have HC := Lib.hid (show conC nulV ⟨2, 0, t⟩ = 10 from rfl)
      go_enter Try.func125, Try.ntmps125
      go_wp2_with fail
      refine bodyPost_ret (v := .tuple #[.agg #[.int .i64 0, .int .i64 0, .string ByteArray.empty], .int .i64 10]) (by simp [results, Try.results125, go_sem]; try rfl) rfl ?_
      unfold RetV
      rw [HV.out, HC.out]
      exact ⟨rfl, (by repeat (first | exact Ext.refl _ | assumption | refine Ext.alloc ?_ _ | refine Ext.drewN ?_ _ | refine Ext.drew ?_ | refine Ext.set ?_ (by dsimp only; omega) _ | refine Ext.trans ?_ (by assumption)))⟩
  · rcases sb with rfl | ⟨m, rfl, -, -⟩ | ⟨t, rfl, -⟩
    · have HA0 := Lib.hid (show ∀ W, Calls Try.prog 157 #[.agg #[.int .i64 1, .int .i64 n, .string ByteArray.empty]] W fun e w' => e = .returned (.bool (zerB (numV n))) ∧ Ext W w' from HZa.out)
      have HB0 := Lib.hid (show ∀ W, Calls Try.prog 157 #[.agg #[.int .i64 0, .int .i64 0, .string ByteArray.empty]] W fun e w' => e = .returned (.bool false) ∧ Ext W w' from HZb.out)
      have hX := Blk.new ((w.alloc (.cells #[.int .i64 1, .int .i64 n, .string ByteArray.empty] 30)).alloc (.cells #[.int .i64 0, .int .i64 0, .string ByteArray.empty] 30)) 30 [.int .i64 0, .int .i64 0, .string ⟨#[]⟩]
      rw [World.size_alloc, World.size_alloc] at hX
      have HX := Lib.hid hX
      have hA := ((Blk.new w 30 [.int .i64 1, .int .i64 n, .string ByteArray.empty]).alloc (.cells #[.int .i64 0, .int .i64 0, .string ByteArray.empty] 30)).alloc (.cells #[.int .i64 0, .int .i64 0, .string ⟨#[]⟩] 30)
      have HA := Lib.hid hA
      have hB := (Blk.new (w.alloc (.cells #[.int .i64 1, .int .i64 n, .string ByteArray.empty] 30)) 30 [.int .i64 0, .int .i64 0, .string ByteArray.empty]).alloc (.cells #[.int .i64 0, .int .i64 0, .string ⟨#[]⟩] 30)
      rw [World.size_alloc] at hB
      have HB := Lib.hid hB
      clear hX hA hB
      show Calls Try.prog 125 #[.int .i64 12, .agg #[.int .i64 1, .int .i64 n, .string ByteArray.empty], .agg #[.int .i64 0, .int .i64 0, .string ByteArray.empty]] w _
      rcases ga : (n == 0) with _ | _
      · have HA1 := Lib.hid (show ∀ W, Calls Try.prog 157 #[.agg #[.int .i64 1, .int .i64 n, .string ByteArray.empty]] W fun e w' => e = .returned (.bool false) ∧ Ext W w' from by have h := HA0.out; rw [show zerB (numV n) = false by show (true && (n == 0)) = _; rw [ga]; rfl] at h; exact h)
        have HV := Lib.hid (show conV 12 (numV n) nulV = nulV from by show (if ((n == 0) || false) = true then numV 0 else nulV) = _; rw [ga]; rfl)
        have HC := Lib.hid (show conC (numV n) nulV = 0 from rfl)
        go_enter Try.func125, Try.ntmps125
        go_wp2_with fail
        refine (HA1.out _).mono ?_
        rintro e w1 ⟨rfl, E1⟩
        obtain ⟨r10, r11, r12⟩ := (HX.out.ext E1).cells3
        have f10 := (HX.out.ext E1).frozen 0
        have f11 := (HX.out.ext E1).frozen 1
        have f12 := (HX.out.ext E1).frozen 2
        obtain ⟨a10, a11, a12⟩ := (HA.out.ext E1).cells3
        obtain ⟨b10, b11, b12⟩ := (HB.out.ext E1).cells3
        go_wp2_with fail
        refine (HB0.out _).mono ?_
        rintro e w2 ⟨rfl, E2⟩
        obtain ⟨r20, r21, r22⟩ := (HX.out.ext (E1.trans E2)).cells3
        have f20 := (HX.out.ext (E1.trans E2)).frozen 0
        have f21 := (HX.out.ext (E1.trans E2)).frozen 1
        have f22 := (HX.out.ext (E1.trans E2)).frozen 2
        obtain ⟨a20, a21, a22⟩ := (HA.out.ext (E1.trans E2)).cells3
        obtain ⟨b20, b21, b22⟩ := (HB.out.ext (E1.trans E2)).cells3
        go_wp2_with fail
        refine bodyPost_ret (v := .tuple #[.agg #[.int .i64 0, .int .i64 0, .string ByteArray.empty], .int .i64 0]) (by simp [results, Try.results125, go_sem, r20, r21, r22]; try rfl) rfl ?_
        unfold RetV
        rw [HV.out, HC.out]
        exact ⟨rfl, (by repeat (first | exact Ext.refl _ | assumption | refine Ext.alloc ?_ _ | refine Ext.drewN ?_ _ | refine Ext.drew ?_ | refine Ext.set ?_ (by dsimp only; omega) _ | refine Ext.trans ?_ (by assumption)))⟩
      · have HA1 := Lib.hid (show ∀ W, Calls Try.prog 157 #[.agg #[.int .i64 1, .int .i64 n, .string ByteArray.empty]] W fun e w' => e = .returned (.bool true) ∧ Ext W w' from by have h := HA0.out; rw [show zerB (numV n) = true by show (true && (n == 0)) = _; rw [ga]; rfl] at h; exact h)
        have HV := Lib.hid (show conV 12 (numV n) nulV = numV 0 from by show (if ((n == 0) || zerB nulV) = true then numV 0 else _) = _; rw [ga]; rfl)
        have HC := Lib.hid (show conC (numV n) nulV = 0 from rfl)
        go_enter Try.func125, Try.ntmps125
        go_wp2_with fail
        refine (HA1.out _).mono ?_
        rintro e w1 ⟨rfl, E1⟩
        obtain ⟨r10, r11, r12⟩ := (HX.out.ext E1).cells3
        have f10 := (HX.out.ext E1).frozen 0
        have f11 := (HX.out.ext E1).frozen 1
        have f12 := (HX.out.ext E1).frozen 2
        obtain ⟨a10, a11, a12⟩ := (HA.out.ext E1).cells3
        obtain ⟨b10, b11, b12⟩ := (HB.out.ext E1).cells3
        go_wp2_with fail
        refine (HTfalse.out _).mono ?_
        rintro e w3 ⟨rfl, E3⟩
        obtain ⟨r30, r31, r32⟩ := (HX.out.ext (E1.trans E3)).cells3
        have f30 := (HX.out.ext (E1.trans E3)).frozen 0
        have f31 := (HX.out.ext (E1.trans E3)).frozen 1
        have f32 := (HX.out.ext (E1.trans E3)).frozen 2
        go_wp2_with fail
        refine bodyPost_ret (v := .tuple #[.agg #[.int .i64 1, .int .i64 0, .string ByteArray.empty], .int .i64 0]) (by simp [results, Try.results125, go_sem, r30, r31, r32]; try rfl) rfl ?_
        unfold RetV
        rw [HV.out, HC.out]
        exact ⟨rfl, (by repeat (first | exact Ext.refl _ | assumption | refine Ext.alloc ?_ _ | refine Ext.drewN ?_ _ | refine Ext.drew ?_ | refine Ext.set ?_ (by dsimp only; omega) _ | refine Ext.trans ?_ (by assumption)))⟩
    · have HA0 := Lib.hid (show ∀ W, Calls Try.prog 157 #[.agg #[.int .i64 1, .int .i64 n, .string ByteArray.empty]] W fun e w' => e = .returned (.bool (zerB (numV n))) ∧ Ext W w' from HZa.out)
      have HB0 := Lib.hid (show ∀ W, Calls Try.prog 157 #[.agg #[.int .i64 1, .int .i64 m, .string ByteArray.empty]] W fun e w' => e = .returned (.bool (zerB (numV m))) ∧ Ext W w' from HZb.out)
      have hX := Blk.new ((w.alloc (.cells #[.int .i64 1, .int .i64 n, .string ByteArray.empty] 30)).alloc (.cells #[.int .i64 1, .int .i64 m, .string ByteArray.empty] 30)) 30 [.int .i64 0, .int .i64 0, .string ⟨#[]⟩]
      rw [World.size_alloc, World.size_alloc] at hX
      have HX := Lib.hid hX
      have hA := ((Blk.new w 30 [.int .i64 1, .int .i64 n, .string ByteArray.empty]).alloc (.cells #[.int .i64 1, .int .i64 m, .string ByteArray.empty] 30)).alloc (.cells #[.int .i64 0, .int .i64 0, .string ⟨#[]⟩] 30)
      have HA := Lib.hid hA
      have hB := (Blk.new (w.alloc (.cells #[.int .i64 1, .int .i64 n, .string ByteArray.empty] 30)) 30 [.int .i64 1, .int .i64 m, .string ByteArray.empty]).alloc (.cells #[.int .i64 0, .int .i64 0, .string ⟨#[]⟩] 30)
      rw [World.size_alloc] at hB
      have HB := Lib.hid hB
      clear hX hA hB
      show Calls Try.prog 125 #[.int .i64 12, .agg #[.int .i64 1, .int .i64 n, .string ByteArray.empty], .agg #[.int .i64 1, .int .i64 m, .string ByteArray.empty]] w _
      rcases ga : (n == 0) with _ | _
      · have HA1 := Lib.hid (show ∀ W, Calls Try.prog 157 #[.agg #[.int .i64 1, .int .i64 n, .string ByteArray.empty]] W fun e w' => e = .returned (.bool false) ∧ Ext W w' from by have h := HA0.out; rw [show zerB (numV n) = false by show (true && (n == 0)) = _; rw [ga]; rfl] at h; exact h)
        rcases gb : (m == 0) with _ | _
        · have HB1 := Lib.hid (show ∀ W, Calls Try.prog 157 #[.agg #[.int .i64 1, .int .i64 m, .string ByteArray.empty]] W fun e w' => e = .returned (.bool false) ∧ Ext W w' from by have h := HB0.out; rw [show zerB (numV m) = false by show (true && (m == 0)) = _; rw [gb]; rfl] at h; exact h)
          have HV := Lib.hid (show conV 12 (numV n) (numV m) = numV 1 from by show (if ((n == 0) || (m == 0)) = true then numV 0 else numV 1) = _; rw [ga, gb]; rfl)
          have HC := Lib.hid (show conC (numV n) (numV m) = 0 from rfl)
          go_enter Try.func125, Try.ntmps125
          go_wp2_with fail
          refine (HA1.out _).mono ?_
          rintro e w1 ⟨rfl, E1⟩
          obtain ⟨r10, r11, r12⟩ := (HX.out.ext E1).cells3
          have f10 := (HX.out.ext E1).frozen 0
          have f11 := (HX.out.ext E1).frozen 1
          have f12 := (HX.out.ext E1).frozen 2
          obtain ⟨a10, a11, a12⟩ := (HA.out.ext E1).cells3
          obtain ⟨b10, b11, b12⟩ := (HB.out.ext E1).cells3
          go_wp2_with fail
          refine (HB1.out _).mono ?_
          rintro e w2 ⟨rfl, E2⟩
          obtain ⟨r20, r21, r22⟩ := (HX.out.ext (E1.trans E2)).cells3
          have f20 := (HX.out.ext (E1.trans E2)).frozen 0
          have f21 := (HX.out.ext (E1.trans E2)).frozen 1
          have f22 := (HX.out.ext (E1.trans E2)).frozen 2
          obtain ⟨a20, a21, a22⟩ := (HA.out.ext (E1.trans E2)).cells3
          obtain ⟨b20, b21, b22⟩ := (HB.out.ext (E1.trans E2)).cells3
          go_wp2_with fail
          refine (HTtrue.out _).mono ?_
          rintro e w3 ⟨rfl, E3⟩
          obtain ⟨r30, r31, r32⟩ := (HX.out.ext ((E1.trans E2).trans E3)).cells3
          have f30 := (HX.out.ext ((E1.trans E2).trans E3)).frozen 0
          have f31 := (HX.out.ext ((E1.trans E2).trans E3)).frozen 1
          have f32 := (HX.out.ext ((E1.trans E2).trans E3)).frozen 2
          go_wp2_with fail
          refine bodyPost_ret (v := .tuple #[.agg #[.int .i64 1, .int .i64 1, .string ByteArray.empty], .int .i64 0]) (by simp [results, Try.results125, go_sem, r30, r31, r32]; try rfl) rfl ?_
          unfold RetV
          rw [HV.out, HC.out]
          exact ⟨rfl, (by repeat (first | exact Ext.refl _ | assumption | refine Ext.alloc ?_ _ | refine Ext.drewN ?_ _ | refine Ext.drew ?_ | refine Ext.set ?_ (by dsimp only; omega) _ | refine Ext.trans ?_ (by assumption)))⟩
        · have HB1 := Lib.hid (show ∀ W, Calls Try.prog 157 #[.agg #[.int .i64 1, .int .i64 m, .string ByteArray.empty]] W fun e w' => e = .returned (.bool true) ∧ Ext W w' from by have h := HB0.out; rw [show zerB (numV m) = true by show (true && (m == 0)) = _; rw [gb]; rfl] at h; exact h)
          have HV := Lib.hid (show conV 12 (numV n) (numV m) = numV 0 from by show (if ((n == 0) || (m == 0)) = true then numV 0 else _) = _; rw [ga, gb]; rfl)
          have HC := Lib.hid (show conC (numV n) (numV m) = 0 from rfl)
          go_enter Try.func125, Try.ntmps125
          go_wp2_with fail
          refine (HA1.out _).mono ?_
          rintro e w1 ⟨rfl, E1⟩
          obtain ⟨r10, r11, r12⟩ := (HX.out.ext E1).cells3
          have f10 := (HX.out.ext E1).frozen 0
          have f11 := (HX.out.ext E1).frozen 1
          have f12 := (HX.out.ext E1).frozen 2
          obtain ⟨a10, a11, a12⟩ := (HA.out.ext E1).cells3
          obtain ⟨b10, b11, b12⟩ := (HB.out.ext E1).cells3
          go_wp2_with fail
          refine (HB1.out _).mono ?_
          rintro e w2 ⟨rfl, E2⟩
          obtain ⟨r20, r21, r22⟩ := (HX.out.ext (E1.trans E2)).cells3
          have f20 := (HX.out.ext (E1.trans E2)).frozen 0
          have f21 := (HX.out.ext (E1.trans E2)).frozen 1
          have f22 := (HX.out.ext (E1.trans E2)).frozen 2
          obtain ⟨a20, a21, a22⟩ := (HA.out.ext (E1.trans E2)).cells3
          obtain ⟨b20, b21, b22⟩ := (HB.out.ext (E1.trans E2)).cells3
          go_wp2_with fail
          refine (HTfalse.out _).mono ?_
          rintro e w3 ⟨rfl, E3⟩
          obtain ⟨r30, r31, r32⟩ := (HX.out.ext ((E1.trans E2).trans E3)).cells3
          have f30 := (HX.out.ext ((E1.trans E2).trans E3)).frozen 0
          have f31 := (HX.out.ext ((E1.trans E2).trans E3)).frozen 1
          have f32 := (HX.out.ext ((E1.trans E2).trans E3)).frozen 2
          go_wp2_with fail
          refine bodyPost_ret (v := .tuple #[.agg #[.int .i64 1, .int .i64 0, .string ByteArray.empty], .int .i64 0]) (by simp [results, Try.results125, go_sem, r30, r31, r32]; try rfl) rfl ?_
          unfold RetV
          rw [HV.out, HC.out]
          exact ⟨rfl, (by repeat (first | exact Ext.refl _ | assumption | refine Ext.alloc ?_ _ | refine Ext.drewN ?_ _ | refine Ext.drew ?_ | refine Ext.set ?_ (by dsimp only; omega) _ | refine Ext.trans ?_ (by assumption)))⟩
      · have HA1 := Lib.hid (show ∀ W, Calls Try.prog 157 #[.agg #[.int .i64 1, .int .i64 n, .string ByteArray.empty]] W fun e w' => e = .returned (.bool true) ∧ Ext W w' from by have h := HA0.out; rw [show zerB (numV n) = true by show (true && (n == 0)) = _; rw [ga]; rfl] at h; exact h)
        have HV := Lib.hid (show conV 12 (numV n) (numV m) = numV 0 from by show (if ((n == 0) || zerB (numV m)) = true then numV 0 else _) = _; rw [ga]; rfl)
        have HC := Lib.hid (show conC (numV n) (numV m) = 0 from rfl)
        go_enter Try.func125, Try.ntmps125
        go_wp2_with fail
        refine (HA1.out _).mono ?_
        rintro e w1 ⟨rfl, E1⟩
        obtain ⟨r10, r11, r12⟩ := (HX.out.ext E1).cells3
        have f10 := (HX.out.ext E1).frozen 0
        have f11 := (HX.out.ext E1).frozen 1
        have f12 := (HX.out.ext E1).frozen 2
        obtain ⟨a10, a11, a12⟩ := (HA.out.ext E1).cells3
        obtain ⟨b10, b11, b12⟩ := (HB.out.ext E1).cells3
        go_wp2_with fail
        refine (HTfalse.out _).mono ?_
        rintro e w3 ⟨rfl, E3⟩
        obtain ⟨r30, r31, r32⟩ := (HX.out.ext (E1.trans E3)).cells3
        have f30 := (HX.out.ext (E1.trans E3)).frozen 0
        have f31 := (HX.out.ext (E1.trans E3)).frozen 1
        have f32 := (HX.out.ext (E1.trans E3)).frozen 2
        go_wp2_with fail
        refine bodyPost_ret (v := .tuple #[.agg #[.int .i64 1, .int .i64 0, .string ByteArray.empty], .int .i64 0]) (by simp [results, Try.results125, go_sem, r30, r31, r32]; try rfl) rfl ?_
        unfold RetV
        rw [HV.out, HC.out]
        exact ⟨rfl, (by repeat (first | exact Ext.refl _ | assumption | refine Ext.alloc ?_ _ | refine Ext.drewN ?_ _ | refine Ext.drew ?_ | refine Ext.set ?_ (by dsimp only; omega) _ | refine Ext.trans ?_ (by assumption)))⟩
    · have HA0 := Lib.hid (show ∀ W, Calls Try.prog 157 #[.agg #[.int .i64 1, .int .i64 n, .string ByteArray.empty]] W fun e w' => e = .returned (.bool (zerB (numV n))) ∧ Ext W w' from HZa.out)
      have HB0 := Lib.hid (show ∀ W, Calls Try.prog 157 #[.agg #[.int .i64 2, .int .i64 0, .string t]] W fun e w' => e = .returned (.bool false) ∧ Ext W w' from HZb.out)
      have hX := Blk.new ((w.alloc (.cells #[.int .i64 1, .int .i64 n, .string ByteArray.empty] 30)).alloc (.cells #[.int .i64 2, .int .i64 0, .string t] 30)) 30 [.int .i64 0, .int .i64 0, .string ⟨#[]⟩]
      rw [World.size_alloc, World.size_alloc] at hX
      have HX := Lib.hid hX
      have hA := ((Blk.new w 30 [.int .i64 1, .int .i64 n, .string ByteArray.empty]).alloc (.cells #[.int .i64 2, .int .i64 0, .string t] 30)).alloc (.cells #[.int .i64 0, .int .i64 0, .string ⟨#[]⟩] 30)
      have HA := Lib.hid hA
      have hB := (Blk.new (w.alloc (.cells #[.int .i64 1, .int .i64 n, .string ByteArray.empty] 30)) 30 [.int .i64 2, .int .i64 0, .string t]).alloc (.cells #[.int .i64 0, .int .i64 0, .string ⟨#[]⟩] 30)
      rw [World.size_alloc] at hB
      have HB := Lib.hid hB
      clear hX hA hB
      show Calls Try.prog 125 #[.int .i64 12, .agg #[.int .i64 1, .int .i64 n, .string ByteArray.empty], .agg #[.int .i64 2, .int .i64 0, .string t]] w _
      have HV := Lib.hid (show conV 12 (numV n) ⟨2, 0, t⟩ = nulV from rfl)
      have HC := Lib.hid (show conC (numV n) ⟨2, 0, t⟩ = 10 from rfl)
      go_enter Try.func125, Try.ntmps125
      go_wp2_with fail
      refine bodyPost_ret (v := .tuple #[.agg #[.int .i64 0, .int .i64 0, .string ByteArray.empty], .int .i64 10]) (by simp [results, Try.results125, go_sem]; try rfl) rfl ?_
      unfold RetV
      rw [HV.out, HC.out]
      exact ⟨rfl, (by repeat (first | exact Ext.refl _ | assumption | refine Ext.alloc ?_ _ | refine Ext.drewN ?_ _ | refine Ext.drew ?_ | refine Ext.set ?_ (by dsimp only; omega) _ | refine Ext.trans ?_ (by assumption)))⟩
  · rcases sb with rfl | ⟨m, rfl, -, -⟩ | ⟨t, rfl, -⟩
    · have HA0 := Lib.hid (show ∀ W, Calls Try.prog 157 #[.agg #[.int .i64 2, .int .i64 0, .string s]] W fun e w' => e = .returned (.bool false) ∧ Ext W w' from HZa.out)
      have HB0 := Lib.hid (show ∀ W, Calls Try.prog 157 #[.agg #[.int .i64 0, .int .i64 0, .string ByteArray.empty]] W fun e w' => e = .returned (.bool false) ∧ Ext W w' from HZb.out)
      have hX := Blk.new ((w.alloc (.cells #[.int .i64 2, .int .i64 0, .string s] 30)).alloc (.cells #[.int .i64 0, .int .i64 0, .string ByteArray.empty] 30)) 30 [.int .i64 0, .int .i64 0, .string ⟨#[]⟩]
      rw [World.size_alloc, World.size_alloc] at hX
      have HX := Lib.hid hX
      have hA := ((Blk.new w 30 [.int .i64 2, .int .i64 0, .string s]).alloc (.cells #[.int .i64 0, .int .i64 0, .string ByteArray.empty] 30)).alloc (.cells #[.int .i64 0, .int .i64 0, .string ⟨#[]⟩] 30)
      have HA := Lib.hid hA
      have hB := (Blk.new (w.alloc (.cells #[.int .i64 2, .int .i64 0, .string s] 30)) 30 [.int .i64 0, .int .i64 0, .string ByteArray.empty]).alloc (.cells #[.int .i64 0, .int .i64 0, .string ⟨#[]⟩] 30)
      rw [World.size_alloc] at hB
      have HB := Lib.hid hB
      clear hX hA hB
      show Calls Try.prog 125 #[.int .i64 12, .agg #[.int .i64 2, .int .i64 0, .string s], .agg #[.int .i64 0, .int .i64 0, .string ByteArray.empty]] w _
      have HV := Lib.hid (show conV 12 ⟨2, 0, s⟩ nulV = nulV from rfl)
      have HC := Lib.hid (show conC ⟨2, 0, s⟩ nulV = 10 from rfl)
      go_enter Try.func125, Try.ntmps125
      go_wp2_with fail
      refine bodyPost_ret (v := .tuple #[.agg #[.int .i64 0, .int .i64 0, .string ByteArray.empty], .int .i64 10]) (by simp [results, Try.results125, go_sem]; try rfl) rfl ?_
      unfold RetV
      rw [HV.out, HC.out]
      exact ⟨rfl, (by repeat (first | exact Ext.refl _ | assumption | refine Ext.alloc ?_ _ | refine Ext.drewN ?_ _ | refine Ext.drew ?_ | refine Ext.set ?_ (by dsimp only; omega) _ | refine Ext.trans ?_ (by assumption)))⟩
    · have HA0 := Lib.hid (show ∀ W, Calls Try.prog 157 #[.agg #[.int .i64 2, .int .i64 0, .string s]] W fun e w' => e = .returned (.bool false) ∧ Ext W w' from HZa.out)
      have HB0 := Lib.hid (show ∀ W, Calls Try.prog 157 #[.agg #[.int .i64 1, .int .i64 m, .string ByteArray.empty]] W fun e w' => e = .returned (.bool (zerB (numV m))) ∧ Ext W w' from HZb.out)
      have hX := Blk.new ((w.alloc (.cells #[.int .i64 2, .int .i64 0, .string s] 30)).alloc (.cells #[.int .i64 1, .int .i64 m, .string ByteArray.empty] 30)) 30 [.int .i64 0, .int .i64 0, .string ⟨#[]⟩]
      rw [World.size_alloc, World.size_alloc] at hX
      have HX := Lib.hid hX
      have hA := ((Blk.new w 30 [.int .i64 2, .int .i64 0, .string s]).alloc (.cells #[.int .i64 1, .int .i64 m, .string ByteArray.empty] 30)).alloc (.cells #[.int .i64 0, .int .i64 0, .string ⟨#[]⟩] 30)
      have HA := Lib.hid hA
      have hB := (Blk.new (w.alloc (.cells #[.int .i64 2, .int .i64 0, .string s] 30)) 30 [.int .i64 1, .int .i64 m, .string ByteArray.empty]).alloc (.cells #[.int .i64 0, .int .i64 0, .string ⟨#[]⟩] 30)
      rw [World.size_alloc] at hB
      have HB := Lib.hid hB
      clear hX hA hB
      show Calls Try.prog 125 #[.int .i64 12, .agg #[.int .i64 2, .int .i64 0, .string s], .agg #[.int .i64 1, .int .i64 m, .string ByteArray.empty]] w _
      have HV := Lib.hid (show conV 12 ⟨2, 0, s⟩ (numV m) = nulV from rfl)
      have HC := Lib.hid (show conC ⟨2, 0, s⟩ (numV m) = 10 from rfl)
      go_enter Try.func125, Try.ntmps125
      go_wp2_with fail
      refine bodyPost_ret (v := .tuple #[.agg #[.int .i64 0, .int .i64 0, .string ByteArray.empty], .int .i64 10]) (by simp [results, Try.results125, go_sem]; try rfl) rfl ?_
      unfold RetV
      rw [HV.out, HC.out]
      exact ⟨rfl, (by repeat (first | exact Ext.refl _ | assumption | refine Ext.alloc ?_ _ | refine Ext.drewN ?_ _ | refine Ext.drew ?_ | refine Ext.set ?_ (by dsimp only; omega) _ | refine Ext.trans ?_ (by assumption)))⟩
    · have HA0 := Lib.hid (show ∀ W, Calls Try.prog 157 #[.agg #[.int .i64 2, .int .i64 0, .string s]] W fun e w' => e = .returned (.bool false) ∧ Ext W w' from HZa.out)
      have HB0 := Lib.hid (show ∀ W, Calls Try.prog 157 #[.agg #[.int .i64 2, .int .i64 0, .string t]] W fun e w' => e = .returned (.bool false) ∧ Ext W w' from HZb.out)
      have hX := Blk.new ((w.alloc (.cells #[.int .i64 2, .int .i64 0, .string s] 30)).alloc (.cells #[.int .i64 2, .int .i64 0, .string t] 30)) 30 [.int .i64 0, .int .i64 0, .string ⟨#[]⟩]
      rw [World.size_alloc, World.size_alloc] at hX
      have HX := Lib.hid hX
      have hA := ((Blk.new w 30 [.int .i64 2, .int .i64 0, .string s]).alloc (.cells #[.int .i64 2, .int .i64 0, .string t] 30)).alloc (.cells #[.int .i64 0, .int .i64 0, .string ⟨#[]⟩] 30)
      have HA := Lib.hid hA
      have hB := (Blk.new (w.alloc (.cells #[.int .i64 2, .int .i64 0, .string s] 30)) 30 [.int .i64 2, .int .i64 0, .string t]).alloc (.cells #[.int .i64 0, .int .i64 0, .string ⟨#[]⟩] 30)
      rw [World.size_alloc] at hB
      have HB := Lib.hid hB
      clear hX hA hB
      show Calls Try.prog 125 #[.int .i64 12, .agg #[.int .i64 2, .int .i64 0, .string s], .agg #[.int .i64 2, .int .i64 0, .string t]] w _
      have HV := Lib.hid (show conV 12 ⟨2, 0, s⟩ ⟨2, 0, t⟩ = nulV from rfl)
      have HC := Lib.hid (show conC ⟨2, 0, s⟩ ⟨2, 0, t⟩ = 10 from rfl)
      go_enter Try.func125, Try.ntmps125
      go_wp2_with fail
      refine bodyPost_ret (v := .tuple #[.agg #[.int .i64 0, .int .i64 0, .string ByteArray.empty], .int .i64 10]) (by simp [results, Try.results125, go_sem]; try rfl) rfl ?_
      unfold RetV
      rw [HV.out, HC.out]
      exact ⟨rfl, (by repeat (first | exact Ext.refl _ | assumption | refine Ext.alloc ?_ _ | refine Ext.drewN ?_ _ | refine Ext.drew ?_ | refine Ext.set ?_ (by dsimp only; omega) _ | refine Ext.trans ?_ (by assumption)))⟩
set_option maxHeartbeats 8000000 in
theorem impl_connect13 (a b : CValue) (w : World) (ha : okV a = true) (hb : okV b = true) : Calls Try.prog 125 #[.int .i64 13, .agg #[.int .i64 a.a, .int .i64 a.b, .string a.c], .agg #[.int .i64 b.a, .int .i64 b.b, .string b.c]] w (RetV w (conV 13 a b) (conC a b)) := by
  have HTtrue := Lib.hid (fun W => show Calls Try.prog 126 #[.bool true] W fun e w' => e = .returned (.agg #[.int .i64 1, .int .i64 1, .string ByteArray.empty]) ∧ Ext W w' from impl_truth true W)
  have HTfalse := Lib.hid (fun W => show Calls Try.prog 126 #[.bool false] W fun e w' => e = .returned (.agg #[.int .i64 1, .int .i64 0, .string ByteArray.empty]) ∧ Ext W w' from impl_truth false W)
  have HZa := Lib.hid (fun W => impl_isOther a W)
  have HZb := Lib.hid (fun W => impl_isOther b W)
  have sa := okV_shape ha
  have sb := okV_shape hb
  clear ha hb
  rcases sa with rfl | ⟨n, rfl, -, -⟩ | ⟨s, rfl, -⟩
  · rcases sb with rfl | ⟨m, rfl, -, -⟩ | ⟨t, rfl, -⟩
    · have HA0 := Lib.hid (show ∀ W, Calls Try.prog 158 #[.agg #[.int .i64 0, .int .i64 0, .string ByteArray.empty]] W fun e w' => e = .returned (.bool false) ∧ Ext W w' from HZa.out)
      have HB0 := Lib.hid (show ∀ W, Calls Try.prog 158 #[.agg #[.int .i64 0, .int .i64 0, .string ByteArray.empty]] W fun e w' => e = .returned (.bool false) ∧ Ext W w' from HZb.out)
      have hX := Blk.new ((w.alloc (.cells #[.int .i64 0, .int .i64 0, .string ByteArray.empty] 30)).alloc (.cells #[.int .i64 0, .int .i64 0, .string ByteArray.empty] 30)) 30 [.int .i64 0, .int .i64 0, .string ⟨#[]⟩]
      rw [World.size_alloc, World.size_alloc] at hX
      have HX := Lib.hid hX
      have hA := ((Blk.new w 30 [.int .i64 0, .int .i64 0, .string ByteArray.empty]).alloc (.cells #[.int .i64 0, .int .i64 0, .string ByteArray.empty] 30)).alloc (.cells #[.int .i64 0, .int .i64 0, .string ⟨#[]⟩] 30)
      have HA := Lib.hid hA
      have hB := (Blk.new (w.alloc (.cells #[.int .i64 0, .int .i64 0, .string ByteArray.empty] 30)) 30 [.int .i64 0, .int .i64 0, .string ByteArray.empty]).alloc (.cells #[.int .i64 0, .int .i64 0, .string ⟨#[]⟩] 30)
      rw [World.size_alloc] at hB
      have HB := Lib.hid hB
      clear hX hA hB
      show Calls Try.prog 125 #[.int .i64 13, .agg #[.int .i64 0, .int .i64 0, .string ByteArray.empty], .agg #[.int .i64 0, .int .i64 0, .string ByteArray.empty]] w _
      have HV := Lib.hid (show conV 13 nulV nulV = nulV from rfl)
      have HC := Lib.hid (show conC nulV nulV = 0 from rfl)
      go_enter Try.func125, Try.ntmps125
      go_wp2_with fail
      refine (HA0.out _).mono ?_
      rintro e w1 ⟨rfl, E1⟩
      obtain ⟨r10, r11, r12⟩ := (HX.out.ext E1).cells3
      have f10 := (HX.out.ext E1).frozen 0
      have f11 := (HX.out.ext E1).frozen 1
      have f12 := (HX.out.ext E1).frozen 2
      obtain ⟨a10, a11, a12⟩ := (HA.out.ext E1).cells3
      obtain ⟨b10, b11, b12⟩ := (HB.out.ext E1).cells3
      go_wp2_with fail
      refine (HB0.out _).mono ?_
      rintro e w2 ⟨rfl, E2⟩
      obtain ⟨r20, r21, r22⟩ := (HX.out.ext (E1.trans E2)).cells3
      have f20 := (HX.out.ext (E1.trans E2)).frozen 0
      have f21 := (HX.out.ext (E1.trans E2)).frozen 1
      have f22 := (HX.out.ext (E1.trans E2)).frozen 2
      obtain ⟨a20, a21, a22⟩ := (HA.out.ext (E1.trans E2)).cells3
      obtain ⟨b20, b21, b22⟩ := (HB.out.ext (E1.trans E2)).cells3
      go_wp2_with fail
      refine bodyPost_ret (v := .tuple #[.agg #[.int .i64 0, .int .i64 0, .string ByteArray.empty], .int .i64 0]) (by simp [results, Try.results125, go_sem, r20, r21, r22]; try rfl) rfl ?_
      unfold RetV
      rw [HV.out, HC.out]
      exact ⟨rfl, (by repeat (first | exact Ext.refl _ | assumption | refine Ext.alloc ?_ _ | refine Ext.drewN ?_ _ | refine Ext.drew ?_ | refine Ext.set ?_ (by dsimp only; omega) _ | refine Ext.trans ?_ (by assumption)))⟩
    · have HA0 := Lib.hid (show ∀ W, Calls Try.prog 158 #[.agg #[.int .i64 0, .int .i64 0, .string ByteArray.empty]] W fun e w' => e = .returned (.bool false) ∧ Ext W w' from HZa.out)
      have HB0 := Lib.hid (show ∀ W, Calls Try.prog 158 #[.agg #[.int .i64 1, .int .i64 m, .string ByteArray.empty]] W fun e w' => e = .returned (.bool (othB (numV m))) ∧ Ext W w' from HZb.out)
      have hX := Blk.new ((w.alloc (.cells #[.int .i64 0, .int .i64 0, .string ByteArray.empty] 30)).alloc (.cells #[.int .i64 1, .int .i64 m, .string ByteArray.empty] 30)) 30 [.int .i64 0, .int .i64 0, .string ⟨#[]⟩]
      rw [World.size_alloc, World.size_alloc] at hX
      have HX := Lib.hid hX
      have hA := ((Blk.new w 30 [.int .i64 0, .int .i64 0, .string ByteArray.empty]).alloc (.cells #[.int .i64 1, .int .i64 m, .string ByteArray.empty] 30)).alloc (.cells #[.int .i64 0, .int .i64 0, .string ⟨#[]⟩] 30)
      have HA := Lib.hid hA
      have hB := (Blk.new (w.alloc (.cells #[.int .i64 0, .int .i64 0, .string ByteArray.empty] 30)) 30 [.int .i64 1, .int .i64 m, .string ByteArray.empty]).alloc (.cells #[.int .i64 0, .int .i64 0, .string ⟨#[]⟩] 30)
      rw [World.size_alloc] at hB
      have HB := Lib.hid hB
      clear hX hA hB
      show Calls Try.prog 125 #[.int .i64 13, .agg #[.int .i64 0, .int .i64 0, .string ByteArray.empty], .agg #[.int .i64 1, .int .i64 m, .string ByteArray.empty]] w _
      rcases gb : (m == 0) with _ | _
      · have HB1 := Lib.hid (show ∀ W, Calls Try.prog 158 #[.agg #[.int .i64 1, .int .i64 m, .string ByteArray.empty]] W fun e w' => e = .returned (.bool true) ∧ Ext W w' from by have h := HB0.out; rw [show othB (numV m) = true by show (true && !(m == 0)) = _; rw [gb]; rfl] at h; exact h)
        have HV := Lib.hid (show conV 13 nulV (numV m) = numV 1 from by show (if (false || !(m == 0)) = true then numV 1 else _) = _; rw [gb]; rfl)
        have HC := Lib.hid (show conC nulV (numV m) = 0 from rfl)
        go_enter Try.func125, Try.ntmps125
        go_wp2_with fail
        refine (HA0.out _).mono ?_
        rintro e w1 ⟨rfl, E1⟩
        obtain ⟨r10, r11, r12⟩ := (HX.out.ext E1).cells3
        have f10 := (HX.out.ext E1).frozen 0
        have f11 := (HX.out.ext E1).frozen 1
        have f12 := (HX.out.ext E1).frozen 2
        obtain ⟨a10, a11, a12⟩ := (HA.out.ext E1).cells3
        obtain ⟨b10, b11, b12⟩ := (HB.out.ext E1).cells3
        go_wp2_with fail
        refine (HB1.out _).mono ?_
        rintro e w2 ⟨rfl, E2⟩
        obtain ⟨r20, r21, r22⟩ := (HX.out.ext (E1.trans E2)).cells3
        have f20 := (HX.out.ext (E1.trans E2)).frozen 0
        have f21 := (HX.out.ext (E1.trans E2)).frozen 1
        have f22 := (HX.out.ext (E1.trans E2)).frozen 2
        obtain ⟨a20, a21, a22⟩ := (HA.out.ext (E1.trans E2)).cells3
        obtain ⟨b20, b21, b22⟩ := (HB.out.ext (E1.trans E2)).cells3
        go_wp2_with fail
        refine (HTtrue.out _).mono ?_
        rintro e w3 ⟨rfl, E3⟩
        obtain ⟨r30, r31, r32⟩ := (HX.out.ext ((E1.trans E2).trans E3)).cells3
        have f30 := (HX.out.ext ((E1.trans E2).trans E3)).frozen 0
        have f31 := (HX.out.ext ((E1.trans E2).trans E3)).frozen 1
        have f32 := (HX.out.ext ((E1.trans E2).trans E3)).frozen 2
        go_wp2_with fail
        refine bodyPost_ret (v := .tuple #[.agg #[.int .i64 1, .int .i64 1, .string ByteArray.empty], .int .i64 0]) (by simp [results, Try.results125, go_sem, r30, r31, r32]; try rfl) rfl ?_
        unfold RetV
        rw [HV.out, HC.out]
        exact ⟨rfl, (by repeat (first | exact Ext.refl _ | assumption | refine Ext.alloc ?_ _ | refine Ext.drewN ?_ _ | refine Ext.drew ?_ | refine Ext.set ?_ (by dsimp only; omega) _ | refine Ext.trans ?_ (by assumption)))⟩
      · have HB1 := Lib.hid (show ∀ W, Calls Try.prog 158 #[.agg #[.int .i64 1, .int .i64 m, .string ByteArray.empty]] W fun e w' => e = .returned (.bool false) ∧ Ext W w' from by have h := HB0.out; rw [show othB (numV m) = false by show (true && !(m == 0)) = _; rw [gb]; rfl] at h; exact h)
        have HV := Lib.hid (show conV 13 nulV (numV m) = nulV from by show (if (false || !(m == 0)) = true then numV 1 else nulV) = _; rw [gb]; rfl)
        have HC := Lib.hid (show conC nulV (numV m) = 0 from rfl)
        go_enter Try.func125, Try.ntmps125
        go_wp2_with fail
        refine (HA0.out _).mono ?_
        rintro e w1 ⟨rfl, E1⟩
        obtain ⟨r10, r11, r12⟩ := (HX.out.ext E1).cells3
        have f10 := (HX.out.ext E1).frozen 0
        have f11 := (HX.out.ext E1).frozen 1
        have f12 := (HX.out.ext E1).frozen 2
        obtain ⟨a10, a11, a12⟩ := (HA.out.ext E1).cells3
        obtain ⟨b10, b11, b12⟩ := (HB.out.ext E1).cells3
        go_wp2_with fail
        refine (HB1.out _).mono ?_
        rintro e w2 ⟨rfl, E2⟩
        obtain ⟨r20, r21, r22⟩ := (HX.out.ext (E1.trans E2)).cells3
        have f20 := (HX.out.ext (E1.trans E2)).frozen 0
        have f21 := (HX.out.ext (E1.trans E2)).frozen 1
        have f22 := (HX.out.ext (E1.trans E2)).frozen 2
        obtain ⟨a20, a21, a22⟩ := (HA.out.ext (E1.trans E2)).cells3
        obtain ⟨b20, b21, b22⟩ := (HB.out.ext (E1.trans E2)).cells3
        go_wp2_with fail
        refine bodyPost_ret (v := .tuple #[.agg #[.int .i64 0, .int .i64 0, .string ByteArray.empty], .int .i64 0]) (by simp [results, Try.results125, go_sem, r20, r21, r22]; try rfl) rfl ?_
        unfold RetV
        rw [HV.out, HC.out]
        exact ⟨rfl, (by repeat (first | exact Ext.refl _ | assumption | refine Ext.alloc ?_ _ | refine Ext.drewN ?_ _ | refine Ext.drew ?_ | refine Ext.set ?_ (by dsimp only; omega) _ | refine Ext.trans ?_ (by assumption)))⟩
    · have HA0 := Lib.hid (show ∀ W, Calls Try.prog 158 #[.agg #[.int .i64 0, .int .i64 0, .string ByteArray.empty]] W fun e w' => e = .returned (.bool false) ∧ Ext W w' from HZa.out)
      have HB0 := Lib.hid (show ∀ W, Calls Try.prog 158 #[.agg #[.int .i64 2, .int .i64 0, .string t]] W fun e w' => e = .returned (.bool false) ∧ Ext W w' from HZb.out)
      have hX := Blk.new ((w.alloc (.cells #[.int .i64 0, .int .i64 0, .string ByteArray.empty] 30)).alloc (.cells #[.int .i64 2, .int .i64 0, .string t] 30)) 30 [.int .i64 0, .int .i64 0, .string ⟨#[]⟩]
      rw [World.size_alloc, World.size_alloc] at hX
      have HX := Lib.hid hX
      have hA := ((Blk.new w 30 [.int .i64 0, .int .i64 0, .string ByteArray.empty]).alloc (.cells #[.int .i64 2, .int .i64 0, .string t] 30)).alloc (.cells #[.int .i64 0, .int .i64 0, .string ⟨#[]⟩] 30)
      have HA := Lib.hid hA
      have hB := (Blk.new (w.alloc (.cells #[.int .i64 0, .int .i64 0, .string ByteArray.empty] 30)) 30 [.int .i64 2, .int .i64 0, .string t]).alloc (.cells #[.int .i64 0, .int .i64 0, .string ⟨#[]⟩] 30)
      rw [World.size_alloc] at hB
      have HB := Lib.hid hB
      clear hX hA hB
      show Calls Try.prog 125 #[.int .i64 13, .agg #[.int .i64 0, .int .i64 0, .string ByteArray.empty], .agg #[.int .i64 2, .int .i64 0, .string t]] w _
      have HV := Lib.hid (show conV 13 nulV ⟨2, 0, t⟩ = nulV from rfl)
      have HC := Lib.hid (show conC nulV ⟨2, 0, t⟩ = 10 from rfl)
      go_enter Try.func125, Try.ntmps125
      go_wp2_with fail
      refine bodyPost_ret (v := .tuple #[.agg #[.int .i64 0, .int .i64 0, .string ByteArray.empty], .int .i64 10]) (by simp [results, Try.results125, go_sem]; try rfl) rfl ?_
      unfold RetV
      rw [HV.out, HC.out]
      exact ⟨rfl, (by repeat (first | exact Ext.refl _ | assumption | refine Ext.alloc ?_ _ | refine Ext.drewN ?_ _ | refine Ext.drew ?_ | refine Ext.set ?_ (by dsimp only; omega) _ | refine Ext.trans ?_ (by assumption)))⟩
  · rcases sb with rfl | ⟨m, rfl, -, -⟩ | ⟨t, rfl, -⟩
    · have HA0 := Lib.hid (show ∀ W, Calls Try.prog 158 #[.agg #[.int .i64 1, .int .i64 n, .string ByteArray.empty]] W fun e w' => e = .returned (.bool (othB (numV n))) ∧ Ext W w' from HZa.out)
      have HB0 := Lib.hid (show ∀ W, Calls Try.prog 158 #[.agg #[.int .i64 0, .int .i64 0, .string ByteArray.empty]] W fun e w' => e = .returned (.bool false) ∧ Ext W w' from HZb.out)
      have hX := Blk.new ((w.alloc (.cells #[.int .i64 1, .int .i64 n, .string ByteArray.empty] 30)).alloc (.cells #[.int .i64 0, .int .i64 0, .string ByteArray.empty] 30)) 30 [.int .i64 0, .int .i64 0, .string ⟨#[]⟩]
      rw [World.size_alloc, World.size_alloc] at hX
      have HX := Lib.hid hX
      have hA := ((Blk.new w 30 [.int .i64 1, .int .i64 n, .string ByteArray.empty]).alloc (.cells #[.int .i64 0, .int .i64 0, .string ByteArray.empty] 30)).alloc (.cells #[.int .i64 0, .int .i64 0, .string ⟨#[]⟩] 30)
      have HA := Lib.hid hA
      have hB := (Blk.new (w.alloc (.cells #[.int .i64 1, .int .i64 n, .string ByteArray.empty] 30)) 30 [.int .i64 0, .int .i64 0, .string ByteArray.empty]).alloc (.cells #[.int .i64 0, .int .i64 0, .string ⟨#[]⟩] 30)
      rw [World.size_alloc] at hB
      have HB := Lib.hid hB
      clear hX hA hB
      show Calls Try.prog 125 #[.int .i64 13, .agg #[.int .i64 1, .int .i64 n, .string ByteArray.empty], .agg #[.int .i64 0, .int .i64 0, .string ByteArray.empty]] w _
      rcases ga : (n == 0) with _ | _
      · have HA1 := Lib.hid (show ∀ W, Calls Try.prog 158 #[.agg #[.int .i64 1, .int .i64 n, .string ByteArray.empty]] W fun e w' => e = .returned (.bool true) ∧ Ext W w' from by have h := HA0.out; rw [show othB (numV n) = true by show (true && !(n == 0)) = _; rw [ga]; rfl] at h; exact h)
        have HV := Lib.hid (show conV 13 (numV n) nulV = numV 1 from by show (if (!(n == 0) || othB nulV) = true then numV 1 else _) = _; rw [ga]; rfl)
        have HC := Lib.hid (show conC (numV n) nulV = 0 from rfl)
        go_enter Try.func125, Try.ntmps125
        go_wp2_with fail
        refine (HA1.out _).mono ?_
        rintro e w1 ⟨rfl, E1⟩
        obtain ⟨r10, r11, r12⟩ := (HX.out.ext E1).cells3
        have f10 := (HX.out.ext E1).frozen 0
        have f11 := (HX.out.ext E1).frozen 1
        have f12 := (HX.out.ext E1).frozen 2
        obtain ⟨a10, a11, a12⟩ := (HA.out.ext E1).cells3
        obtain ⟨b10, b11, b12⟩ := (HB.out.ext E1).cells3
        go_wp2_with fail
        refine (HTtrue.out _).mono ?_
        rintro e w3 ⟨rfl, E3⟩
        obtain ⟨r30, r31, r32⟩ := (HX.out.ext (E1.trans E3)).cells3
        have f30 := (HX.out.ext (E1.trans E3)).frozen 0
        have f31 := (HX.out.ext (E1.trans E3)).frozen 1
        have f32 := (HX.out.ext (E1.trans E3)).frozen 2
        go_wp2_with fail
        refine bodyPost_ret (v := .tuple #[.agg #[.int .i64 1, .int .i64 1, .string ByteArray.empty], .int .i64 0]) (by simp [results, Try.results125, go_sem, r30, r31, r32]; try rfl) rfl ?_
        unfold RetV
        rw [HV.out, HC.out]
        exact ⟨rfl, (by repeat (first | exact Ext.refl _ | assumption | refine Ext.alloc ?_ _ | refine Ext.drewN ?_ _ | refine Ext.drew ?_ | refine Ext.set ?_ (by dsimp only; omega) _ | refine Ext.trans ?_ (by assumption)))⟩
      · have HA1 := Lib.hid (show ∀ W, Calls Try.prog 158 #[.agg #[.int .i64 1, .int .i64 n, .string ByteArray.empty]] W fun e w' => e = .returned (.bool false) ∧ Ext W w' from by have h := HA0.out; rw [show othB (numV n) = false by show (true && !(n == 0)) = _; rw [ga]; rfl] at h; exact h)
        have HV := Lib.hid (show conV 13 (numV n) nulV = nulV from by show (if (!(n == 0) || false) = true then numV 1 else nulV) = _; rw [ga]; rfl)
        have HC := Lib.hid (show conC (numV n) nulV = 0 from rfl)
        go_enter Try.func125, Try.ntmps125
        go_wp2_with fail
        refine (HA1.out _).mono ?_
        rintro e w1 ⟨rfl, E1⟩
        obtain ⟨r10, r11, r12⟩ := (HX.out.ext E1).cells3
        have f10 := (HX.out.ext E1).frozen 0
        have f11 := (HX.out.ext E1).frozen 1
        have f12 := (HX.out.ext E1).frozen 2
        obtain ⟨a10, a11, a12⟩ := (HA.out.ext E1).cells3
        obtain ⟨b10, b11, b12⟩ := (HB.out.ext E1).cells3
        go_wp2_with fail
        refine (HB0.out _).mono ?_
        rintro e w2 ⟨rfl, E2⟩
        obtain ⟨r20, r21, r22⟩ := (HX.out.ext (E1.trans E2)).cells3
        have f20 := (HX.out.ext (E1.trans E2)).frozen 0
        have f21 := (HX.out.ext (E1.trans E2)).frozen 1
        have f22 := (HX.out.ext (E1.trans E2)).frozen 2
        obtain ⟨a20, a21, a22⟩ := (HA.out.ext (E1.trans E2)).cells3
        obtain ⟨b20, b21, b22⟩ := (HB.out.ext (E1.trans E2)).cells3
        go_wp2_with fail
        refine bodyPost_ret (v := .tuple #[.agg #[.int .i64 0, .int .i64 0, .string ByteArray.empty], .int .i64 0]) (by simp [results, Try.results125, go_sem, r20, r21, r22]; try rfl) rfl ?_
        unfold RetV
        rw [HV.out, HC.out]
        exact ⟨rfl, (by repeat (first | exact Ext.refl _ | assumption | refine Ext.alloc ?_ _ | refine Ext.drewN ?_ _ | refine Ext.drew ?_ | refine Ext.set ?_ (by dsimp only; omega) _ | refine Ext.trans ?_ (by assumption)))⟩
    · have HA0 := Lib.hid (show ∀ W, Calls Try.prog 158 #[.agg #[.int .i64 1, .int .i64 n, .string ByteArray.empty]] W fun e w' => e = .returned (.bool (othB (numV n))) ∧ Ext W w' from HZa.out)
      have HB0 := Lib.hid (show ∀ W, Calls Try.prog 158 #[.agg #[.int .i64 1, .int .i64 m, .string ByteArray.empty]] W fun e w' => e = .returned (.bool (othB (numV m))) ∧ Ext W w' from HZb.out)
      have hX := Blk.new ((w.alloc (.cells #[.int .i64 1, .int .i64 n, .string ByteArray.empty] 30)).alloc (.cells #[.int .i64 1, .int .i64 m, .string ByteArray.empty] 30)) 30 [.int .i64 0, .int .i64 0, .string ⟨#[]⟩]
      rw [World.size_alloc, World.size_alloc] at hX
      have HX := Lib.hid hX
      have hA := ((Blk.new w 30 [.int .i64 1, .int .i64 n, .string ByteArray.empty]).alloc (.cells #[.int .i64 1, .int .i64 m, .string ByteArray.empty] 30)).alloc (.cells #[.int .i64 0, .int .i64 0, .string ⟨#[]⟩] 30)
      have HA := Lib.hid hA
      have hB := (Blk.new (w.alloc (.cells #[.int .i64 1, .int .i64 n, .string ByteArray.empty] 30)) 30 [.int .i64 1, .int .i64 m, .string ByteArray.empty]).alloc (.cells #[.int .i64 0, .int .i64 0, .string ⟨#[]⟩] 30)
      rw [World.size_alloc] at hB
      have HB := Lib.hid hB
      clear hX hA hB
      show Calls Try.prog 125 #[.int .i64 13, .agg #[.int .i64 1, .int .i64 n, .string ByteArray.empty], .agg #[.int .i64 1, .int .i64 m, .string ByteArray.empty]] w _
      rcases ga : (n == 0) with _ | _
      · have HA1 := Lib.hid (show ∀ W, Calls Try.prog 158 #[.agg #[.int .i64 1, .int .i64 n, .string ByteArray.empty]] W fun e w' => e = .returned (.bool true) ∧ Ext W w' from by have h := HA0.out; rw [show othB (numV n) = true by show (true && !(n == 0)) = _; rw [ga]; rfl] at h; exact h)
        have HV := Lib.hid (show conV 13 (numV n) (numV m) = numV 1 from by show (if (!(n == 0) || othB (numV m)) = true then numV 1 else _) = _; rw [ga]; rfl)
        have HC := Lib.hid (show conC (numV n) (numV m) = 0 from rfl)
        go_enter Try.func125, Try.ntmps125
        go_wp2_with fail
        refine (HA1.out _).mono ?_
        rintro e w1 ⟨rfl, E1⟩
        obtain ⟨r10, r11, r12⟩ := (HX.out.ext E1).cells3
        have f10 := (HX.out.ext E1).frozen 0
        have f11 := (HX.out.ext E1).frozen 1
        have f12 := (HX.out.ext E1).frozen 2
        obtain ⟨a10, a11, a12⟩ := (HA.out.ext E1).cells3
        obtain ⟨b10, b11, b12⟩ := (HB.out.ext E1).cells3
        go_wp2_with fail
        refine (HTtrue.out _).mono ?_
        rintro e w3 ⟨rfl, E3⟩
        obtain ⟨r30, r31, r32⟩ := (HX.out.ext (E1.trans E3)).cells3
        have f30 := (HX.out.ext (E1.trans E3)).frozen 0
        have f31 := (HX.out.ext (E1.trans E3)).frozen 1
        have f32 := (HX.out.ext (E1.trans E3)).frozen 2
        go_wp2_with fail
        refine bodyPost_ret (v := .tuple #[.agg #[.int .i64 1, .int .i64 1, .string ByteArray.empty], .int .i64 0]) (by simp [results, Try.results125, go_sem, r30, r31, r32]; try rfl) rfl ?_
        unfold RetV
        rw [HV.out, HC.out]
        exact ⟨rfl, (by repeat (first | exact Ext.refl _ | assumption | refine Ext.alloc ?_ _ | refine Ext.drewN ?_ _ | refine Ext.drew ?_ | refine Ext.set ?_ (by dsimp only; omega) _ | refine Ext.trans ?_ (by assumption)))⟩
      · have HA1 := Lib.hid (show ∀ W, Calls Try.prog 158 #[.agg #[.int .i64 1, .int .i64 n, .string ByteArray.empty]] W fun e w' => e = .returned (.bool false) ∧ Ext W w' from by have h := HA0.out; rw [show othB (numV n) = false by show (true && !(n == 0)) = _; rw [ga]; rfl] at h; exact h)
        rcases gb : (m == 0) with _ | _
        · have HB1 := Lib.hid (show ∀ W, Calls Try.prog 158 #[.agg #[.int .i64 1, .int .i64 m, .string ByteArray.empty]] W fun e w' => e = .returned (.bool true) ∧ Ext W w' from by have h := HB0.out; rw [show othB (numV m) = true by show (true && !(m == 0)) = _; rw [gb]; rfl] at h; exact h)
          have HV := Lib.hid (show conV 13 (numV n) (numV m) = numV 1 from by show (if (!(n == 0) || !(m == 0)) = true then numV 1 else _) = _; rw [ga, gb]; rfl)
          have HC := Lib.hid (show conC (numV n) (numV m) = 0 from rfl)
          go_enter Try.func125, Try.ntmps125
          go_wp2_with fail
          refine (HA1.out _).mono ?_
          rintro e w1 ⟨rfl, E1⟩
          obtain ⟨r10, r11, r12⟩ := (HX.out.ext E1).cells3
          have f10 := (HX.out.ext E1).frozen 0
          have f11 := (HX.out.ext E1).frozen 1
          have f12 := (HX.out.ext E1).frozen 2
          obtain ⟨a10, a11, a12⟩ := (HA.out.ext E1).cells3
          obtain ⟨b10, b11, b12⟩ := (HB.out.ext E1).cells3
          go_wp2_with fail
          refine (HB1.out _).mono ?_
          rintro e w2 ⟨rfl, E2⟩
          obtain ⟨r20, r21, r22⟩ := (HX.out.ext (E1.trans E2)).cells3
          have f20 := (HX.out.ext (E1.trans E2)).frozen 0
          have f21 := (HX.out.ext (E1.trans E2)).frozen 1
          have f22 := (HX.out.ext (E1.trans E2)).frozen 2
          obtain ⟨a20, a21, a22⟩ := (HA.out.ext (E1.trans E2)).cells3
          obtain ⟨b20, b21, b22⟩ := (HB.out.ext (E1.trans E2)).cells3
          go_wp2_with fail
          refine (HTtrue.out _).mono ?_
          rintro e w3 ⟨rfl, E3⟩
          obtain ⟨r30, r31, r32⟩ := (HX.out.ext ((E1.trans E2).trans E3)).cells3
          have f30 := (HX.out.ext ((E1.trans E2).trans E3)).frozen 0
          have f31 := (HX.out.ext ((E1.trans E2).trans E3)).frozen 1
          have f32 := (HX.out.ext ((E1.trans E2).trans E3)).frozen 2
          go_wp2_with fail
          refine bodyPost_ret (v := .tuple #[.agg #[.int .i64 1, .int .i64 1, .string ByteArray.empty], .int .i64 0]) (by simp [results, Try.results125, go_sem, r30, r31, r32]; try rfl) rfl ?_
          unfold RetV
          rw [HV.out, HC.out]
          exact ⟨rfl, (by repeat (first | exact Ext.refl _ | assumption | refine Ext.alloc ?_ _ | refine Ext.drewN ?_ _ | refine Ext.drew ?_ | refine Ext.set ?_ (by dsimp only; omega) _ | refine Ext.trans ?_ (by assumption)))⟩
        · have HB1 := Lib.hid (show ∀ W, Calls Try.prog 158 #[.agg #[.int .i64 1, .int .i64 m, .string ByteArray.empty]] W fun e w' => e = .returned (.bool false) ∧ Ext W w' from by have h := HB0.out; rw [show othB (numV m) = false by show (true && !(m == 0)) = _; rw [gb]; rfl] at h; exact h)
          have HV := Lib.hid (show conV 13 (numV n) (numV m) = numV 0 from by show (if (!(n == 0) || !(m == 0)) = true then numV 1 else numV 0) = _; rw [ga, gb]; rfl)
          have HC := Lib.hid (show conC (numV n) (numV m) = 0 from rfl)
          go_enter Try.func125, Try.ntmps125
          go_wp2_with fail
          refine (HA1.out _).mono ?_
          rintro e w1 ⟨rfl, E1⟩
          obtain ⟨r10, r11, r12⟩ := (HX.out.ext E1).cells3
          have f10 := (HX.out.ext E1).frozen 0
          have f11 := (HX.out.ext E1).frozen 1
          have f12 := (HX.out.ext E1).frozen 2
          obtain ⟨a10, a11, a12⟩ := (HA.out.ext E1).cells3
          obtain ⟨b10, b11, b12⟩ := (HB.out.ext E1).cells3
          go_wp2_with fail
          refine (HB1.out _).mono ?_
          rintro e w2 ⟨rfl, E2⟩
          obtain ⟨r20, r21, r22⟩ := (HX.out.ext (E1.trans E2)).cells3
          have f20 := (HX.out.ext (E1.trans E2)).frozen 0
          have f21 := (HX.out.ext (E1.trans E2)).frozen 1
          have f22 := (HX.out.ext (E1.trans E2)).frozen 2
          obtain ⟨a20, a21, a22⟩ := (HA.out.ext (E1.trans E2)).cells3
          obtain ⟨b20, b21, b22⟩ := (HB.out.ext (E1.trans E2)).cells3
          go_wp2_with fail
          refine (HTfalse.out _).mono ?_
          rintro e w3 ⟨rfl, E3⟩
          obtain ⟨r30, r31, r32⟩ := (HX.out.ext ((E1.trans E2).trans E3)).cells3
          have f30 := (HX.out.ext ((E1.trans E2).trans E3)).frozen 0
          have f31 := (HX.out.ext ((E1.trans E2).trans E3)).frozen 1
          have f32 := (HX.out.ext ((E1.trans E2).trans E3)).frozen 2
          go_wp2_with fail
          refine bodyPost_ret (v := .tuple #[.agg #[.int .i64 1, .int .i64 0, .string ByteArray.empty], .int .i64 0]) (by simp [results, Try.results125, go_sem, r30, r31, r32]; try rfl) rfl ?_
          unfold RetV
          rw [HV.out, HC.out]
          exact ⟨rfl, (by repeat (first | exact Ext.refl _ | assumption | refine Ext.alloc ?_ _ | refine Ext.drewN ?_ _ | refine Ext.drew ?_ | refine Ext.set ?_ (by dsimp only; omega) _ | refine Ext.trans ?_ (by assumption)))⟩
    · have HA0 := Lib.hid (show ∀ W, Calls Try.prog 158 #[.agg #[.int .i64 1, .int .i64 n, .string ByteArray.empty]] W fun e w' => e = .returned (.bool (othB (numV n))) ∧ Ext W w' from HZa.out)
      have HB0 := Lib.hid (show ∀ W, Calls Try.prog 158 #[.agg #[.int .i64 2, .int .i64 0, .string t]] W fun e w' => e = .returned (.bool false) ∧ Ext W w' from HZb.out)
      have hX := Blk.new ((w.alloc (.cells #[.int .i64 1, .int .i64 n, .string ByteArray.empty] 30)).alloc (.cells #[.int .i64 2, .int .i64 0, .string t] 30)) 30 [.int .i64 0, .int .i64 0, .string ⟨#[]⟩]
      rw [World.size_alloc, World.size_alloc] at hX
      have HX := Lib.hid hX
      have hA := ((Blk.new w 30 [.int .i64 1, .int .i64 n, .string ByteArray.empty]).alloc (.cells #[.int .i64 2, .int .i64 0, .string t] 30)).alloc (.cells #[.int .i64 0, .int .i64 0, .string ⟨#[]⟩] 30)
      have HA := Lib.hid hA
      have hB := (Blk.new (w.alloc (.cells #[.int .i64 1, .int .i64 n, .string ByteArray.empty] 30)) 30 [.int .i64 2, .int .i64 0, .string t]).alloc (.cells #[.int .i64 0, .int .i64 0, .string ⟨#[]⟩] 30)
      rw [World.size_alloc] at hB
      have HB := Lib.hid hB
      clear hX hA hB
      show Calls Try.prog 125 #[.int .i64 13, .agg #[.int .i64 1, .int .i64 n, .string ByteArray.empty], .agg #[.int .i64 2, .int .i64 0, .string t]] w _
      have HV := Lib.hid (show conV 13 (numV n) ⟨2, 0, t⟩ = nulV from rfl)
      have HC := Lib.hid (show conC (numV n) ⟨2, 0, t⟩ = 10 from rfl)
      go_enter Try.func125, Try.ntmps125
      go_wp2_with fail
      refine bodyPost_ret (v := .tuple #[.agg #[.int .i64 0, .int .i64 0, .string ByteArray.empty], .int .i64 10]) (by simp [results, Try.results125, go_sem]; try rfl) rfl ?_
      unfold RetV
      rw [HV.out, HC.out]
      exact ⟨rfl, (by repeat (first | exact Ext.refl _ | assumption | refine Ext.alloc ?_ _ | refine Ext.drewN ?_ _ | refine Ext.drew ?_ | refine Ext.set ?_ (by dsimp only; omega) _ | refine Ext.trans ?_ (by assumption)))⟩
  · rcases sb with rfl | ⟨m, rfl, -, -⟩ | ⟨t, rfl, -⟩
    · have HA0 := Lib.hid (show ∀ W, Calls Try.prog 158 #[.agg #[.int .i64 2, .int .i64 0, .string s]] W fun e w' => e = .returned (.bool false) ∧ Ext W w' from HZa.out)
      have HB0 := Lib.hid (show ∀ W, Calls Try.prog 158 #[.agg #[.int .i64 0, .int .i64 0, .string ByteArray.empty]] W fun e w' => e = .returned (.bool false) ∧ Ext W w' from HZb.out)
      have hX := Blk.new ((w.alloc (.cells #[.int .i64 2, .int .i64 0, .string s] 30)).alloc (.cells #[.int .i64 0, .int .i64 0, .string ByteArray.empty] 30)) 30 [.int .i64 0, .int .i64 0, .string ⟨#[]⟩]
      rw [World.size_alloc, World.size_alloc] at hX
      have HX := Lib.hid hX
      have hA := ((Blk.new w 30 [.int .i64 2, .int .i64 0, .string s]).alloc (.cells #[.int .i64 0, .int .i64 0, .string ByteArray.empty] 30)).alloc (.cells #[.int .i64 0, .int .i64 0, .string ⟨#[]⟩] 30)
      have HA := Lib.hid hA
      have hB := (Blk.new (w.alloc (.cells #[.int .i64 2, .int .i64 0, .string s] 30)) 30 [.int .i64 0, .int .i64 0, .string ByteArray.empty]).alloc (.cells #[.int .i64 0, .int .i64 0, .string ⟨#[]⟩] 30)
      rw [World.size_alloc] at hB
      have HB := Lib.hid hB
      clear hX hA hB
      show Calls Try.prog 125 #[.int .i64 13, .agg #[.int .i64 2, .int .i64 0, .string s], .agg #[.int .i64 0, .int .i64 0, .string ByteArray.empty]] w _
      have HV := Lib.hid (show conV 13 ⟨2, 0, s⟩ nulV = nulV from rfl)
      have HC := Lib.hid (show conC ⟨2, 0, s⟩ nulV = 10 from rfl)
      go_enter Try.func125, Try.ntmps125
      go_wp2_with fail
      refine bodyPost_ret (v := .tuple #[.agg #[.int .i64 0, .int .i64 0, .string ByteArray.empty], .int .i64 10]) (by simp [results, Try.results125, go_sem]; try rfl) rfl ?_
      unfold RetV
      rw [HV.out, HC.out]
      exact ⟨rfl, (by repeat (first | exact Ext.refl _ | assumption | refine Ext.alloc ?_ _ | refine Ext.drewN ?_ _ | refine Ext.drew ?_ | refine Ext.set ?_ (by dsimp only; omega) _ | refine Ext.trans ?_ (by assumption)))⟩
    · have HA0 := Lib.hid (show ∀ W, Calls Try.prog 158 #[.agg #[.int .i64 2, .int .i64 0, .string s]] W fun e w' => e = .returned (.bool false) ∧ Ext W w' from HZa.out)
      have HB0 := Lib.hid (show ∀ W, Calls Try.prog 158 #[.agg #[.int .i64 1, .int .i64 m, .string ByteArray.empty]] W fun e w' => e = .returned (.bool (othB (numV m))) ∧ Ext W w' from HZb.out)
      have hX := Blk.new ((w.alloc (.cells #[.int .i64 2, .int .i64 0, .string s] 30)).alloc (.cells #[.int .i64 1, .int .i64 m, .string ByteArray.empty] 30)) 30 [.int .i64 0, .int .i64 0, .string ⟨#[]⟩]
      rw [World.size_alloc, World.size_alloc] at hX
      have HX := Lib.hid hX
      have hA := ((Blk.new w 30 [.int .i64 2, .int .i64 0, .string s]).alloc (.cells #[.int .i64 1, .int .i64 m, .string ByteArray.empty] 30)).alloc (.cells #[.int .i64 0, .int .i64 0, .string ⟨#[]⟩] 30)
      have HA := Lib.hid hA
      have hB := (Blk.new (w.alloc (.cells #[.int .i64 2, .int .i64 0, .string s] 30)) 30 [.int .i64 1, .int .i64 m, .string ByteArray.empty]).alloc (.cells #[.int .i64 0, .int .i64 0, .string ⟨#[]⟩] 30)
      rw [World.size_alloc] at hB
      have HB := Lib.hid hB
      clear hX hA hB
      show Calls Try.prog 125 #[.int .i64 13, .agg #[.int .i64 2, .int .i64 0, .string s], .agg #[.int .i64 1, .int .i64 m, .string ByteArray.empty]] w _
      have HV := Lib.hid (show conV 13 ⟨2, 0, s⟩ (numV m) = nulV from rfl)
      have HC := Lib.hid (show conC ⟨2, 0, s⟩ (numV m) = 10 from rfl)
      go_enter Try.func125, Try.ntmps125
      go_wp2_with fail
      refine bodyPost_ret (v := .tuple #[.agg #[.int .i64 0, .int .i64 0, .string ByteArray.empty], .int .i64 10]) (by simp [results, Try.results125, go_sem]; try rfl) rfl ?_
      unfold RetV
      rw [HV.out, HC.out]
      exact ⟨rfl, (by repeat (first | exact Ext.refl _ | assumption | refine Ext.alloc ?_ _ | refine Ext.drewN ?_ _ | refine Ext.drew ?_ | refine Ext.set ?_ (by dsimp only; omega) _ | refine Ext.trans ?_ (by assumption)))⟩
    · have HA0 := Lib.hid (show ∀ W, Calls Try.prog 158 #[.agg #[.int .i64 2, .int .i64 0, .string s]] W fun e w' => e = .returned (.bool false) ∧ Ext W w' from HZa.out)
      have HB0 := Lib.hid (show ∀ W, Calls Try.prog 158 #[.agg #[.int .i64 2, .int .i64 0, .string t]] W fun e w' => e = .returned (.bool false) ∧ Ext W w' from HZb.out)
      have hX := Blk.new ((w.alloc (.cells #[.int .i64 2, .int .i64 0, .string s] 30)).alloc (.cells #[.int .i64 2, .int .i64 0, .string t] 30)) 30 [.int .i64 0, .int .i64 0, .string ⟨#[]⟩]
      rw [World.size_alloc, World.size_alloc] at hX
      have HX := Lib.hid hX
      have hA := ((Blk.new w 30 [.int .i64 2, .int .i64 0, .string s]).alloc (.cells #[.int .i64 2, .int .i64 0, .string t] 30)).alloc (.cells #[.int .i64 0, .int .i64 0, .string ⟨#[]⟩] 30)
      have HA := Lib.hid hA
      have hB := (Blk.new (w.alloc (.cells #[.int .i64 2, .int .i64 0, .string s] 30)) 30 [.int .i64 2, .int .i64 0, .string t]).alloc (.cells #[.int .i64 0, .int .i64 0, .string ⟨#[]⟩] 30)
      rw [World.size_alloc] at hB
      have HB := Lib.hid hB
      clear hX hA hB
      show Calls Try.prog 125 #[.int .i64 13, .agg #[.int .i64 2, .int .i64 0, .string s], .agg #[.int .i64 2, .int .i64 0, .string t]] w _
      have HV := Lib.hid (show conV 13 ⟨2, 0, s⟩ ⟨2, 0, t⟩ = nulV from rfl)
      have HC := Lib.hid (show conC ⟨2, 0, s⟩ ⟨2, 0, t⟩ = 10 from rfl)
      go_enter Try.func125, Try.ntmps125
      go_wp2_with fail
      refine bodyPost_ret (v := .tuple #[.agg #[.int .i64 0, .int .i64 0, .string ByteArray.empty], .int .i64 10]) (by simp [results, Try.results125, go_sem]; try rfl) rfl ?_
      unfold RetV
      rw [HV.out, HC.out]
      exact ⟨rfl, (by repeat (first | exact Ext.refl _ | assumption | refine Ext.alloc ?_ _ | refine Ext.drewN ?_ _ | refine Ext.drew ?_ | refine Ext.set ?_ (by dsimp only; omega) _ | refine Ext.trans ?_ (by assumption)))⟩
end Go.Proofs.Ythfkfdfcgldbeaa
