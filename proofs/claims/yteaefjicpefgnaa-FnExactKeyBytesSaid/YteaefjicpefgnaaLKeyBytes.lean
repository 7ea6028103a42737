/- The walks of KeyBytes and of its law. -/
import Derived.Test.YteaefjicpefgnaaKeys
import Derived.Test.YteaefjicpefgnaaFindValue
import Derived.Test.YteaefjicpefgnaaMarkB
namespace Go.Proofs.Yteaefjicpefgnaa
open Go.RowKit Go.Deep
set_option linter.unusedVariables false
set_option maxRecDepth 100000
def kbL (l : List CValue) : List UInt8 := if 4096 < l.length then [] else if (l.any fun x => !okV x) = true then [] else keysB l
def kbC (l : List CValue) : Int := if 4096 < l.length then 2 else if (l.any fun x => !okV x) = true then 1 else 0
theorem all_of_any {l : List CValue} (h : (l.any fun x => !okV x) = false) : ∀ x ∈ l, okV x = true := by
  rw [List.any_eq_false] at h
  intro x hx
  have := h x hx
  simpa using this
theorem kbL_len (l : List CValue) : (kbL l).length ≤ 100000 := by
  unfold kbL
  split
  · simp
  · split
    · simp
    · rename_i h1 h2
      have := keysB_len l (all_of_any (by simpa using h2))
      omega
theorem call_KeyBytes1 (args : Array Value) (W : World) : (callFunc 97 args).run Try.prog W = .ok (.enter 97 args) W := by kernel_rfl
theorem impl_KeyBytes1 (x : CValue) (w : World) (hs : x.c.size ≤ maxLen) : Calls Try.prog 97 #[.agg #[.int .i64 x.a, .int .i64 x.b, .string x.c]] w fun e w' => e = .returned (.bool (!okV x)) ∧ Ext w w' := by
  have HV := Lib.hid (show ∀ W, Calls Try.prog 98 #[.agg #[.int .i64 x.a, .int .i64 x.b, .string x.c]] W fun e w' => e = .returned (.bool (okV x)) ∧ Ext W w' from fun W => impl_ValueOK x.a x.b x.c W hs)
  generalize okV x = b at HV ⊢
  go_enter Try.func97, Try.ntmps97
  go_wp2_with fail
  refine (HV.out _).mono ?_
  rintro e w1 ⟨rfl, E1⟩
  go_wp2_with fail
  go_ret
  exact ⟨rfl, (by repeat (first | exact Ext.refl _ | assumption | refine Ext.alloc ?_ _ | refine Ext.drewN ?_ _ | refine Ext.drew ?_ | refine Ext.set ?_ (by dsimp only; omega) _ | refine Ext.trans ?_ (by assumption)))⟩
set_option maxHeartbeats 1000000 in
theorem impl_KeyBytes (A : Option Addr) (n cp : Nat) (l : List CValue) (w : World) (hl : l.length = n) (hn : n ≤ 1099511627776) (hx : ∀ x ∈ l, x.c.size ≤ maxLen) (hr : Rd w A (l.flatMap CValue.cs)) :
    Calls Try.prog 57 #[.slice A n cp] w fun e w' => ∃ v, e = .returned (.tuple #[v, .int .i64 (kbC l)]) ∧ w'.ownsRow w.heap.size 5 1 v (kbL l).length ((kbL l).map fun c => Value.int .u8 (c.toNat : Int)) ∧ Ext w w' := by
  have hL : kbL l = if 4096 < l.length then [] else if (l.any fun x => !okV x) = true then [] else keysB l := rfl
  have hC : kbC l = if 4096 < l.length then 2 else if (l.any fun x => !okV x) = true then 1 else 0 := rfl
  have HF := Lib.hid (containsFunc_ValueS 97 (fun x => !okV x) call_KeyBytes1 A n cp l w (fun x h W _ => impl_KeyBytes1 x W (hx x h)) hl hn hr)
  have hok := fun (h : (l.any fun x => !okV x) = false) => all_of_any h
  rw [hl] at hL hC
  generalize kbL l = L at hL ⊢
  generalize kbC l = Cc at hC ⊢
  generalize hb : (l.any fun x => !okV x) = b at hL hC HF hok
  by_cases h4 : 4096 < n
  · have HL := Lib.hid (show L = [] by rw [hL, if_pos h4])
    have HC := Lib.hid (show Cc = 2 by rw [hC, if_pos h4])
    have d : decide ((4096 : Int) < (n : Int)) = true := decide_eq_true (by omega)
    clear hL hC hok hb hl hx hr
    go_enter Try.func57, Try.ntmps57
    go_wp2_with fail
    go_ret2
    rw [HL.out, HC.out]
    exact ⟨_, rfl, World.ownsRow_nil _ _ _ _, Ext.refl _⟩
  have d : decide ((4096 : Int) < (n : Int)) = false := decide_eq_false (by omega)
  rcases b with _ | _
  · have HL := Lib.hid (show L = keysB l by rw [hL, if_neg h4]; rfl)
    have HC := Lib.hid (show Cc = 0 by rw [hC, if_neg h4]; rfl)
    have HK := Lib.hid (fun W (E : Ext w W) => impl_keyBytes A n cp l W hl (by omega) (hok rfl) (hr.ext E))
    clear hL hC hok hb hl hx hr
    go_enter Try.func57, Try.ntmps57
    go_wp2_with fail
    refine HF.out.mono ?_
    rintro e w1 ⟨rfl, E1⟩
    go_wp2_with fail
    refine (HK.out _ E1).mono ?_
    rintro e w2 ⟨v, rfl, O2, E2⟩
    go_wp2_with fail
    go_ret2
    rw [HL.out, HC.out]
    exact ⟨_, rfl, own_base O2 E1.le, E1.trans E2⟩
  · have HL := Lib.hid (show L = [] by rw [hL, if_neg h4]; rfl)
    have HC := Lib.hid (show Cc = 1 by rw [hC, if_neg h4]; rfl)
    clear hL hC hok hb hl hx hr
    go_enter Try.func57, Try.ntmps57
    go_wp2_with fail
    refine HF.out.mono ?_
    rintro e w1 ⟨rfl, E1⟩
    go_wp2_with fail
    go_ret2
    rw [HL.out, HC.out]
    exact ⟨_, rfl, World.ownsRow_nil _ _ _ _, E1⟩
set_option maxHeartbeats 1000000 in
theorem spec_l01Values (A : Option Addr) (n cp : Nat) (l : List CValue) (w : World) (hl : l.length = n) (hn : n ≤ 1099511627776) (hx : ∀ x ∈ l, x.c.size ≤ maxLen) (hr : Rd w A (l.flatMap CValue.cs)) :
    Calls Try.prog 93 #[.slice A n cp] w fun e w' => e = .returned (.bool (!(l.any fun x => !okV x))) ∧ Ext w w' := by
  have HL := Lib.hid hl
  have HX := Lib.hid hx
  clear hl hx
  go_enter Try.func93, Try.ntmps93
  go_wp2_with fail
  go_loopw [3] (fun i wr => ∃ k : Nat, k ≤ n ∧ i = .int .i64 k ∧ (∀ p, (hp : p < l.length) → p < k → okV (l[p]'hp) = true) ∧ Ext w wr) (fun i _ => n - (intOf i).toNat)
  case atStart => exact ⟨0, Nat.zero_le _, rfl, fun p _ h => absurd h (Nat.not_lt_zero _), Ext.refl _⟩
  case round =>
    obtain ⟨k, hk, rfl, hP, hE⟩ := hrel
    have HP := Lib.hid hP
    clear hP
    by_cases hlt : k < n
    · have hkl : k < l.length := by rw [HL.out]; exact hlt
      obtain ⟨b, o, rfl, hc⟩ := (hr.ext hE).flat CValue.len (by decide) hkl
      have c0 : wr.cell? ⟨b, o + k * 3, none⟩ = some (.int .i64 l[k].a) := by exact hc 0 _ rfl
      have c1 : wr.cell? ⟨b, o + k * 3 + 1, none⟩ = some (.int .i64 l[k].b) := by rw [Nat.add_assoc]; exact hc 1 _ rfl
      have c2 : wr.cell? ⟨b, o + k * 3 + 2, none⟩ = some (.string l[k].c) := by rw [Nat.add_assoc]; exact hc 2 _ rfl
      clear hc
      have HV := Lib.hid (show Calls Try.prog 114 #[.agg #[.int .i64 l[k].a, .int .i64 l[k].b, .string l[k].c]] wr fun e w' => e = .returned (.bool (okV l[k])) ∧ Ext wr w' from spec_ValueOK l[k].a l[k].b l[k].c wr (HX.out _ (List.getElem_mem hkl)))
      rcases hv : okV l[k] with _ | _
      · rw [hv] at HV
        have HA := Lib.hid (show (l.any fun x => !okV x) = true from List.any_eq_true.2 ⟨_, List.getElem_mem hkl, by rw [hv]; rfl⟩)
        clear hv
        go_wp2_with fail
        refine HV.out.mono ?_
        rintro e w1 ⟨rfl, E1⟩
        go_wp2_with fail
        go_ret
        exact ⟨ret_bool (by rw [HA.out]; rfl), hE.trans E1⟩
      · rw [hv] at HV
        have HA := Lib.hid hv
        clear hv
        go_wp2_with fail
        refine HV.out.mono ?_
        rintro e w1 ⟨rfl, E1⟩
        clear c0 c1 c2
        go_wp2_with fail
        go_roundw
        case rel => exact ⟨k + 1, by omega, by go_num, fun p hp hpq => by
          rcases Nat.lt_or_ge p k with h | h
          · exact HP.out p hp h
          · have : p = k := by omega
            subst this; exact HA.out, hE.trans E1⟩
        case measure => simp [intOf]; omega
    · have HA := Lib.hid (show (l.any fun x => !okV x) = false from List.any_eq_false.2 fun x hx => by
        obtain ⟨p, hp, rfl⟩ := List.getElem_of_mem hx
        rw [HP.out p hp (by rw [HL.out] at hp; omega)]; simp)
      go_wp2_with fail
      go_ret
      exact ⟨ret_bool (by rw [HA.out]; rfl), hE⟩
set_option maxHeartbeats 1000000 in
theorem spec_KeyBytes (A : Option Addr) (n cp : Nat) (l : List CValue) (w : World) (hl : l.length = n) (hn : n ≤ 1099511627776) (hx : ∀ x ∈ l, x.c.size ≤ maxLen) (hr : Rd w A (l.flatMap CValue.cs)) :
    Calls Try.prog 55 #[.slice A n cp] w fun e w' => ∃ v, e = .returned (.tuple #[v, .int .i64 (kbC l)]) ∧ Sl w' v (kbL l) ∧ Ext w w' := by
  have hL : kbL l = if 4096 < l.length then [] else if (l.any fun x => !okV x) = true then [] else keysB l := rfl
  have hC : kbC l = if 4096 < l.length then 2 else if (l.any fun x => !okV x) = true then 1 else 0 := rfl
  have HF := Lib.hid (spec_l01Values A n cp l w hl hn hx hr)
  have hok := fun (h : (l.any fun x => !okV x) = false) => all_of_any h
  rw [hl] at hL hC
  generalize kbL l = L at hL ⊢
  generalize kbC l = Cc at hC ⊢
  generalize hb : (l.any fun x => !okV x) = b at hL hC HF hok
  by_cases h4 : 4096 < n
  · have HL := Lib.hid (show L = [] by rw [hL, if_pos h4])
    have HC := Lib.hid (show Cc = 2 by rw [hC, if_pos h4])
    have d : decide ((4096 : Int) < (n : Int)) = true := decide_eq_true (by omega)
    clear hL hC hok hb hl hx hr
    go_enter Try.func55, Try.ntmps55
    go_wp2_with fail
    go_ret2
    rw [HL.out, HC.out]
    exact ⟨_, rfl, Sl.nil', (by repeat (first | exact Ext.refl _ | assumption | refine Ext.alloc ?_ _ | refine Ext.drewN ?_ _ | refine Ext.drew ?_ | refine Ext.set ?_ (by dsimp only; omega) _ | refine Ext.trans ?_ (by assumption)))⟩
  have d : decide ((4096 : Int) < (n : Int)) = false := decide_eq_false (by omega)
  rcases b with _ | _
  · have HL := Lib.hid (show L = keysB l by rw [hL, if_neg h4]; rfl)
    have HC := Lib.hid (show Cc = 0 by rw [hC, if_neg h4]; rfl)
    have HK := Lib.hid (fun W (E : Ext w W) => spec_l01Keys A n cp l W hl (by omega) (hok rfl) (hr.ext E))
    clear hL hC hok hb hl hx hr
    go_enter Try.func55, Try.ntmps55
    go_wp2_with fail
    refine HF.out.mono ?_
    rintro e w1 ⟨rfl, E1⟩
    go_wp2_with fail
    refine (HK.out _ E1).mono ?_
    rintro e w2 ⟨v, rfl, O2, E2⟩
    go_wp2_with fail
    go_ret2
    rw [HL.out, HC.out]
    exact ⟨_, rfl, Sl.own O2, E1.trans E2⟩
  · have HL := Lib.hid (show L = [] by rw [hL, if_neg h4]; rfl)
    have HC := Lib.hid (show Cc = 1 by rw [hC, if_neg h4]; rfl)
    clear hL hC hok hb hl hx hr
    go_enter Try.func55, Try.ntmps55
    go_wp2_with fail
    refine HF.out.mono ?_
    rintro e w1 ⟨rfl, E1⟩
    go_wp2_with fail
    go_ret2
    rw [HL.out, HC.out]
    exact ⟨_, rfl, Sl.nil', E1.alloc _⟩
set_option maxHeartbeats 8000000 in
theorem walk_FnExactKeyBytes (w : World) (A : Option Addr) (n cp : Nat) (l : List CValue) (hl : l.length = n) (hc : n ≤ cp) (hm : cp ≤ maxLen) (hx0 : ∀ x ∈ l, (Lit.int .i64 x.a).wf = true ∧ (Lit.int .i64 x.b).wf = true ∧ x.c.size ≤ maxLen) (hr : Rd w A (l.flatMap CValue.cs)) :
    Calls Try.prog 14 #[.slice A n cp] w fun e w' => e = .returned (.bool true) ∧ Ext w w' := by
  have hx : ∀ x ∈ l, x.c.size ≤ maxLen := fun x h => (hx0 x h).2.2
  have HLL := Lib.hid hl
  have HX := Lib.hid hx
  clear hl hx hx0
  unfold maxLen at hm
  have hI := fun W b (hW : Blk W b 113 (l.flatMap CValue.cs)) (hn : n ≤ 1099511627776) => impl_KeyBytes (some ⟨b, 0, none⟩) n n l W HLL.out hn HX.out hW.rd
  have hS := fun W b (hW : Blk W b 113 (l.flatMap CValue.cs)) (hn : n ≤ 1099511627776) => spec_KeyBytes (some ⟨b, 0, none⟩) n n l W HLL.out hn HX.out hW.rd
  have hll := kbL_len l
  generalize kbL l = L at hI hS hll
  generalize kbC l = C at hI hS
  have HI := Lib.hid hI
  have HS := Lib.hid hS
  clear hI hS
  have hnL : L.length ≤ 1099511627776 := by omega
  have hcc : (C != C) = false := by simp
  go_enter Try.func14, Try.ntmps14
  go_wp2_with fail
  refine (szValueS_any A n cp l 1048576 w HLL.out (by omega) (by omega) (by omega) HX.out hr).mono ?_
  rintro e w0 ⟨v, rfl, hv1, hv2, hG, E0⟩
  have HG := Lib.hid hG
  clear hG
  by_cases hv : v < 0
  · go_wp2_with fail
    go_ret
    exact ⟨rfl, E0⟩
  have hn2 : n ≤ 1048576 := by have := (HG.out (by omega)).1; rw [HLL.out] at this; omega
  have hn : n ≤ 1099511627776 := by omega
  have R0 := hr.ext E0
  go_wp2_with fail
  refine (toValueS_any A n cp l w0 HLL.out hn R0).mono ?_
  rintro e wa ⟨rfl, Ba, Ea⟩
  go_wp2_with fail
  refine (HS.out wa _ Ba hn).mono ?_
  rintro e w1 ⟨v1, rfl, S1, E1⟩
  have HS1 := Lib.hid S1
  clear S1
  have R1 := (R0.ext Ea).ext E1
  go_wp2_with fail
  refine (toValueS_any A n cp l w1 HLL.out hn R1).mono ?_
  rintro e wb ⟨rfl, Bb, Eb⟩
  go_wp2_with fail
  refine (HI.out wb _ Bb hn).mono ?_
  rintro e w2 ⟨v2, rfl, O2, E2⟩
  have HO2 := Lib.hid O2
  clear O2
  go_wp2_with fail
  refine (eqByteS_sl (Sl.own HO2.out) (HS1.out.ext (Eb.trans E2)) hnL).mono ?_
  rintro e w3 ⟨rfl, E3, -⟩
  have R3 := ((R1.ext Eb).ext E2).ext E3
  go_wp2_with fail
  refine (toValueS_any A n cp l w3 HLL.out hn R3).mono ?_
  rintro e wc ⟨rfl, Bc, Ec⟩
  have B3 : Blk wc w1.heap.size 113 (l.flatMap CValue.cs) := Bb.ext (E2.trans (E3.trans Ec))
  go_wp2_with fail
  refine (eqValueS_same _ _ n n n l wc HLL.out hn B3.rd Bc.rd).mono ?_
  rintro e w4 ⟨rfl, E4⟩
  have B4 := B3.ext E4
  go_wp2_with fail
  refine (markValueS_any w1.heap.size n n 1 l [] w4 (by omega) (by omega) (by omega) HLL.out (by rw [List.append_nil]; exact B4)).mono ?_
  rintro e w5 ⟨rfl, B5, G5⟩
  have O4 := own_ext HO2.out (E3.trans (Ec.trans E4))
  have X5 : Ext w1 w5 := (Eb.trans (E2.trans (E3.trans (Ec.trans E4)))).grownBy G5 (Nat.le_refl _)
  have HO5 := Lib.hid (own_far O4 G5 (own_apart O4 B4 (by decide)).symm)
  clear O4 HO2 B4 B5 G5 B3 Bc Bb Ba R3 R0
  go_wp2_with fail
  refine (eqByteS_sl (Sl.own HO5.out) (HS1.out.ext X5) hnL).mono ?_
  rintro e w6 ⟨rfl, E6, -⟩
  go_wp2_with fail
  refine (markByteS_any wb.heap.size L.length v2 1 _ w6 hnL (by omega) (by omega) (own_ext HO5.out E6)).mono ?_
  rintro e w7 ⟨rfl, O7, G7⟩
  have X7 : Ext w1 w7 := (X5.trans E6).grown G7 (fun k hk => Nat.le_trans Eb.le (own_blk HO5.out k hk))
  have HO7 := Lib.hid O7
  clear O7 G7
  obtain ⟨A2, cap2, rfl⟩ := own_slice HO5.out
  go_wp2_with fail
  refine (heldByteS_any A2 L.length cap2 1 w7 hnL (by omega) (by omega) (own_rd' HO7.out).2).mono ?_
  rintro e w8 ⟨rfl, rfl⟩
  go_wp2_with fail
  refine (toValueS_any A n cp l w7 HLL.out hn (R1.ext X7)).mono ?_
  rintro e wd ⟨rfl, Bd, Ed⟩
  go_wp2_with fail
  refine (HI.out wd _ Bd hn).mono ?_
  rintro e w9 ⟨v9, rfl, O9, E9⟩
  have HO9 := Lib.hid O9
  clear O9
  go_wp2_with fail
  refine (eqByteS_sl (Sl.own HO9.out) (HS1.out.ext (X7.trans (Ed.trans E9))) hnL).mono ?_
  rintro e wx ⟨rfl, Ex, -⟩
  go_wp2_with fail
  refine (heldByteS_any A2 L.length cap2 1 wx hnL (by omega) (by omega) (own_rd' (own_ext HO7.out (Ed.trans (E9.trans Ex)))).2).mono ?_
  rintro e wy ⟨rfl, rfl⟩
  go_wp2_with fail
  go_ret
  exact ⟨rfl, E0.trans (Ea.trans (E1.trans (X7.trans (Ed.trans (E9.trans Ex)))))⟩
end Go.Proofs.Yteaefjicpefgnaa
