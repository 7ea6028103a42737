/- The walks of PageBytes. -/
import Derived.Test.YteaefjicpefgnaaFields2
import Derived.Test.YteaefjicpefgnaaPage
import Derived.Test.YteaefjicpefgnaaRg
namespace Go.Proofs.Yteaefjicpefgnaa
open Go.RowKit Go.Deep
set_option linter.unusedVariables false
set_option maxRecDepth 100000
/-- a number in two bytes -/
def two (n : Nat) : List UInt8 := [UInt8.ofNat (n / 256), UInt8.ofNat n]
theorem two_cells (n : Nat) (hn : n < 65536) : [Value.int IntKind.u8 ((n : Int) / 256), Value.int IntKind.u8 ((n : Int) % 256)] = (two n).map fun c => Value.int .u8 (c.toNat : Int) := by
  simp only [two, List.map_cons, List.map_nil, UInt8.toNat_ofNat']
  have e1 : ((n / 256 % 2 ^ 8 : Nat) : Int) = (n : Int) / 256 := by omega
  have e4 : ((n % 2 ^ 8 : Nat) : Int) = (n : Int) % 256 := by omega
  rw [e1, e4]
set_option maxHeartbeats 1000000 in
theorem spec_l01Number2 (n : Nat) (w : World) (hn : n < 65536) :
    Calls Try.prog 107 #[.int .i64 (n : Int), .int .i64 2] w fun e w' => ∃ v', e = .returned v' ∧ w'.ownsRow w.heap.size 5 1 v' 2 ((two n).map fun c => Value.int .u8 (c.toNat : Int)) ∧ Ext w w' := by
  obtain ⟨i0, hi, hz0, hz1, hz2⟩ := info_parts info_ByteS
  have hinit := World.ownsRow_lit (base := w.heap.size) (e := 5) (size := 1) w #[] 0 (Nat.le_refl _) (by unfold maxLen; omega) rfl
  go_enter Try.func107, Try.ntmps107
  go_wp2
  go_loopw [6, 5] (fun i v wr => ∃ k : Nat, k ≤ 2 ∧ i = .int .i64 (1 - (k : Int)) ∧ wr.ownsRow w.heap.size 5 1 v k (((two n).take k).map fun c => Value.int .u8 (c.toNat : Int)) ∧ Ext w wr) (fun i _ _ => (intOf i + 1).toNat)
  case atStart => exact ⟨0, by omega, rfl, hinit, (Ext.refl _).alloc _⟩
  case round =>
    obtain ⟨k, hk, rfl, hown, hE⟩ := hrel
    have HF := Lib.hid (two_cells n hn)
    have HO := Lib.hid hown
    have hle := hE.le
    clear hown
    obtain hk4 | hk4 : k = 2 ∨ k < 2 := by omega
    · subst hk4
      go_wp2
      go_ret
      exact ⟨_, rfl, HO.out, hE⟩
    · obtain rfl | rfl : k = 0 ∨ k = 1 := by omega
      · have e3 : (1 - ((0 : Nat) : Int)) = 1 := rfl
        have e4 : ((two n).take 0).map (fun c => Value.int .u8 (c.toNat : Int)) ++ [Value.int .u8 ((n : Int) / 256)] = ((two n).take 1).map fun c => Value.int .u8 (c.toNat : Int) := by rw [List.map_take, List.map_take, ← HF.out]; rfl
        rw [e3]
        go_wp2_with (at_builtin; refine wpList_append_own _ rfl (.tmp 14) (.tmp 21) 22 rfl w.heap.size 5 i0 (.int .u8 0) 1 1 Try.underlying22 hi hz0 hz1 hz2 rfl (by decide) _ 0 _ rfl (own_ext HO.out ((Ext.refl _).alloc _)) ⟨wr.heap.size, 0, none⟩ 1 1 [Value.int .u8 ((n : Int) / 256)] rfl rfl (rd_add (Blk.new wr _ _).rd) (by intro u hu; simp at hu; subst hu; rfl) (by unfold maxLen; omega) (by omega) (by simp; omega) ?_)
        intro v' w2 ho hg _
        go_wp2_with fail
        go_roundw
        case rel => exact ⟨1, by omega, by first | rfl | go_num, e4 ▸ ho, (hE.alloc _).grown hg (own_blk HO.out)⟩
        case measure => simp [intOf]
      · have e3 : (1 - ((1 : Nat) : Int)) = 0 := rfl
        have e4 : ((two n).take 1).map (fun c => Value.int .u8 (c.toNat : Int)) ++ [Value.int .u8 ((n : Int) % 256)] = ((two n).take 2).map fun c => Value.int .u8 (c.toNat : Int) := by rw [List.map_take, List.map_take, ← HF.out]; rfl
        rw [e3]
        go_wp2_with (at_builtin; refine wpList_append_own _ rfl (.tmp 14) (.tmp 21) 22 rfl w.heap.size 5 i0 (.int .u8 0) 1 1 Try.underlying22 hi hz0 hz1 hz2 rfl (by decide) _ 1 _ rfl (own_ext HO.out ((Ext.refl _).alloc _)) ⟨wr.heap.size, 0, none⟩ 1 1 [Value.int .u8 ((n : Int) % 256)] rfl rfl (rd_add (Blk.new wr _ _).rd) (by intro u hu; simp at hu; subst hu; rfl) (by unfold maxLen; omega) (by omega) (by simp; omega) ?_)
        intro v' w2 ho hg _
        go_wp2_with fail
        go_roundw
        case rel => exact ⟨2, by omega, by first | rfl | go_num, e4 ▸ ho, (hE.alloc _).grown hg (own_blk HO.out)⟩
        case measure => simp [intOf]
/-- the bytes of a page -/
def pgRaw (no k : Nat) (ts : List ByteArray) : List UInt8 := [112, UInt8.ofNat no] ++ two k ++ fieldsB ts
theorem page_facts {k : Int} {l : List ByteArray} (h : pageB k l = true) : 0 ≤ k ∧ k ≤ 1000 ∧ l.length = 4 ∧ ∀ s ∈ l, s.size ≤ 30 := by
  unfold pageB at h
  simp only [Bool.and_eq_true, decide_eq_true_eq, Bool.not_eq_true', List.any_eq_false] at h
  obtain ⟨⟨⟨h1, h2⟩, h3⟩, h4⟩ := h
  exact ⟨h1, h2, h3, fun s hs => by have := h4 s hs; omega⟩
theorem page_bytes_le {k : Int} {l : List ByteArray} (h : pageB k l = true) : (fieldsB l).length ≤ 1000 := by
  obtain ⟨_, _, h3, h4⟩ := page_facts h
  match l, h3 with
  | [a, b, c, d], _ =>
    have ha := h4 a (by simp)
    have hb := h4 b (by simp)
    have hc := h4 c (by simp)
    have hd := h4 d (by simp)
    simp [fieldsB]
    omega
theorem pgCells (no k : Nat) (h1 : no ≤ 255) (h2 : k ≤ 1000) : [Value.int .u8 112, Value.int .u8 (no : Int), Value.int .u8 ((k : Int) / 256), Value.int .u8 ((k : Int) % 256)] = ([112, UInt8.ofNat no] ++ two k).map fun c => Value.int .u8 (c.toNat : Int) := by
  rw [List.map_append, ← two_cells k (by omega)]
  have : ((UInt8.ofNat no).toNat : Int) = no := by rw [UInt8.toNat_ofNat']; omega
  simp only [List.map_cons, List.map_nil, this]; rfl
set_option maxHeartbeats 1000000 in
theorem impl_pageBytes (no k : Nat) (A : Option Addr) (n cp : Nat) (l : List ByteArray) (w : World) (h1 : no ≤ 255) (hk : pageB k l = true) (hl : l.length = n) (hr : Rd w A (l.map fun c => Value.string c)) (hs : Stay w w A 9) :
    Calls Try.prog 79 #[.int .i64 (no : Int), .agg #[.int .i64 (k : Int), .slice A n cp]] w fun e w' => ∃ v, e = .returned v ∧ w'.ownsRow w.heap.size 5 1 v (sealB (pgRaw no k l)).length ((sealB (pgRaw no k l)).map fun c => Value.int .u8 (c.toNat : Int)) ∧ Ext w w' := by
  have hk2 := page_facts hk
  have hlen := page_bytes_le hk
  have hk3 : k ≤ 1000 := by omega
  have hcells := Lib.hid (pgCells no k h1 hk3)
  have W1 : Ext w (w.alloc (.cells #[.int .i64 (k : Int), .slice A n cp] 45)) := (by repeat (first | exact Ext.refl _ | assumption | refine Ext.alloc ?_ _ | refine Ext.drewN ?_ _ | refine Ext.drew ?_ | refine Ext.set ?_ (by dsimp only; omega) _ | refine Ext.trans ?_ (by assumption)))
  have hinit := World.ownsRow_lit (base := w.heap.size) (e := 5) (size := 1) (w.alloc (.cells #[.int .i64 (k : Int), .slice A n cp] 45)) #[Value.int .u8 112, Value.int .u8 (no : Int), Value.int .u8 ((k : Int) / 256), Value.int .u8 ((k : Int) % 256)] 4 W1.le (by unfold maxLen; omega) rfl
  rw [show (#[Value.int .u8 112, Value.int .u8 (no : Int), Value.int .u8 ((k : Int) / 256), Value.int .u8 ((k : Int) % 256)] : Array Value).toList = _ from hcells.out, World.size_alloc] at hinit
  have HP := Lib.hid (impl_putFields w.heap.size _ 4 ([112, UInt8.ofNat no] ++ two k) A n cp l _ hl (by simp [two]; omega) (by simp; omega) (hr.ext (by repeat (first | exact Ext.refl _ | assumption | refine Ext.alloc ?_ _ | refine Ext.drewN ?_ _ | refine Ext.drew ?_ | refine Ext.set ?_ (by dsimp only; omega) _ | refine Ext.trans ?_ (by assumption)))) (Stay.move hs (by repeat (first | exact Ext.refl _ | assumption | refine Ext.alloc ?_ _ | refine Ext.drewN ?_ _ | refine Ext.drew ?_ | refine Ext.set ?_ (by dsimp only; omega) _ | refine Ext.trans ?_ (by assumption)))) hinit)
  have h1I : (no : Int) ≤ 255 := by omega
  have hkI : (k : Int) ≤ 1000 := by omega
  clear hk2 hinit hk hl hr hs
  go_enter Try.func79, Try.ntmps79
  go_wp2_with fail
  refine (HP.out).mono ?_
  rintro e w2 ⟨v2, rfl, O2, E2⟩
  have hlt := Below.size E2
  simp at hlt
  have HS := Lib.hid (impl_sealed w.heap.size v2 _ (pgRaw no k l) w2 (by simp [two]; omega) (by omega) O2)
  clear O2
  go_wp2_with fail
  refine (HS.out).mono ?_
  rintro e w3 ⟨v3, rfl, O3, E3⟩
  go_wp2_with fail
  go_ret
  refine ⟨v3, rfl, ?_, ?_⟩
  · have e : (sealB (pgRaw no k l)).length = (([112, UInt8.ofNat no] ++ two k) ++ fieldsB l).length + 4 := by unfold sealB pgRaw; rw [List.length_append, four_len]
    rw [e]; exact O3
  · exact Below.trans (Below.trans (W1.alloc _) E2) E3
set_option maxHeartbeats 1000000 in
theorem spec_l03Bytes (no k : Nat) (A : Option Addr) (n cp : Nat) (l : List ByteArray) (w : World) (h1 : no ≤ 255) (hk : pageB k l = true) (hl : l.length = n) (hr : Rd w A (l.map fun c => Value.string c)) :
    Calls Try.prog 77 #[.int .i64 (no : Int), .agg #[.int .i64 (k : Int), .slice A n cp]] w fun e w' => ∃ v, e = .returned v ∧ w'.ownsRow w.heap.size 5 1 v (sealB (pgRaw no k l)).length ((sealB (pgRaw no k l)).map fun c => Value.int .u8 (c.toNat : Int)) ∧ Ext w w' := by
  have hk2 := page_facts hk
  have hlen := page_bytes_le hk
  have hk3 : k ≤ 1000 := by omega
  have h1I : (no : Int) ≤ 255 := by omega
  have hkI : (k : Int) ≤ 1000 := by omega
  have W1 : Ext w (w.alloc (.cells #[.int .i64 (k : Int), .slice A n cp] 45)) := (by repeat (first | exact Ext.refl _ | assumption | refine Ext.alloc ?_ _ | refine Ext.drewN ?_ _ | refine Ext.drew ?_ | refine Ext.set ?_ (by dsimp only; omega) _ | refine Ext.trans ?_ (by assumption)))
  have hX := Blk.new w 45 [.int .i64 (k : Int), .slice A n cp]
  have hn4 : n ≤ 4 := by omega
  clear hk2 hk
  go_enter Try.func77, Try.ntmps77
  go_wp2_with fail
  generalize w.alloc (.cells #[.int .i64 (k : Int), .slice A n cp] 45) = w1 at W1 hX ⊢
  obtain ⟨c0, c1⟩ := hX.cells2
  refine rg_start (by kernel_rfl) (Ext.refl w1) (fun hE0 => ?_)
  (refine rg_take (v := ?_) 0 rfl (by kernel_rfl) (by kernel_rfl) (by kernel_rfl) (fun _ _ _ h => h) (by rfl) (by assumption) (fun W hW => ?_) ?_; rotate_left; (focus (go_simp; try with_reducible rfl)); simp only [List.setIfInBounds_toArray, List.set_cons_succ, List.set_cons_zero])
  (refine rg_take (v := ?_) 1 rfl (by kernel_rfl) (by kernel_rfl) (by kernel_rfl) (fun _ _ _ h => h) (by rfl) (by assumption) (fun W hW => ?_) ?_; rotate_left; (focus (go_simp; try with_reducible rfl)); simp only [List.setIfInBounds_toArray, List.set_cons_succ, List.set_cons_zero])
  (refine rg_take (v := ?_) 3 rfl (by kernel_rfl) (by kernel_rfl) (by kernel_rfl) (fun _ _ _ h => h) (by rfl) (by assumption) (fun W hW => ?_) ?_; rotate_left; (focus (go_simp; try with_reducible rfl)); simp only [List.setIfInBounds_toArray, List.set_cons_succ, List.set_cons_zero])
  (refine rg_take (v := ?_) 4 rfl (by kernel_rfl) (by kernel_rfl) (by kernel_rfl) (fun _ _ _ h => h) (by rfl) (by assumption) (fun W hW => ?_) ?_; rotate_left; (focus (have k0 := hW.cell c0; go_simp; try with_reducible rfl)); simp only [List.setIfInBounds_toArray, List.set_cons_succ, List.set_cons_zero])
  (refine rg_take (v := ?_) 7 rfl (by kernel_rfl) (by kernel_rfl) (by kernel_rfl) (fun _ _ _ h => h) (by rfl) (by assumption) (fun W hW => ?_) ?_; rotate_left; (focus (go_simp; try with_reducible rfl)); simp only [List.setIfInBounds_toArray, List.set_cons_succ, List.set_cons_zero])
  (refine rg_take (v := ?_) 8 rfl (by kernel_rfl) (by kernel_rfl) (by kernel_rfl) (fun _ _ _ h => h) (by rfl) (by assumption) (fun W hW => ?_) ?_; rotate_left; (focus (have k1 := hW.cell c1; go_simp; try with_reducible rfl)); simp only [List.setIfInBounds_toArray, List.set_cons_succ, List.set_cons_zero])
  have hpC : [Value.int .u8 112, Value.int .u8 (no : Int)] = ([112, UInt8.ofNat no] : List UInt8).map fun c => Value.int .u8 (c.toNat : Int) := by
    have : ((UInt8.ofNat no).toNat : Int) = no := by rw [UInt8.toNat_ofNat']; omega
    simp only [List.map_cons, List.map_nil, this]; rfl
  have HP := Lib.hid hpC
  clear hpC
  have hwr : IntKind.u8.wrap (no : Int) = (no : Int) := by rw [IntKind.wrap_u8]; omega
  obtain ⟨i0, hi, hz0, hz1, hz2⟩ := info_parts info_ByteS
  have HLF := Lib.hid (fun W (h : Ext w1 W) => spec_l01Fields A n cp l W hl (by omega) (by omega) ((hr.ext W1).ext h))
  have HWr := Lib.hid hwr
  refine rg_two 2 5 (by kernel_rfl) rfl (by rfl) rfl (by rfl) (fun K hK => ?_) (fun K hK => ?_)
  focus
    go_simp
    have O7 := World.ownsRow_lit (base := w1.heap.size) (e := 5) (size := 1) w1.drew #[Value.int .u8 112, Value.int .u8 (no : Int)] 2 hE0.le (by unfold maxLen; omega) rfl
    rw [show (#[Value.int .u8 112, Value.int .u8 (no : Int)] : Array Value).toList = _ from HP.out] at O7
    refine hK _ _ (by exact hE0.alloc _) (fun hE1 => ?_)
    clear hK K
    have HO7 := Lib.hid O7
    clear O7
    try simp only [List.setIfInBounds_toArray, List.set_cons_succ, List.set_cons_zero]
    (refine rg_one 5 (by kernel_rfl) rfl (by rfl) (fun K hK => ?_); go_simp)
    refine (spec_l01Number2 k _ (by omega)).mono ?_
    rintro e W ⟨v10, rfl, O10, E2⟩
    refine hK _ _ (hE1.trans E2) (fun hE2 => ?_)
    clear hK K
    try simp only [List.setIfInBounds_toArray, List.set_cons_succ, List.set_cons_zero]
    have O7 := own_ext HO7.out E2
    have O10 := own_base O10 hE1.le
    generalize hv7 : Value.slice (some ⟨w1.heap.size, 0, none⟩) 2 2 = v7
    have O7 := hv7 ▸ O7
    clear HO7 E2 hE1 hE0
  rotate_left
  focus
    go_simp
    refine (spec_l01Number2 k _ (by omega)).mono ?_
    rintro e w2 ⟨v10, rfl, O10, E2⟩
    refine hK _ _ (hE0.trans E2) (fun hE1 => ?_)
    clear hK K
    try simp only [List.setIfInBounds_toArray, List.set_cons_succ, List.set_cons_zero]
    have HO10 := Lib.hid O10
    clear O10
    (refine rg_one 2 (by kernel_rfl) rfl (by rfl) (fun K hK => ?_); go_simp)
    have O7 := World.ownsRow_lit (base := w1.heap.size) (e := 5) (size := 1) w2 #[Value.int .u8 112, Value.int .u8 (no : Int)] 2 hE1.le (by unfold maxLen; omega) rfl
    rw [show (#[Value.int .u8 112, Value.int .u8 (no : Int)] : Array Value).toList = _ from HP.out] at O7
    refine hK _ _ (hE1.alloc _) (fun hE2 => ?_)
    clear hK K
    try simp only [List.setIfInBounds_toArray, List.set_cons_succ, List.set_cons_zero]
    have O10 := own_base (own_ext HO10.out ((Ext.refl w2).alloc (.cells #[Value.int .u8 112, Value.int .u8 (no : Int)] 5))) hE0.le
    generalize hW : w2.alloc (.cells #[Value.int .u8 112, Value.int .u8 (no : Int)] 5) = W at O7 O10 hE2 ⊢
    generalize hv7 : Value.slice (some ⟨w2.heap.size, 0, none⟩) 2 2 = v7 at O7 ⊢
    clear HO10 E2 hE1 hE0 hW
  all_goals
    have HO7 := Lib.hid O7
    obtain ⟨g, cap, cs, rfl, hgB, hcap, hcapm, hb, hcsl, hcst⟩ := own_form O10 (by omega)
    have hrd := Rd.take_ (n := 2) hb (by simpa using hcst)
    have hbl := own_blk O7
    clear O10 hv7 O7
    refine rg_one 6 (by kernel_rfl) rfl (by rfl) (fun K hK => ?_)
    refine wp_append_own (.tmp 7) (.tmp 10) 22 w1.heap.size 5 i0 (.int .u8 0) 1 1 Try.underlying22 hi hz0 hz1 hz2 rfl (by decide) _ 2 _ rfl HO7.out ⟨g, 0, none⟩ 2 cap ((two k).map fun c => Value.int .u8 (c.toNat : Int)) rfl rfl (rd_add hrd) (one_bytes _) (by unfold maxLen; omega) (by omega) hE2.le ?_
    intro v11 w3 O11 G11
    have hE3 : Ext w1 w3 := hE2.grown G11 hbl
    refine hK _ _ hE3 (fun _ => ?_)
    clear hK K
    simp only [Act.put]
    try simp only [List.setIfInBounds_toArray, List.set_cons_succ, List.set_cons_zero]
    have HO11 := Lib.hid O11
    clear O11 G11 hE2 HO7 hb hcsl hcst hrd hbl
    (refine rg_one 9 (by kernel_rfl) rfl (by rfl) (fun K hK => ?_); go_simp)
    refine (HLF.out _ hE3).mono ?_
    rintro e w4 ⟨v14, rfl, O14, E4⟩
    refine hK _ _ (hE3.trans E4) (fun hE4 => ?_)
    clear hK K
    try simp only [List.setIfInBounds_toArray, List.set_cons_succ, List.set_cons_zero]
    obtain ⟨g4, cap4, cs4, rfl, hgB4, hcap4, hcapm4, hb4, hcsl4, hcst4⟩ := own_form O14 (by simp [fieldsB])
    have hrd4 := Rd.take_ (n := (fieldsB l).length) hb4 (by simpa using hcst4)
    have O11 := own_ext HO11.out E4
    have HO11 := Lib.hid O11
    have hbl := own_blk O11
    clear O11 O14
    refine rg_one 10 (by kernel_rfl) rfl (by rfl) (fun K hK => ?_)
    refine wp_append_own (.tmp 11) (.tmp 14) 22 w1.heap.size 5 i0 (.int .u8 0) 1 1 Try.underlying22 hi hz0 hz1 hz2 rfl (by decide) _ (2 + 2) _ rfl HO11.out ⟨g4, 0, none⟩ (fieldsB l).length cap4 ((fieldsB l).map fun c => Value.int .u8 (c.toNat : Int)) rfl (by simp) (rd_add hrd4) (one_bytes _) (by unfold maxLen; omega) (by omega) hE4.le ?_
    intro v15 w5 O15 G15
    have hE5 : Ext w1 w5 := hE4.grown G15 hbl
    refine hK _ _ hE5 (fun _ => ?_)
    clear hK K
    simp only [Act.put]
    try simp only [List.setIfInBounds_toArray, List.set_cons_succ, List.set_cons_zero]
    rw [← List.map_append, ← List.map_append] at O15
    have HO15 := Lib.hid O15
    clear O15 G15 hE4 HO11 hb4 hcsl4 hcst4 hrd4 hbl
    (refine rg_one 11 (by kernel_rfl) rfl (by rfl) (fun K hK => ?_); go_simp)
    refine (spec_l03Sealed w1.heap.size v15 _ _ w5 (by omega) hE5.le HO15.out).mono ?_
    rintro e w6 ⟨v16, rfl, O16, E16⟩
    have hE6 : Ext w1 w6 := Below.trans hE5 E16
    refine hK _ _ hE6 (fun _ => ?_)
    clear hK K
    try simp only [List.setIfInBounds_toArray, List.set_cons_succ, List.set_cons_zero]
    (refine rg_take (v := ?_) 12 rfl (by kernel_rfl) (by kernel_rfl) (by kernel_rfl) (fun _ _ _ h => h) (by rfl) (by assumption) (fun W hW => ?_) ?_; rotate_left; (focus (go_simp; try with_reducible rfl)); simp only [List.setIfInBounds_toArray, List.set_cons_succ, List.set_cons_zero])
    refine rg_done (by kernel_rfl) ?_
    go_wp2_with fail
    go_ret
    refine ⟨v16, rfl, ?_, W1.trans hE6⟩
    have e : (sealB (pgRaw no k l)).length = 2 + 2 + (fieldsB l).length + 4 := by unfold sealB pgRaw; rw [List.length_append, four_len]; simp [two]; omega
    rw [e]; exact own_base O16 W1.le
/-- what PageBytes answers -/
def pbL (no k : Int) (l : List ByteArray) : List UInt8 := if pageB k l = true ∧ 0 ≤ no ∧ no ≤ 255 then sealB (pgRaw no.toNat k.toNat l) else []
def pbC (no k : Int) (l : List ByteArray) : Int := if pageB k l = true then (if 0 ≤ no ∧ no ≤ 255 then 0 else 4) else 1
theorem pb_bad {no k : Int} {l : List ByteArray} (h : pageB k l = false) : pbL no k l = [] ∧ pbC no k l = 1 := by
  unfold pbL pbC; rw [h]; simp
theorem pb_range {no k : Int} {l : List ByteArray} (h : pageB k l = true) (h2 : ¬ (0 ≤ no ∧ no ≤ 255)) : pbL no k l = [] ∧ pbC no k l = 4 := by
  unfold pbL pbC; rw [if_neg (fun x => h2 x.2), if_pos h, if_neg h2]; exact ⟨rfl, rfl⟩
theorem pb_good {no k : Nat} {l : List ByteArray} (h : pageB k l = true) (h2 : no ≤ 255) : pbL no k l = sealB (pgRaw no k l) ∧ pbC no k l = 0 := by
  unfold pbL pbC; rw [if_pos ⟨h, by omega, by omega⟩, if_pos h, if_pos ⟨by omega, by omega⟩]; exact ⟨rfl, rfl⟩
theorem nil_own8 {w : World} {B : Nat} {e : TypeId} : w.ownsRow B e 1 (.slice none 0 0) 0 [] := World.ownsRow_nil _ _ _ _
theorem pbL_len (no k : Int) (l : List ByteArray) : (pbL no k l).length ≤ 2000 := by
  unfold pbL; split
  · rename_i h
    have := page_bytes_le h.1
    unfold sealB pgRaw; rw [List.length_append, four_len]; simp [two]; omega
  · simp
set_option maxHeartbeats 1000000 in
theorem impl_PageBytes (no k : Int) (A : Option Addr) (n cp : Nat) (l : List ByteArray) (w : World) (hl : l.length = n) (hn : n ≤ 1099511627776) (hx : ∀ s ∈ l, s.size ≤ maxLen) (hr : Rd w A (l.map fun c => Value.string c)) (hs : Stay w w A 9) :
    Calls Try.prog 37 #[.int .i64 no, .agg #[.int .i64 k, .slice A n cp]] w fun e w' => ∃ v, e = .returned (.tuple #[v, .int .i64 (pbC no k l)]) ∧ w'.ownsRow w.heap.size 5 1 v (pbL no k l).length ((pbL no k l).map fun c => Value.int .u8 (c.toNat : Int)) ∧ Ext w w' := by
  have E0 : Ext w (w.alloc (.cells #[.int .i64 k, .slice A n cp] 45)) := (by repeat (first | exact Ext.refl _ | assumption | refine Ext.alloc ?_ _ | refine Ext.drewN ?_ _ | refine Ext.drew ?_ | refine Ext.set ?_ (by dsimp only; omega) _ | refine Ext.trans ?_ (by assumption)))
  have hX := Blk.new w 45 [.int .i64 k, .slice A n cp]
  have HO := Lib.hid (impl_PageOK k A n cp l _ hl hn hx (hr.ext E0))
  rcases hk : pageB k l with _ | _
  · have HK := Lib.hid hk
    have HV := Lib.hid (pb_bad (no := no) hk)
    clear hl hr hs hx hk
    go_enter Try.func37, Try.ntmps37
    go_wp2_with fail
    refine (HO.out).mono ?_
    rintro e w1 ⟨rfl, E1⟩
    rw [HK.out]
    go_wp2_with fail
    go_ret2
    rw [HV.out.1, HV.out.2]
    exact ⟨_, rfl, nil_own8, E0.trans E1⟩
  have HK := Lib.hid hk
  by_cases h0 : 0 ≤ no ∧ no ≤ 255
  · obtain ⟨m, rfl⟩ := Int.eq_ofNat_of_zero_le h0.1
    have h2 : (m : Int) ≤ 255 := h0.2
    have h3 : (0 : Int) ≤ (m : Int) := h0.1
    have hk2 := page_facts hk
    obtain ⟨q, rfl⟩ := Int.eq_ofNat_of_zero_le hk2.1
    have HV := Lib.hid (pb_good (no := m) hk (by omega))
    have HB := Lib.hid (fun W (E : Ext w W) => impl_pageBytes m q A n cp l W (by omega) hk hl (hr.ext E) (hs.move E))
    clear hl hr hs hx hk h0 hk2
    go_enter Try.func37, Try.ntmps37
    go_wp2_with fail
    refine (HO.out).mono ?_
    rintro e w1 ⟨rfl, E1⟩
    rw [HK.out]
    obtain ⟨c0, c1⟩ := (hX.ext E1).cells2
    go_wp2_with (first | (go_at_call 62; go_in))
    refine (HB.out _ (E0.trans E1)).mono ?_
    rintro e w2 ⟨v, rfl, O2, E2⟩
    go_wp2_with fail
    go_ret2
    rw [HV.out.1, HV.out.2]
    exact ⟨_, rfl, own_base O2 (E0.trans E1).le, E0.trans (E1.trans E2)⟩
  · have HV := Lib.hid (pb_range hk h0)
    by_cases h1 : 0 ≤ no
    · have h2 : ¬ no ≤ 255 := fun h => h0 ⟨h1, h⟩
      have d2 : decide (no ≤ 255) = false := decide_eq_false h2
      clear hl hr hs hx hk h0
      go_enter Try.func37, Try.ntmps37
      go_wp2_with fail
      refine (HO.out).mono ?_
      rintro e w1 ⟨rfl, E1⟩
      rw [HK.out]
      go_wp2_with (first | (go_at_call 62; go_in))
      go_ret2
      rw [HV.out.1, HV.out.2]
      exact ⟨_, rfl, nil_own8, E0.trans E1⟩
    · clear hl hr hs hx hk h0
      go_enter Try.func37, Try.ntmps37
      go_wp2_with fail
      refine (HO.out).mono ?_
      rintro e w1 ⟨rfl, E1⟩
      rw [HK.out]
      go_wp2_with (first | (go_at_call 62; go_in))
      go_ret2
      rw [HV.out.1, HV.out.2]
      exact ⟨_, rfl, nil_own8, E0.trans E1⟩
set_option maxHeartbeats 1000000 in
theorem spec_PageBytes (no k : Int) (A : Option Addr) (n cp : Nat) (l : List ByteArray) (w : World) (hl : l.length = n) (hn : n ≤ 1099511627776) (hx : ∀ s ∈ l, s.size ≤ maxLen) (hr : Rd w A (l.map fun c => Value.string c)) :
    Calls Try.prog 35 #[.int .i64 no, .agg #[.int .i64 k, .slice A n cp]] w fun e w' => ∃ v, e = .returned (.tuple #[v, .int .i64 (pbC no k l)]) ∧ w'.ownsRow w.heap.size 5 1 v (pbL no k l).length ((pbL no k l).map fun c => Value.int .u8 (c.toNat : Int)) ∧ Ext w w' := by
  have E0 : Ext w (w.alloc (.cells #[.int .i64 k, .slice A n cp] 45)) := (by repeat (first | exact Ext.refl _ | assumption | refine Ext.alloc ?_ _ | refine Ext.drewN ?_ _ | refine Ext.drew ?_ | refine Ext.set ?_ (by dsimp only; omega) _ | refine Ext.trans ?_ (by assumption)))
  have hX := Blk.new w 45 [.int .i64 k, .slice A n cp]
  have HO := Lib.hid (spec_PageOK k A n cp l _ hl hn hx (hr.ext E0))
  have HN := Lib.hid (fun (W : World) (E : Ext w W) => World.ownsRow_lit (base := w.heap.size) (e := 5) (size := 1) W #[] 0 E.le (by unfold maxLen; omega) rfl)
  rcases hk : pageB k l with _ | _
  · have HK := Lib.hid hk
    have HV := Lib.hid (pb_bad (no := no) hk)
    clear hl hr hx hk
    go_enter Try.func35, Try.ntmps35
    go_wp2_with fail
    refine (HO.out).mono ?_
    rintro e w1 ⟨rfl, E1⟩
    rw [HK.out]
    go_wp2_with fail
    go_ret2
    rw [HV.out.1, HV.out.2]
    exact ⟨_, rfl, HN.out _ (E0.trans E1), (E0.trans E1).alloc _⟩
  have HK := Lib.hid hk
  by_cases h0 : 0 ≤ no ∧ no ≤ 255
  · obtain ⟨m, rfl⟩ := Int.eq_ofNat_of_zero_le h0.1
    have h2 : (m : Int) ≤ 255 := h0.2
    have h3 : (0 : Int) ≤ (m : Int) := h0.1
    have hk2 := page_facts hk
    obtain ⟨q, rfl⟩ := Int.eq_ofNat_of_zero_le hk2.1
    have HV := Lib.hid (pb_good (no := m) hk (by omega))
    have HB := Lib.hid (fun W (E : Ext w W) => spec_l03Bytes m q A n cp l W (by omega) hk hl (hr.ext E))
    clear hl hr hx hk h0 hk2
    go_enter Try.func35, Try.ntmps35
    go_wp2_with fail
    refine (HO.out).mono ?_
    rintro e w1 ⟨rfl, E1⟩
    rw [HK.out]
    obtain ⟨c0, c1⟩ := (hX.ext E1).cells2
    go_wp2_with (first | (go_at_call 60; go_in))
    refine (HB.out _ (E0.trans E1)).mono ?_
    rintro e w2 ⟨v, rfl, O2, E2⟩
    go_wp2_with fail
    go_ret2
    rw [HV.out.1, HV.out.2]
    exact ⟨_, rfl, own_base O2 (E0.trans E1).le, E0.trans (E1.trans E2)⟩
  · have HV := Lib.hid (pb_range hk h0)
    by_cases h1 : 0 ≤ no
    · have h2 : ¬ no ≤ 255 := fun h => h0 ⟨h1, h⟩
      have d2 : decide (no ≤ 255) = false := decide_eq_false h2
      clear hl hr hx hk h0
      go_enter Try.func35, Try.ntmps35
      go_wp2_with fail
      refine (HO.out).mono ?_
      rintro e w1 ⟨rfl, E1⟩
      rw [HK.out]
      go_wp2_with (first | (go_at_call 60; go_in))
      go_ret2
      rw [HV.out.1, HV.out.2]
      exact ⟨_, rfl, HN.out _ (E0.trans E1), (E0.trans E1).alloc _⟩
    · clear hl hr hx hk h0
      go_enter Try.func35, Try.ntmps35
      go_wp2_with fail
      refine (HO.out).mono ?_
      rintro e w1 ⟨rfl, E1⟩
      rw [HK.out]
      go_wp2_with (first | (go_at_call 60; go_in))
      go_ret2
      rw [HV.out.1, HV.out.2]
      exact ⟨_, rfl, HN.out _ (E0.trans E1), (E0.trans E1).alloc _⟩
end Go.Proofs.Yteaefjicpefgnaa
