/- The walks of the reference's ReadPage. -/
import Derived.Test.YteaefjicpefgnaaReadPage
namespace Go.Proofs.Yteaefjicpefgnaa
open Go.RowKit Go.Deep
set_option linter.unusedVariables false
set_option maxRecDepth 100000
/-- whether bytes are a page's, as the reference reads them -/
def rdP (no : Int) (d : List UInt8) : Bool := decide (5 ≤ d.length) && decide ((d.getD 0 0).toNat = 112) && decide (((d.getD 1 0).toNat : Int) = no) && (rfO (d.drop 4)).isSome && pageB (bigN ((d.take 4).drop 2) : Nat) ((rfO (d.drop 4)).getD [])
theorem pg_eq (no : Int) (d : List UInt8) : pgOK no d = rdP no d ∧ (rdP no d = true → (pgF d).1 = (rfO (d.drop 4)).getD [] ∧ pgK d = bigN ((d.take 4).drop 2)) := by
  by_cases h4 : d.length < 4
  · have e1 : tkF d 4 false = true := by unfold tkF; rw [decide_eq_true h4]; rfl
    have e2 : rdP no d = false := by unfold rdP; rw [decide_eq_false (by omega)]; rfl
    have e3 : (pgF d).2.2 = true := by unfold pgF; rw [e1, Bool.true_or]; exact fld_fail _ _ _
    refine ⟨by rw [e2]; unfold pgOK; rw [e3]; rfl, fun h => by rw [e2] at h; cases h⟩
  have e1 : tkF d 4 false = false := by unfold tkF; rw [decide_eq_false h4]; rfl
  have e2 : tkR d 4 = d.drop 4 := by unfold tkR; rw [if_pos (by omega)]
  have e3 : tkO d 4 = d.take 4 := by unfold tkO; rw [if_pos (by omega)]
  have hK : pgK d = bigN ((d.take 4).drop 2) := by unfold pgK; rw [e3]
  by_cases h5 : d.length = 4
  · have e4 : d.drop 4 = [] := List.drop_eq_nil_of_le (by omega)
    have e5 : rdP no d = false := by unfold rdP; rw [decide_eq_false (by omega)]; rfl
    have e6 : (pgF d).2.2 = true := by unfold pgF; rw [e1, e2, e4]; exact fld_fail _ _ _
    refine ⟨by rw [e5]; unfold pgOK; rw [e6]; rfl, fun h => by rw [e5] at h; cases h⟩
  have g0 : (d.take 4).getD 0 0 = d.getD 0 0 := by simp [List.getD_eq_getElem?_getD]
  have g1 : (d.take 4).getD 1 0 = d.getD 1 0 := by simp [List.getD_eq_getElem?_getD]
  have hF : pgF d = fld (nmV (d.drop 4)) (d.drop 4).tail (false || (d.drop 4).isEmpty) [] := by unfold pgF; rw [e1, e2]
  rcases ho : rfO (d.drop 4) with _ | o
  · have e5 : rdP no d = false := by unfold rdP; rw [ho]; simp
    refine ⟨?_, fun h => by rw [e5] at h; cases h⟩
    rw [e5]
    rcases fld_all_none ho with h | h
    · unfold pgOK; rw [hF, h]; rfl
    · have hl : (pgF d).1.length = nmV (d.drop 4) := by rw [hF, fld_len]; simp
      unfold pgOK pageB
      rw [decide_eq_false (show ¬ (pgF d).1.length = 4 by omega)]; simp
  · obtain ⟨h1, h2, h3⟩ := fld_all_some ho
    have hF2 : pgF d = (o, [], false) := by rw [hF, h1]
    refine ⟨?_, fun _ => ⟨by rw [hF2]; rfl, hK⟩⟩
    unfold pgOK rdP
    rw [hF2, e3, g0, g1, ho, hK, decide_eq_true (show 5 ≤ d.length by omega)]
    simp
/-- what l03Read hands back -/
def R3Post (w : World) (T : TypeId) (ok : Bool) (K : Int) (L : List ByteArray) (e : Ending) (w' : World) : Prop :=
  ∃ (K' : Int) (A : Option Addr) (n c : Nat), e = .returned (.tuple #[.agg #[.int .i64 K', .slice A n c], .bool ok]) ∧ (ok = true → K' = K ∧ w'.ownsRow w.heap.size T 1 (.slice A n c) L.length (L.map fun c => Value.string c)) ∧ Ext w w'
theorem R3Post.no {w w' : World} {T : TypeId} {ok : Bool} {K K' : Int} {L : List ByteArray} {A : Option Addr} {n c : Nat} (h : ok = false) (E : Ext w w') : R3Post w T ok K L (.returned (.tuple #[.agg #[.int .i64 K', .slice A n c], .bool false])) w' := by
  subst h; exact ⟨_, _, _, _, rfl, (fun h => by cases h), E⟩
theorem R3Post.yes {w w' : World} {T : TypeId} {ok : Bool} {K K' : Int} {L L' : List ByteArray} {A : Option Addr} {n c : Nat} (h : ok = true) (hK : K' = K) (hL : L' = L) (O : w'.ownsRow w.heap.size T 1 (.slice A n c) L'.length (L'.map fun c => Value.string c)) (E : Ext w w') : R3Post w T ok K L (.returned (.tuple #[.agg #[.int .i64 K', .slice A n c], .bool true])) w' := by
  subst h; subst hL; exact ⟨_, _, _, _, rfl, fun _ => ⟨hK, O⟩, E⟩
set_option maxHeartbeats 2000000 in
theorem spec_l03Read (no : Int) (s : ByteArray) (w : World) (h4 : 4 ≤ s.size) (hn : s.size ≤ 65536) (hs : sealB? s.data.toList = true) :
    Calls Try.prog 81 #[.int .i64 no, .string s] w (R3Post w 9 (rdP no (bodyB s.data.toList)) (pgK (bodyB s.data.toList) : Nat) (pgF (bodyB s.data.toList)).1) := by
  have E0 : Ext w (w.alloc (.cells #[.int .i64 0, .slice none 0 0] 45)) := (by repeat (first | exact Ext.refl _ | assumption | refine Ext.alloc ?_ _ | refine Ext.drewN ?_ _ | refine Ext.drew ?_ | refine Ext.set ?_ (by dsimp only; omega) _ | refine Ext.trans ?_ (by assumption)))
  have hX := Blk.new w 45 [.int .i64 0, .slice none 0 0]
  have HU := Lib.hid (spec_l03Unseal s (w.alloc (.cells #[.int .i64 0, .slice none 0 0] 45)) h4 (by omega))
  have HS := Lib.hid hs
  have hd : (s.extract 0 (s.size - 4)).data.toList = bodyB s.data.toList := by rw [ext_take]; unfold bodyB; simp
  have hz : (s.extract 0 (s.size - 4)).size = s.size - 4 := by simp
  have hEq := pg_eq no (bodyB s.data.toList)
  have hRP : rdP no (bodyB s.data.toList) = (decide (5 ≤ (bodyB s.data.toList).length) && decide (((bodyB s.data.toList).getD 0 0).toNat = 112) && decide ((((bodyB s.data.toList).getD 1 0).toNat : Int) = no) && (rfO ((bodyB s.data.toList).drop 4)).isSome && pageB (bigN (((bodyB s.data.toList).take 4).drop 2) : Nat) ((rfO ((bodyB s.data.toList).drop 4)).getD [])) := rfl
  rw [← hd] at hEq hRP ⊢
  generalize s.extract 0 (s.size - 4) = X at hEq hRP hz HU ⊢
  have hz2 : X.size ≤ 65536 := by omega
  have hXl : X.data.toList.length = X.size := by simp
  rw [hXl] at hRP
  have HEQ := Lib.hid hEq.2
  have HRP := Lib.hid hRP
  generalize rdP no X.data.toList = ok at HEQ HRP ⊢
  clear hEq hRP hd hz hs hXl
  by_cases h5 : X.size < 5
  · have HV := Lib.hid (show ok = false by rw [HRP.out, decide_eq_false (by omega)]; rfl)
    have h5I : (X.size : Int) < 5 := by omega
    go_enter Try.func81, Try.ntmps81
    go_wp2_with fail
    refine (HU.out).mono ?_
    rintro e w1 ⟨rfl, E1⟩
    rw [HS.out, if_pos rfl]
    obtain ⟨c0, c1⟩ := (hX.ext E1).cells2
    have f0 := (hX.ext E1).frozen 0
    have f1 := (hX.ext E1).frozen 1
    go_wp2_with fail
    refine bodyPost_ret (v := .tuple #[.agg #[.int .i64 0, .slice none 0 0], .bool false]) (by simp [results, Try.results81, go_sem, c0, c1]) rfl ?_
    exact .no HV.out (((E0.trans E1).set (Nat.le_refl _) _).set (Nat.le_refl _) _)
  have h5I : ¬ (X.size : Int) < 5 := by omega
  have k0 : 0 < X.size := by omega
  have k1 : 1 < X.size := by omega
  have g0 := str_at k0
  have g1 := str_at k1
  have b0 : X[0].toNat < 256 := X[0].toNat_lt
  have b1 : X[1].toNat < 256 := X[1].toNat_lt
  rw [← g0, ← g1] at HRP
  clear g0 g1
  by_cases hx : X[0].toNat = 112
  · have hxI : ((X[0].toNat : Int) != 112) = false := by rw [hx]; rfl
    by_cases hy : (X[1].toNat : Int) = no
    · have hyI : ((X[1].toNat : Int) != no) = false := by rw [hy]; simp
      have hRP2 : ok = ((rfO (X.data.toList.drop 4)).isSome && pageB (bigN ((X.data.toList.take 4).drop 2) : Nat) ((rfO (X.data.toList.drop 4)).getD [])) := by
        rw [HRP.out, decide_eq_true (show 5 ≤ X.size by omega), decide_eq_true hx, decide_eq_true hy]; simp
      have d1 : (X.extract 4 X.size).data.toList = X.data.toList.drop 4 := ext_drop X 4
      have d2 : (X.extract 2 4).data.toList = (X.data.toList.take 4).drop 2 := by rw [extract_list]; simp [List.drop_take]
      have hR := fun W => spec_l01Read (X.extract 4 X.size) W (by simp; omega)
      have hO := fun W => spec_l01Of (X.extract 2 4) W (by simp; omega)
      rw [d1] at hR
      rw [d2] at hO
      have HR := Lib.hid hR
      have HO := Lib.hid hO
      have HRP2 := Lib.hid hRP2
      have q1 : (4 : Int) ≤ (X.size : Int) := by omega
      clear hR hO d1 d2 hRP2 hx hy HRP
      go_enter Try.func81, Try.ntmps81
      go_wp2_with fail
      refine (HU.out).mono ?_
      rintro e w1 ⟨rfl, E1⟩
      rw [HS.out, if_pos rfl]
      have HX1 := Lib.hid (hX.ext E1)
      have HE1 := Lib.hid (E0.trans E1)
      clear hX E0 E1
      go_wp2_with fail
      refine (HR.out _).mono ?_
      rintro e w2 ⟨v2, rfl, O2, E2⟩
      obtain ⟨A2, cap2, rfl⟩ := own_slice O2
      generalize hN : ((rfO (X.data.toList.drop 4)).getD []).length = N at O2 ⊢
      have HNN := Lib.hid hN
      clear hN
      have HO2 := Lib.hid O2
      have HE2 := Lib.hid E2
      clear O2 E2
      go_wp2_with fail
      refine (HO.out _).mono ?_
      rintro e w3 ⟨rfl, rfl⟩
      generalize bigN (List.drop 2 (List.take 4 X.data.toList)) = Kb at HRP2 HEQ ⊢
      have HP := Lib.hid (Blk.new w2 45 [.int .i64 (Kb : Int), .slice A2 N cap2])
      have HXR := Lib.hid (HX1.out.ext HE2.out)
      have HEW := Lib.hid (HE1.out.trans HE2.out)
      have hB2 : w.heap.size < w1.heap.size := HX1.out.lt
      clear HR HO HE1 HE2 HX1
      have hle := HXR.out.lt
      have HXP := Lib.hid (HXR.out.alloc (.cells #[.int .i64 (Kb : Int), .slice A2 N cap2] 45))
      have HEP := Lib.hid (HEW.out.alloc (.cells #[.int .i64 (Kb : Int), .slice A2 N cap2] 45))
      have HOP := Lib.hid (own_ext HO2.out ((Ext.refl w2).alloc (.cells #[.int .i64 (Kb : Int), .slice A2 N cap2] 45)))
      clear HO2 HXR HEW
      rcases ho : rfO (X.data.toList.drop 4) with _ | o
      · rw [ho] at HRP2
        have HV := Lib.hid (show ok = false from HRP2.out)
        clear HEQ HRP2 HOP
        go_wp2_with fail
        generalize hg : w2.alloc (.cells #[.int .i64 (Kb : Int), .slice A2 N cap2] 45) = w4 at HP HXP HEP ⊢
        have hne : w2.heap.size ≠ w.heap.size := by omega
        generalize w2.heap.size = px at HP hne ⊢
        obtain ⟨c0, c1⟩ := HXP.out.cells2
        have f0 := HXP.out.frozen 0
        have f1 := HXP.out.frozen 1
        refine rg_startS (fun W => Ext w W ∧ Blk W px 45 [.int .i64 (Kb : Int), .slice A2 N cap2]) (by kernel_rfl) ⟨HEP.out.drew, HP.out.drew⟩ (fun hS0 => ?_)
        (refine rg_take (v := ?_) 0 rfl (by kernel_rfl) (by kernel_rfl) (by kernel_rfl) (fun _ _ _ h => h) (by rfl) (by assumption) (fun W hW => ?_) ?_; rotate_left; (focus (obtain ⟨p0, p1⟩ := hW.2.cells2; go_simp; try with_reducible rfl)); simp only [List.setIfInBounds_toArray, List.set_cons_succ, List.set_cons_zero])
        (refine rg_take (v := ?_) 1 rfl (by kernel_rfl) (by kernel_rfl) (by kernel_rfl) (fun _ _ _ h => h) (by rfl) (by assumption) (fun W hW => ?_) ?_; rotate_left; (focus (go_simp; try with_reducible rfl)); simp only [List.setIfInBounds_toArray, List.set_cons_succ, List.set_cons_zero])
        (refine rg_take (v := ?_) 2 rfl (by kernel_rfl) (by kernel_rfl) (by kernel_rfl) (fun _ _ _ h => h) (by rfl) (by assumption) (fun W hW => ?_) ?_; rotate_left; (focus (go_simp; try with_reducible rfl)); simp only [List.setIfInBounds_toArray, List.set_cons_succ, List.set_cons_zero])
        (refine rg_skip 3 rfl (by kernel_rfl) (by kernel_rfl) (by kernel_rfl) (fun _ _ _ h => h) (by rfl) (by assumption) ?_; simp only [List.setIfInBounds_toArray, List.set_cons_succ, List.set_cons_zero])
        (refine rg_skip 4 rfl (by kernel_rfl) (by kernel_rfl) (by kernel_rfl) (fun _ _ _ h => h) (by rfl) (by assumption) ?_; simp only [List.setIfInBounds_toArray, List.set_cons_succ, List.set_cons_zero])
        (refine rg_take (v := ?_) 5 rfl (by kernel_rfl) (by kernel_rfl) (by kernel_rfl) (fun _ _ _ h => h) (by rfl) (by assumption) (fun W hW => ?_) ?_; rotate_left; (focus (go_simp; try with_reducible rfl)); simp only [List.setIfInBounds_toArray, List.set_cons_succ, List.set_cons_zero])
        (refine rg_one 6 (by kernel_rfl) rfl (by rfl) (fun K hK => ?_); go_simp)
        refine hK _ _ ⟨(HEP.out.drew.set (Nat.le_refl _) _).set (Nat.le_refl _) _, (HP.out.drew.far (by exact hne) _).far (by exact hne) _⟩ (fun hS1 => ?_)
        clear hK K
        try simp only [List.setIfInBounds_toArray, List.set_cons_succ, List.set_cons_zero]
        (refine rg_take (v := ?_) 7 rfl (by kernel_rfl) (by kernel_rfl) (by kernel_rfl) (fun _ _ _ h => h) (by rfl) (by assumption) (fun W hW => ?_) ?_; rotate_left; (focus (go_simp; try with_reducible rfl)); simp only [List.setIfInBounds_toArray, List.set_cons_succ, List.set_cons_zero])
        refine rg_done (by kernel_rfl) ?_
        go_wp2_with fail
        refine bodyPost_ret (v := .tuple #[.agg #[.int .i64 (Kb : Int), .slice A2 N cap2], .bool false]) (by simp [results, Try.results81, go_sem, c0, c1]) rfl ?_
        exact .no HV.out hS1.1
      · rw [ho] at HRP2 HEQ HNN HOP
        have HP1 := Lib.hid (fun W (E : Ext (w2.alloc (.cells #[.int .i64 (Kb : Int), .slice A2 N cap2] 45)) W) => spec_PageOK (Kb : Int) A2 N cap2 o W HNN.out (by have := (fld_all_some ho).2.1; have := HNN.out; simp at this; omega) (fun s hs => by have := fld_small (nmV (X.data.toList.drop 4)) (X.data.toList.drop 4).tail (false || (X.data.toList.drop 4).isEmpty) [] (by simp); rw [(fld_all_some ho).1] at this; have := this s hs; unfold maxLen; omega) ((own_rd' HOP.out).2.ext E))
        have HOK := Lib.hid (show ok = pageB (Kb : Int) o from HRP2.out)
        have HEQ2 := Lib.hid (show ok = true → (pgF X.data.toList).1 = o ∧ pgK X.data.toList = Kb from HEQ.out)
        clear HEQ HRP2
        generalize pageB (Kb : Int) o = pb at HP1 HOK
        go_wp2_with fail
        generalize hg : w2.alloc (.cells #[.int .i64 (Kb : Int), .slice A2 N cap2] 45) = w4 at HP HXP HEP HP1 HOP ⊢
        have hne : w2.heap.size ≠ w.heap.size := by omega
        generalize w2.heap.size = px at HP hne ⊢
        obtain ⟨c0, c1⟩ := HXP.out.cells2
        have f0 := HXP.out.frozen 0
        have f1 := HXP.out.frozen 1
        refine rg_startS (fun W => Ext w W ∧ Blk W px 45 [.int .i64 (Kb : Int), .slice A2 N cap2]) (by kernel_rfl) ⟨HEP.out.drew, HP.out.drew⟩ (fun hS0 => ?_)
        (refine rg_take (v := ?_) 0 rfl (by kernel_rfl) (by kernel_rfl) (by kernel_rfl) (fun _ _ _ h => h) (by rfl) (by assumption) (fun W hW => ?_) ?_; rotate_left; (focus (obtain ⟨p0, p1⟩ := hW.2.cells2; go_simp; try with_reducible rfl)); simp only [List.setIfInBounds_toArray, List.set_cons_succ, List.set_cons_zero])
        (refine rg_take (v := ?_) 1 rfl (by kernel_rfl) (by kernel_rfl) (by kernel_rfl) (fun _ _ _ h => h) (by rfl) (by assumption) (fun W hW => ?_) ?_; rotate_left; (focus (go_simp; try with_reducible rfl)); simp only [List.setIfInBounds_toArray, List.set_cons_succ, List.set_cons_zero])
        (refine rg_take (v := ?_) 2 rfl (by kernel_rfl) (by kernel_rfl) (by kernel_rfl) (fun _ _ _ h => h) (by rfl) (by assumption) (fun W hW => ?_) ?_; rotate_left; (focus (go_simp; try with_reducible rfl)); simp only [List.setIfInBounds_toArray, List.set_cons_succ, List.set_cons_zero])
        (refine rg_take (v := ?_) 3 rfl (by kernel_rfl) (by kernel_rfl) (by kernel_rfl) (fun _ _ _ h => h) (by rfl) (by assumption) (fun W hW => ?_) ?_; rotate_left; (focus (obtain ⟨p0, p1⟩ := hW.2.cells2; go_simp; try with_reducible rfl)); simp only [List.setIfInBounds_toArray, List.set_cons_succ, List.set_cons_zero])
        (refine rg_one 4 (by kernel_rfl) rfl (by rfl) (fun K hK => ?_); go_simp)
        refine (HP1.out _ ((Ext.refl w4).drew)).mono ?_
        rintro e w5 ⟨rfl, E5⟩
        refine hK _ _ ⟨hS0.1.trans E5, hS0.2.ext E5⟩ (fun hS1 => ?_)
        clear hK K c0 c1 f0 f1
        try simp only [List.setIfInBounds_toArray, List.set_cons_succ, List.set_cons_zero]
        have HX5 := Lib.hid (HXP.out.drew.ext E5)
        obtain ⟨c0, c1⟩ := HX5.out.cells2
        have f0 := HX5.out.frozen 0
        have f1 := HX5.out.frozen 1
        have HO5 := Lib.hid (own_ext HOP.out ((Ext.refl w4).drew.trans E5))
        (refine rg_take (v := ?_) 5 rfl (by kernel_rfl) (by kernel_rfl) (by kernel_rfl) (fun _ _ _ h => h) (by rfl) (by assumption) (fun W hW => ?_) ?_; rotate_left; (focus (go_simp; try with_reducible rfl)); simp only [List.setIfInBounds_toArray, List.set_cons_succ, List.set_cons_zero])
        (refine rg_one 6 (by kernel_rfl) rfl (by rfl) (fun K hK => ?_); go_simp)
        refine hK _ _ ⟨(hS1.1.set (Nat.le_refl _) _).set (Nat.le_refl _) _, (hS1.2.far (by exact hne) _).far (by exact hne) _⟩ (fun hS2 => ?_)
        clear hK K
        try simp only [List.setIfInBounds_toArray, List.set_cons_succ, List.set_cons_zero]
        (refine rg_take (v := ?_) 7 rfl (by kernel_rfl) (by kernel_rfl) (by kernel_rfl) (fun _ _ _ h => h) (by rfl) (by assumption) (fun W hW => ?_) ?_; rotate_left; (focus (go_simp; try with_reducible rfl)); simp only [List.setIfInBounds_toArray, List.set_cons_succ, List.set_cons_zero])
        refine rg_done (by kernel_rfl) ?_
        cases pb with
        | false =>
          go_wp2_with fail
          refine bodyPost_ret (v := .tuple #[.agg #[.int .i64 (Kb : Int), .slice A2 N cap2], .bool false]) (by simp [results, Try.results81, go_sem, c0, c1]) rfl ?_
          exact .no HOK.out hS2.1
        | true =>
          go_wp2_with fail
          refine bodyPost_ret (v := .tuple #[.agg #[.int .i64 (Kb : Int), .slice A2 N cap2], .bool true]) (by simp [results, Try.results81, go_sem, c0, c1]) rfl ?_
          have hq := HEQ2.out HOK.out
          refine .yes (L' := o) HOK.out (by rw [hq.2]) hq.1.symm (own_base (own_set (own_set ?_ hB2) hB2) (by omega)) hS2.1
          have := HO5.out
          rw [← HNN.out] at this ⊢
          exact this
    · have hyI : ((X[1].toNat : Int) != no) = true := by rw [bne_iff_ne]; exact hy
      have HV := Lib.hid (show ok = false by rw [HRP.out, decide_eq_false hy]; simp)
      clear HRP HEQ hx hy
      go_enter Try.func81, Try.ntmps81
      go_wp2_with fail
      refine (HU.out).mono ?_
      rintro e w1 ⟨rfl, E1⟩
      rw [HS.out, if_pos rfl]
      obtain ⟨c0, c1⟩ := (hX.ext E1).cells2
      have f0 := (hX.ext E1).frozen 0
      have f1 := (hX.ext E1).frozen 1
      go_wp2_with fail
      refine bodyPost_ret (v := .tuple #[.agg #[.int .i64 0, .slice none 0 0], .bool false]) (by simp [results, Try.results81, go_sem, c0, c1]) rfl ?_
      exact .no HV.out (((E0.trans E1).set (Nat.le_refl _) _).set (Nat.le_refl _) _)
  · have hxI : ((X[0].toNat : Int) != 112) = true := by rw [bne_iff_ne]; omega
    have HV := Lib.hid (show ok = false by rw [HRP.out, decide_eq_false hx]; simp)
    clear HRP HEQ hx
    go_enter Try.func81, Try.ntmps81
    go_wp2_with fail
    refine (HU.out).mono ?_
    rintro e w1 ⟨rfl, E1⟩
    rw [HS.out, if_pos rfl]
    obtain ⟨c0, c1⟩ := (hX.ext E1).cells2
    have f0 := (hX.ext E1).frozen 0
    have f1 := (hX.ext E1).frozen 1
    go_wp2_with fail
    refine bodyPost_ret (v := .tuple #[.agg #[.int .i64 0, .slice none 0 0], .bool false]) (by simp [results, Try.results81, go_sem, c0, c1]) rfl ?_
    exact .no HV.out (((E0.trans E1).set (Nat.le_refl _) _).set (Nat.le_refl _) _)
set_option maxHeartbeats 2000000 in
theorem spec_ReadPage (no : Int) (A : Option Addr) (n cp : Nat) (l : List UInt8) (w : World) (hl : l.length = n) (hn : n ≤ 1099511627776) (hr : Rd w A (l.map fun c => Value.int .u8 (c.toNat : Int))) :
    Calls Try.prog 40 #[.int .i64 no, .slice A n cp] w (PgPost w 9 (rpK no l) (rpC no l) (rpL no l)) := by
  have E0 : Ext w (w.alloc (.cells #[.int .i64 0, .slice none 0 0] 45)) := (by repeat (first | exact Ext.refl _ | assumption | refine Ext.alloc ?_ _ | refine Ext.drewN ?_ _ | refine Ext.drew ?_ | refine Ext.set ?_ (by dsimp only; omega) _ | refine Ext.trans ?_ (by assumption)))
  have hX := Blk.new w 45 [.int .i64 0, .slice none 0 0]
  by_cases h1 : 65536 < n
  · have HV := Lib.hid (rp_long (no := no) (l := l) (by omega))
    have h1I : (65536 : Int) < (n : Int) := by omega
    clear hl hr
    go_enter Try.func40, Try.ntmps40
    go_wp2_with fail
    refine bodyPost_ret (v := .tuple #[.agg #[.int .i64 0, .slice none 0 0], .int .i64 2]) (by simp [results, Try.results40, go_sem]) rfl ?_
    exact .none HV.out (by repeat (first | exact Ext.refl _ | assumption | refine Ext.alloc ?_ _ | refine Ext.drewN ?_ _ | refine Ext.drew ?_ | refine Ext.set ?_ (by dsimp only; omega) _ | refine Ext.trans ?_ (by assumption)))
  have h1I : ¬ (65536 : Int) < (n : Int) := by omega
  have h1' : ¬ 65536 < l.length := by omega
  have hcv := fun W (E : Ext w W) => run_text (P := Try.prog) (src := 22) (dst := 9) Try.underlying22 Try.underlying5 Try.underlying9 W A n cp l hl (hr.ext E)
  have HCV := Lib.hid hcv
  have hcv0 := hcv _ E0
  have hsz : (⟨l.toArray⟩ : ByteArray).size = l.length := by show l.toArray.size = _; simp
  have hdl : (⟨l.toArray⟩ : ByteArray).data.toList = l := by simp
  generalize (⟨l.toArray⟩ : ByteArray) = s at HCV hcv0 hsz hdl
  have HDL := Lib.hid hdl
  have HSZ := Lib.hid hsz
  clear hcv hsz hdl hr
  by_cases h4 : n < 4
  · have HV := Lib.hid (rp_sum (no := no) h1' (by unfold sealB?; rw [decide_eq_false (by omega)]; rfl))
    have HU := Lib.hid (fun W => spec_l03Unseal_short s W (by rw [HSZ.out]; omega))
    clear hl h4 h1'
    go_enter Try.func40, Try.ntmps40
    go_wp2_with fail
    refine (HU.out _).mono ?_
    rintro e w1 ⟨rfl, E1⟩
    obtain ⟨c0, c1⟩ := (hX.ext E1).cells2
    have f0 := (hX.ext E1).frozen 0
    have f1 := (hX.ext E1).frozen 1
    go_wp2_with fail
    refine bodyPost_ret (v := .tuple #[.agg #[.int .i64 0, .slice none 0 0], .int .i64 8]) (by simp [results, Try.results40, go_sem, c0, c1]) rfl ?_
    exact .none HV.out (((E0.trans E1).set (Nat.le_refl _) _).set (Nat.le_refl _) _)
  have HU := Lib.hid (fun W => spec_l03Unseal s W (by rw [HSZ.out]; omega) (by rw [HSZ.out]; omega))
  rcases hs : sealB? l with _ | _
  · have HV := Lib.hid (rp_sum (no := no) h1' hs)
    have HS := Lib.hid (show sealB? s.data.toList = false by rw [HDL.out]; exact hs)
    clear hl h4 h1' hs
    go_enter Try.func40, Try.ntmps40
    go_wp2_with fail
    refine (HU.out _).mono ?_
    rintro e w1 ⟨rfl, E1⟩
    rw [HS.out, if_neg (by decide)]
    obtain ⟨c0, c1⟩ := (hX.ext E1).cells2
    have f0 := (hX.ext E1).frozen 0
    have f1 := (hX.ext E1).frozen 1
    go_wp2_with fail
    refine bodyPost_ret (v := .tuple #[.agg #[.int .i64 0, .slice none 0 0], .int .i64 8]) (by simp [results, Try.results40, go_sem, c0, c1]) rfl ?_
    exact .none HV.out (((E0.trans E1).set (Nat.le_refl _) _).set (Nat.le_refl _) _)
  have HS := Lib.hid (show sealB? s.data.toList = true by rw [HDL.out]; exact hs)
  have HR := Lib.hid (fun W => spec_l03Read no s W (by rw [HSZ.out]; omega) (by rw [HSZ.out]; omega) HS.out)
  rw [HDL.out] at HR
  have hq := (pg_eq no (bodyB l)).1
  rw [← hq] at HR
  have HVF := Lib.hid (rp_form (no := no) h1' hs)
  have HVG := Lib.hid (rp_good (no := no) h1' hs)
  generalize pgOK no (bodyB l) = ok at HR HVF HVG
  clear hq hl h4 h1' hs
  go_enter Try.func40, Try.ntmps40
  go_wp2_with fail
  refine (HU.out _).mono ?_
  rintro e w1 ⟨rfl, E1⟩
  rw [HS.out, if_pos rfl]
  have hcv1 := HCV.out _ (E0.trans E1)
  have HE1 := Lib.hid (E0.trans E1)
  have HX1 := Lib.hid (hX.ext E1)
  clear hcv0 hX E0 E1 HU
  generalize s.extract 0 (s.size - 4) = X
  go_wp2_with fail
  refine (HR.out _).mono ?_
  rintro e w2 ⟨K, A2, n2, c2, rfl, hok, E2⟩
  have HOK := Lib.hid hok
  have HX2 := Lib.hid ((HX1.out.ext E2).alloc (.cells #[.int .i64 K, .slice A2 n2 c2] 45))
  have HP := Lib.hid (Blk.new w2 45 [.int .i64 K, .slice A2 n2 c2])
  have HE2 := Lib.hid ((HE1.out.trans E2).alloc (.cells #[.int .i64 K, .slice A2 n2 c2] 45))
  have hlt := HX1.out.lt
  have hle := E2.le
  clear hok E2 hcv1 HCV HR
  obtain ⟨c0, c1⟩ := HX2.out.cells2
  obtain ⟨p0, p1⟩ := HP.out.cells2
  have f0 := HX2.out.frozen 0
  have f1 := HX2.out.frozen 1
  cases ok with
  | false =>
    go_wp2_with fail
    refine bodyPost_ret (v := .tuple #[.agg #[.int .i64 0, .slice none 0 0], .int .i64 3]) (by simp [results, Try.results40, go_sem, c0, c1]) rfl ?_
    exact .none (HVF.out (by simp)) ((HE2.out.set (Nat.le_refl _) _).set (Nat.le_refl _) _)
  | true =>
    go_wp2_with fail
    refine bodyPost_ret (v := .tuple #[.agg #[.int .i64 K, .slice A2 n2 c2], .int .i64 0]) (by simp [results, Try.results40, go_sem, c0, c1]) rfl ?_
    have hv := HVG.out (by simp)
    have ho := HOK.out (by simp)
    rw [hv.1, hv.2.1, hv.2.2, ← ho.1]
    exact ⟨_, rfl, own_base (own_set (own_set (own_ext ho.2 ((Ext.refl w2).alloc _)) hlt) hlt) (by omega), (HE2.out.set (Nat.le_refl _) _).set (Nat.le_refl _) _⟩
end Go.Proofs.Yteaefjicpefgnaa
