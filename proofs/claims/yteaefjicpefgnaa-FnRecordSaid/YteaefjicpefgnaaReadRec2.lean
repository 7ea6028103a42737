/- The walks of the reference's ReadRecord (printed by gen_readrec2.py). -/
import Derived.Test.YteaefjicpefgnaaReadRec
namespace Go.Proofs.Yteaefjicpefgnaa
open Go.RowKit Go.Deep
set_option linter.unusedVariables false
set_option maxRecDepth 100000
theorem nm_drop (d : List UInt8) (i : Nat) : nmV (d.drop i) = (d.getD i 0).toNat := by
  rw [List.getD_eq_getElem?_getD]
  by_cases h : i < d.length
  · rw [List.drop_eq_getElem_cons h, List.getElem?_eq_getElem h]; rfl
  · rw [List.drop_eq_nil_of_le (by omega), List.getElem?_eq_none (by omega)]; rfl
/-- whether bytes are a record's, as the reference reads them -/
def rsOK (d : List UInt8) : Bool := decide (10 ≤ d.length) && decide (nmV d = 108) && (rfO (d.drop 9)).isSome && decide (((rfO (d.drop 9)).getD []).length = 2) && recB (nmV (d.drop 1) : Int) (nmV (d.drop 2) : Int) (nmV (d.drop 3) : Int) (nmV (d.drop 4) : Int) (nmV (d.drop 5) : Int) (nmV (d.drop 6) : Int) (nmV (d.drop 7) : Int) (nmV (d.drop 8) : Int) (((rfO (d.drop 9)).getD []).getD 0 ByteArray.empty) (((rfO (d.drop 9)).getD []).getD 1 ByteArray.empty)
theorem rr_eq (d : List UInt8) : rrOK d = rsOK d ∧ (rsOK d = true → (rrF d).1 = (rfO (d.drop 9)).getD []) := by
  by_cases h10 : d.length < 10
  · have e2 : rsOK d = false := by unfold rsOK; rw [decide_eq_false (by omega)]; rfl
    have e3 : (rrF d).2.2 = true := by
      unfold rrF
      by_cases h9 : d.length < 9
      · rw [decide_eq_true h9, Bool.true_or]; exact fld_fail _ _ _
      · rw [List.drop_eq_nil_of_le (show d.length ≤ 9 by omega)]; simp only [List.isEmpty_nil, Bool.or_true]; exact fld_fail _ _ _
    refine ⟨by rw [e2]; unfold rrOK; rw [e3]; rfl, fun h => by rw [e2] at h; cases h⟩
  have hF : rrF d = fld (nmV (d.drop 9)) (d.drop 9).tail (false || (d.drop 9).isEmpty) [] := by unfold rrF; rw [decide_eq_false (by omega)]
  rcases ho : rfO (d.drop 9) with _ | o
  · have e5 : rsOK d = false := by unfold rsOK; rw [ho]; simp
    refine ⟨?_, fun h => by rw [e5] at h; cases h⟩
    rw [e5]
    rcases fld_all_none ho with h | h
    · unfold rrOK; rw [hF, h]; rfl
    · have hl : (rrF d).1.length = nmV (d.drop 9) := by rw [hF, fld_len]; simp
      unfold rrOK
      rw [decide_eq_false (show ¬ (rrF d).1.length = 2 by omega)]; simp
  · obtain ⟨h1, h2, h3⟩ := fld_all_some ho
    have hF2 : rrF d = (o, [], false) := by rw [hF, h1]
    refine ⟨?_, fun _ => by rw [hF2]; rfl⟩
    unfold rrOK rsOK
    rw [hF2, ho, decide_eq_true (show 10 ≤ d.length by omega)]
    simp
/-- what l04Read hands back -/
def R4Post (w : World) (ok : Bool) (F : Nat → Int) (G : Nat → ByteArray) (e : Ending) (w' : World) : Prop :=
  ∃ (f : Nat → Int) (g : Nat → ByteArray), e = .returned (.tuple #[.agg #[.int .i64 (f 1), .int .i64 (f 2), .int .i64 (f 3), .int .i64 (f 4), .int .i64 (f 5), .int .i64 (f 6), .int .i64 (f 7), .int .i64 (f 8), .string (g 0), .string (g 1)], .bool ok]) ∧ (ok = true → (∀ i, 1 ≤ i → i ≤ 8 → f i = F i) ∧ g 0 = G 0 ∧ g 1 = G 1) ∧ Ext w w'
theorem R4Post.no {w w' : World} {ok : Bool} {F : Nat → Int} {G : Nat → ByteArray} (f : Nat → Int) (g : Nat → ByteArray) (h : ok = false) (E : Ext w w') : R4Post w ok F G (.returned (.tuple #[.agg #[.int .i64 (f 1), .int .i64 (f 2), .int .i64 (f 3), .int .i64 (f 4), .int .i64 (f 5), .int .i64 (f 6), .int .i64 (f 7), .int .i64 (f 8), .string (g 0), .string (g 1)], .bool false])) w' := by
  subst h; exact ⟨f, g, rfl, (fun h => by cases h), E⟩
theorem R4Post.yes {w w' : World} {ok : Bool} {F : Nat → Int} {G : Nat → ByteArray} (f : Nat → Int) (g : Nat → ByteArray) (h : ok = true) (hf : ∀ i, 1 ≤ i → i ≤ 8 → f i = F i) (h0 : g 0 = G 0) (h1 : g 1 = G 1) (E : Ext w w') : R4Post w ok F G (.returned (.tuple #[.agg #[.int .i64 (f 1), .int .i64 (f 2), .int .i64 (f 3), .int .i64 (f 4), .int .i64 (f 5), .int .i64 (f 6), .int .i64 (f 7), .int .i64 (f 8), .string (g 0), .string (g 1)], .bool true])) w' := by
  subst h; exact ⟨f, g, rfl, fun _ => ⟨hf, h0, h1⟩, E⟩
theorem wf_small {m : Nat} (h : m < 256) : (Lit.int .i64 (m : Int)).wf = true := by
  simp [Lit.wf]
  show (-9223372036854775808 : Int) ≤ m ∧ _
  omega
set_option maxHeartbeats 8000000 in
theorem spec_l04Read (s : ByteArray) (w : World) (h4 : 4 ≤ s.size) (hn : s.size ≤ 65536) (hs : sealB? s.data.toList = true) :
    Calls Try.prog 89 #[.string s] w (R4Post w (rsOK (bodyB s.data.toList)) (fun i => (nmV ((bodyB s.data.toList).drop i) : Int)) (fun i => (rrF (bodyB s.data.toList)).1.getD i ByteArray.empty)) := by
  have E0 : Ext w (w.alloc (.cells #[.int .i64 0, .int .i64 0, .int .i64 0, .int .i64 0, .int .i64 0, .int .i64 0, .int .i64 0, .int .i64 0, .string ByteArray.empty, .string ByteArray.empty] 57)) := (by repeat (first | exact Ext.refl _ | assumption | refine Ext.alloc ?_ _ | refine Ext.drewN ?_ _ | refine Ext.drew ?_ | refine Ext.set ?_ (by dsimp only; omega) _ | refine Ext.trans ?_ (by assumption)))
  have hX := Blk.new w 57 [.int .i64 0, .int .i64 0, .int .i64 0, .int .i64 0, .int .i64 0, .int .i64 0, .int .i64 0, .int .i64 0, .string ByteArray.empty, .string ByteArray.empty]
  have HU := Lib.hid (spec_l03Unseal s (w.alloc (.cells #[.int .i64 0, .int .i64 0, .int .i64 0, .int .i64 0, .int .i64 0, .int .i64 0, .int .i64 0, .int .i64 0, .string ByteArray.empty, .string ByteArray.empty] 57)) h4 (by omega))
  have HS := Lib.hid hs
  have hd : (s.extract 0 (s.size - 4)).data.toList = bodyB s.data.toList := by rw [ext_take]; unfold bodyB; simp
  have hz : (s.extract 0 (s.size - 4)).size = s.size - 4 := by simp
  rw [← hd]
  generalize s.extract 0 (s.size - 4) = X at hz HU ⊢
  have hz2 : X.size ≤ 65536 := by omega
  have hXl : X.data.toList.length = X.size := by simp
  have HXL := Lib.hid hXl
  have HEQ := Lib.hid (rr_eq X.data.toList).2
  have HRP := Lib.hid (show rsOK X.data.toList = (decide (10 ≤ X.data.toList.length) && decide (nmV X.data.toList = 108) && (rfO (X.data.toList.drop 9)).isSome && decide (((rfO (X.data.toList.drop 9)).getD []).length = 2) && recB (nmV (X.data.toList.drop 1) : Int) (nmV (X.data.toList.drop 2) : Int) (nmV (X.data.toList.drop 3) : Int) (nmV (X.data.toList.drop 4) : Int) (nmV (X.data.toList.drop 5) : Int) (nmV (X.data.toList.drop 6) : Int) (nmV (X.data.toList.drop 7) : Int) (nmV (X.data.toList.drop 8) : Int) (((rfO (X.data.toList.drop 9)).getD []).getD 0 ByteArray.empty) (((rfO (X.data.toList.drop 9)).getD []).getD 1 ByteArray.empty)) from rfl)
  generalize rsOK X.data.toList = ok at HEQ HRP ⊢
  clear hd hz hs hXl
  by_cases h10 : X.size < 10
  · have HV := Lib.hid (show ok = false by rw [HRP.out, HXL.out, decide_eq_false (by omega)]; rfl)
    have h10I : (X.size : Int) < 10 := by omega
    go_enter Try.func89, Try.ntmps89
    go_wp2_with fail
    refine (HU.out).mono ?_
    rintro e w1 ⟨rfl, E1⟩
    rw [HS.out, if_pos rfl]
    have hX1 := hX.ext E1
    have c0 : w1.cell? ⟨w.heap.size, 0, none⟩ = some (.int .i64 0) := hX1.cell (i := 0) (by simp)
    have c1 : w1.cell? ⟨w.heap.size, 1, none⟩ = some (.int .i64 0) := hX1.cell (i := 1) (by simp)
    have c2 : w1.cell? ⟨w.heap.size, 2, none⟩ = some (.int .i64 0) := hX1.cell (i := 2) (by simp)
    have c3 : w1.cell? ⟨w.heap.size, 3, none⟩ = some (.int .i64 0) := hX1.cell (i := 3) (by simp)
    have c4 : w1.cell? ⟨w.heap.size, 4, none⟩ = some (.int .i64 0) := hX1.cell (i := 4) (by simp)
    have c5 : w1.cell? ⟨w.heap.size, 5, none⟩ = some (.int .i64 0) := hX1.cell (i := 5) (by simp)
    have c6 : w1.cell? ⟨w.heap.size, 6, none⟩ = some (.int .i64 0) := hX1.cell (i := 6) (by simp)
    have c7 : w1.cell? ⟨w.heap.size, 7, none⟩ = some (.int .i64 0) := hX1.cell (i := 7) (by simp)
    have c8 : w1.cell? ⟨w.heap.size, 8, none⟩ = some (.string ByteArray.empty) := hX1.cell (i := 8) (by simp)
    have c9 : w1.cell? ⟨w.heap.size, 9, none⟩ = some (.string ByteArray.empty) := hX1.cell (i := 9) (by simp)
    have f0 := hX1.frozen 0
    have f1 := hX1.frozen 1
    have f2 := hX1.frozen 2
    have f3 := hX1.frozen 3
    have f4 := hX1.frozen 4
    have f5 := hX1.frozen 5
    have f6 := hX1.frozen 6
    have f7 := hX1.frozen 7
    have f8 := hX1.frozen 8
    have f9 := hX1.frozen 9
    go_wp2_with fail
    refine bodyPost_ret (v := .tuple #[.agg #[.int .i64 0, .int .i64 0, .int .i64 0, .int .i64 0, .int .i64 0, .int .i64 0, .int .i64 0, .int .i64 0, .string ByteArray.empty, .string ByteArray.empty], .bool false]) (by simp [results, Try.results89, go_sem, c0, c1, c2, c3, c4, c5, c6, c7, c8, c9]; try rfl) rfl ?_
    exact .no (fun _ => 0) (fun _ => ByteArray.empty) HV.out ((((((((((((E0.trans E1).set (Nat.le_refl _) _).set (Nat.le_refl _) _).set (Nat.le_refl _) _).set (Nat.le_refl _) _).set (Nat.le_refl _) _).set (Nat.le_refl _) _).set (Nat.le_refl _) _).set (Nat.le_refl _) _).set (Nat.le_refl _) _).set (Nat.le_refl _) _))
  have h10I : ¬ (X.size : Int) < 10 := by omega
  have k0 : 0 < X.size := by omega
  have k1 : 1 < X.size := by omega
  have k2 : 2 < X.size := by omega
  have k3 : 3 < X.size := by omega
  have k4 : 4 < X.size := by omega
  have k5 : 5 < X.size := by omega
  have k6 : 6 < X.size := by omega
  have k7 : 7 < X.size := by omega
  have k8 : 8 < X.size := by omega
  have hx0 : nmV X.data.toList = X[0].toNat := by rw [str_at k0]; exact nm_drop X.data.toList 0
  by_cases hx : X[0].toNat = 108
  case neg =>
    have hxI : ((X[0].toNat : Int) != 108) = true := by rw [bne_iff_ne]; omega
    have HV := Lib.hid (show ok = false by rw [HRP.out, hx0, decide_eq_false hx]; simp)
    clear hx hx0
    go_enter Try.func89, Try.ntmps89
    go_wp2_with fail
    refine (HU.out).mono ?_
    rintro e w1 ⟨rfl, E1⟩
    rw [HS.out, if_pos rfl]
    have hX1 := hX.ext E1
    have c0 : w1.cell? ⟨w.heap.size, 0, none⟩ = some (.int .i64 0) := hX1.cell (i := 0) (by simp)
    have c1 : w1.cell? ⟨w.heap.size, 1, none⟩ = some (.int .i64 0) := hX1.cell (i := 1) (by simp)
    have c2 : w1.cell? ⟨w.heap.size, 2, none⟩ = some (.int .i64 0) := hX1.cell (i := 2) (by simp)
    have c3 : w1.cell? ⟨w.heap.size, 3, none⟩ = some (.int .i64 0) := hX1.cell (i := 3) (by simp)
    have c4 : w1.cell? ⟨w.heap.size, 4, none⟩ = some (.int .i64 0) := hX1.cell (i := 4) (by simp)
    have c5 : w1.cell? ⟨w.heap.size, 5, none⟩ = some (.int .i64 0) := hX1.cell (i := 5) (by simp)
    have c6 : w1.cell? ⟨w.heap.size, 6, none⟩ = some (.int .i64 0) := hX1.cell (i := 6) (by simp)
    have c7 : w1.cell? ⟨w.heap.size, 7, none⟩ = some (.int .i64 0) := hX1.cell (i := 7) (by simp)
    have c8 : w1.cell? ⟨w.heap.size, 8, none⟩ = some (.string ByteArray.empty) := hX1.cell (i := 8) (by simp)
    have c9 : w1.cell? ⟨w.heap.size, 9, none⟩ = some (.string ByteArray.empty) := hX1.cell (i := 9) (by simp)
    have f0 := hX1.frozen 0
    have f1 := hX1.frozen 1
    have f2 := hX1.frozen 2
    have f3 := hX1.frozen 3
    have f4 := hX1.frozen 4
    have f5 := hX1.frozen 5
    have f6 := hX1.frozen 6
    have f7 := hX1.frozen 7
    have f8 := hX1.frozen 8
    have f9 := hX1.frozen 9
    go_wp2_with fail
    refine bodyPost_ret (v := .tuple #[.agg #[.int .i64 0, .int .i64 0, .int .i64 0, .int .i64 0, .int .i64 0, .int .i64 0, .int .i64 0, .int .i64 0, .string ByteArray.empty, .string ByteArray.empty], .bool false]) (by simp [results, Try.results89, go_sem, c0, c1, c2, c3, c4, c5, c6, c7, c8, c9]; try rfl) rfl ?_
    exact .no (fun _ => 0) (fun _ => ByteArray.empty) HV.out ((((((((((((E0.trans E1).set (Nat.le_refl _) _).set (Nat.le_refl _) _).set (Nat.le_refl _) _).set (Nat.le_refl _) _).set (Nat.le_refl _) _).set (Nat.le_refl _) _).set (Nat.le_refl _) _).set (Nat.le_refl _) _).set (Nat.le_refl _) _).set (Nat.le_refl _) _))
  have hxI : ((X[0].toNat : Int) != 108) = false := by rw [hx]; rfl
  have hRP2 : ok = ((rfO (X.data.toList.drop 9)).isSome && decide (((rfO (X.data.toList.drop 9)).getD []).length = 2) && recB (nmV (X.data.toList.drop 1) : Int) (nmV (X.data.toList.drop 2) : Int) (nmV (X.data.toList.drop 3) : Int) (nmV (X.data.toList.drop 4) : Int) (nmV (X.data.toList.drop 5) : Int) (nmV (X.data.toList.drop 6) : Int) (nmV (X.data.toList.drop 7) : Int) (nmV (X.data.toList.drop 8) : Int) (((rfO (X.data.toList.drop 9)).getD []).getD 0 ByteArray.empty) (((rfO (X.data.toList.drop 9)).getD []).getD 1 ByteArray.empty)) := by
    rw [HRP.out, HXL.out, decide_eq_true (show 10 ≤ X.size by omega), hx0, decide_eq_true hx]; simp
  have d1 : (X.extract 9 X.size).data.toList = X.data.toList.drop 9 := ext_drop X 9
  have hR := fun W => spec_l01Read (X.extract 9 X.size) W (by simp; omega)
  rw [d1] at hR
  have HR := Lib.hid hR
  have q1 : (9 : Int) ≤ (X.size : Int) := by omega
  have HSM := Lib.hid (fld_small (nmV (X.data.toList.drop 9)) (X.data.toList.drop 9).tail (false || (X.data.toList.drop 9).isEmpty) [] (by simp))
  have n1 : nmV (X.data.toList.drop 1) = X[1].toNat := by rw [str_at k1]; exact nm_drop X.data.toList 1
  have b1 : X[1].toNat < 256 := X[1].toNat_lt
  have i1 : IntKind.i64.wrap (X[1].toNat : Int) = (X[1].toNat : Int) := IntWalk.i64_in _ (by omega)
  rw [← n1] at b1 i1
  have n2 : nmV (X.data.toList.drop 2) = X[2].toNat := by rw [str_at k2]; exact nm_drop X.data.toList 2
  have b2 : X[2].toNat < 256 := X[2].toNat_lt
  have i2 : IntKind.i64.wrap (X[2].toNat : Int) = (X[2].toNat : Int) := IntWalk.i64_in _ (by omega)
  rw [← n2] at b2 i2
  have n3 : nmV (X.data.toList.drop 3) = X[3].toNat := by rw [str_at k3]; exact nm_drop X.data.toList 3
  have b3 : X[3].toNat < 256 := X[3].toNat_lt
  have i3 : IntKind.i64.wrap (X[3].toNat : Int) = (X[3].toNat : Int) := IntWalk.i64_in _ (by omega)
  rw [← n3] at b3 i3
  have n4 : nmV (X.data.toList.drop 4) = X[4].toNat := by rw [str_at k4]; exact nm_drop X.data.toList 4
  have b4 : X[4].toNat < 256 := X[4].toNat_lt
  have i4 : IntKind.i64.wrap (X[4].toNat : Int) = (X[4].toNat : Int) := IntWalk.i64_in _ (by omega)
  rw [← n4] at b4 i4
  have n5 : nmV (X.data.toList.drop 5) = X[5].toNat := by rw [str_at k5]; exact nm_drop X.data.toList 5
  have b5 : X[5].toNat < 256 := X[5].toNat_lt
  have i5 : IntKind.i64.wrap (X[5].toNat : Int) = (X[5].toNat : Int) := IntWalk.i64_in _ (by omega)
  rw [← n5] at b5 i5
  have n6 : nmV (X.data.toList.drop 6) = X[6].toNat := by rw [str_at k6]; exact nm_drop X.data.toList 6
  have b6 : X[6].toNat < 256 := X[6].toNat_lt
  have i6 : IntKind.i64.wrap (X[6].toNat : Int) = (X[6].toNat : Int) := IntWalk.i64_in _ (by omega)
  rw [← n6] at b6 i6
  have n7 : nmV (X.data.toList.drop 7) = X[7].toNat := by rw [str_at k7]; exact nm_drop X.data.toList 7
  have b7 : X[7].toNat < 256 := X[7].toNat_lt
  have i7 : IntKind.i64.wrap (X[7].toNat : Int) = (X[7].toNat : Int) := IntWalk.i64_in _ (by omega)
  rw [← n7] at b7 i7
  have n8 : nmV (X.data.toList.drop 8) = X[8].toNat := by rw [str_at k8]; exact nm_drop X.data.toList 8
  have b8 : X[8].toNat < 256 := X[8].toNat_lt
  have i8 : IntKind.i64.wrap (X[8].toNat : Int) = (X[8].toNat : Int) := IntWalk.i64_in _ (by omega)
  rw [← n8] at b8 i8
  have HNN := Lib.hid (And.intro n1 (And.intro n2 (And.intro n3 (And.intro n4 (And.intro n5 (And.intro n6 (And.intro n7 n8)))))))
  generalize hfm : (fun i => (nmV (X.data.toList.drop i) : Int)) = FM
  have j1 : FM 1 = (nmV (X.data.toList.drop 1) : Int) := by rw [← hfm]
  have j2 : FM 2 = (nmV (X.data.toList.drop 2) : Int) := by rw [← hfm]
  have j3 : FM 3 = (nmV (X.data.toList.drop 3) : Int) := by rw [← hfm]
  have j4 : FM 4 = (nmV (X.data.toList.drop 4) : Int) := by rw [← hfm]
  have j5 : FM 5 = (nmV (X.data.toList.drop 5) : Int) := by rw [← hfm]
  have j6 : FM 6 = (nmV (X.data.toList.drop 6) : Int) := by rw [← hfm]
  have j7 : FM 7 = (nmV (X.data.toList.drop 7) : Int) := by rw [← hfm]
  have j8 : FM 8 = (nmV (X.data.toList.drop 8) : Int) := by rw [← hfm]
  generalize hm1 : nmV (X.data.toList.drop 1) = m1 at b1 i1 j1 n1 hRP2
  replace n1 := n1.symm
  generalize hm2 : nmV (X.data.toList.drop 2) = m2 at b2 i2 j2 n2 hRP2
  replace n2 := n2.symm
  generalize hm3 : nmV (X.data.toList.drop 3) = m3 at b3 i3 j3 n3 hRP2
  replace n3 := n3.symm
  generalize hm4 : nmV (X.data.toList.drop 4) = m4 at b4 i4 j4 n4 hRP2
  replace n4 := n4.symm
  generalize hm5 : nmV (X.data.toList.drop 5) = m5 at b5 i5 j5 n5 hRP2
  replace n5 := n5.symm
  generalize hm6 : nmV (X.data.toList.drop 6) = m6 at b6 i6 j6 n6 hRP2
  replace n6 := n6.symm
  generalize hm7 : nmV (X.data.toList.drop 7) = m7 at b7 i7 j7 n7 hRP2
  replace n7 := n7.symm
  generalize hm8 : nmV (X.data.toList.drop 8) = m8 at b8 i8 j8 n8 hRP2
  replace n8 := n8.symm
  have HJ := Lib.hid (show ∀ i, 1 ≤ i → i ≤ 8 → (fun i => [0, (m1 : Int), (m2 : Int), (m3 : Int), (m4 : Int), (m5 : Int), (m6 : Int), (m7 : Int), (m8 : Int)].getD i 0) i = FM i from fun i h1 h2 => by
    have : i = 1 ∨ i = 2 ∨ i = 3 ∨ i = 4 ∨ i = 5 ∨ i = 6 ∨ i = 7 ∨ i = 8 := by omega
    rcases this with rfl | rfl | rfl | rfl | rfl | rfl | rfl | rfl
    · exact j1.symm
    · exact j2.symm
    · exact j3.symm
    · exact j4.symm
    · exact j5.symm
    · exact j6.symm
    · exact j7.symm
    · exact j8.symm)
  have HRP2 := Lib.hid hRP2
  clear hRP2 d1 hR hfm hx hx0 HRP HNN hm1 j1 hm2 j2 hm3 j3 hm4 j4 hm5 j5 hm6 j6 hm7 j7 hm8 j8
  go_enter Try.func89, Try.ntmps89
  go_wp2_with fail
  refine (HU.out).mono ?_
  rintro e w1 ⟨rfl, E1⟩
  rw [HS.out, if_pos rfl]
  have HX1 := Lib.hid (hX.ext E1)
  have HE1 := Lib.hid (E0.trans E1)
  clear hX E0 E1 HU
  go_wp2_with fail
  refine (HR.out _).mono ?_
  rintro e w2 ⟨v2, rfl, O2, E2⟩
  obtain ⟨A2, cap2, rfl⟩ := own_slice O2
  have HXR := Lib.hid (HX1.out.ext E2)
  have HEW := Lib.hid (HE1.out.trans E2)
  have hO2 := (own_rd' O2).2
  clear HR HE1 E2 HX1
  have c0 : w2.cell? ⟨w.heap.size, 0, none⟩ = some (.int .i64 0) := HXR.out.cell (i := 0) (by simp)
  have c1 : w2.cell? ⟨w.heap.size, 1, none⟩ = some (.int .i64 0) := HXR.out.cell (i := 1) (by simp)
  have c2 : w2.cell? ⟨w.heap.size, 2, none⟩ = some (.int .i64 0) := HXR.out.cell (i := 2) (by simp)
  have c3 : w2.cell? ⟨w.heap.size, 3, none⟩ = some (.int .i64 0) := HXR.out.cell (i := 3) (by simp)
  have c4 : w2.cell? ⟨w.heap.size, 4, none⟩ = some (.int .i64 0) := HXR.out.cell (i := 4) (by simp)
  have c5 : w2.cell? ⟨w.heap.size, 5, none⟩ = some (.int .i64 0) := HXR.out.cell (i := 5) (by simp)
  have c6 : w2.cell? ⟨w.heap.size, 6, none⟩ = some (.int .i64 0) := HXR.out.cell (i := 6) (by simp)
  have c7 : w2.cell? ⟨w.heap.size, 7, none⟩ = some (.int .i64 0) := HXR.out.cell (i := 7) (by simp)
  have c8 : w2.cell? ⟨w.heap.size, 8, none⟩ = some (.string ByteArray.empty) := HXR.out.cell (i := 8) (by simp)
  have c9 : w2.cell? ⟨w.heap.size, 9, none⟩ = some (.string ByteArray.empty) := HXR.out.cell (i := 9) (by simp)
  have f0 := HXR.out.frozen 0
  have f1 := HXR.out.frozen 1
  have f2 := HXR.out.frozen 2
  have f3 := HXR.out.frozen 3
  have f4 := HXR.out.frozen 4
  have f5 := HXR.out.frozen 5
  have f6 := HXR.out.frozen 6
  have f7 := HXR.out.frozen 7
  have f8 := HXR.out.frozen 8
  have f9 := HXR.out.frozen 9
  rcases ho : rfO (X.data.toList.drop 9) with _ | o
  · rw [ho] at HRP2
    have HV := Lib.hid (show ok = false from HRP2.out)
    clear HEQ HRP2 hO2 O2
    go_wp2_with fail
    refine bodyPost_ret (v := .tuple #[.agg #[.int .i64 0, .int .i64 0, .int .i64 0, .int .i64 0, .int .i64 0, .int .i64 0, .int .i64 0, .int .i64 0, .string ByteArray.empty, .string ByteArray.empty], .bool false]) (by simp [results, Try.results89, go_sem, c0, c1, c2, c3, c4, c5, c6, c7, c8, c9]; try rfl) rfl ?_
    exact .no (fun _ => 0) (fun _ => ByteArray.empty) HV.out (((((((((((HEW.out.set (Nat.le_refl _) _).set (Nat.le_refl _) _).set (Nat.le_refl _) _).set (Nat.le_refl _) _).set (Nat.le_refl _) _).set (Nat.le_refl _) _).set (Nat.le_refl _) _).set (Nat.le_refl _) _).set (Nat.le_refl _) _).set (Nat.le_refl _) _))
  rw [ho] at HRP2 HEQ hO2 O2
  simp only [Option.getD_some, Option.isSome_some] at HRP2 HEQ hO2 O2 ⊢
  by_cases hy : o.length = 2
  case neg =>
    have hyI : ((o.length : Int) != 2) = true := by rw [bne_iff_ne]; omega
    have HV := Lib.hid (show ok = false by rw [HRP2.out, decide_eq_false hy]; simp)
    clear HEQ HRP2 hO2 O2 hy
    go_wp2_with fail
    refine bodyPost_ret (v := .tuple #[.agg #[.int .i64 0, .int .i64 0, .int .i64 0, .int .i64 0, .int .i64 0, .int .i64 0, .int .i64 0, .int .i64 0, .string ByteArray.empty, .string ByteArray.empty], .bool false]) (by simp [results, Try.results89, go_sem, c0, c1, c2, c3, c4, c5, c6, c7, c8, c9]; try rfl) rfl ?_
    exact .no (fun _ => 0) (fun _ => ByteArray.empty) HV.out (((((((((((HEW.out.set (Nat.le_refl _) _).set (Nat.le_refl _) _).set (Nat.le_refl _) _).set (Nat.le_refl _) _).set (Nat.le_refl _) _).set (Nat.le_refl _) _).set (Nat.le_refl _) _).set (Nat.le_refl _) _).set (Nat.le_refl _) _).set (Nat.le_refl _) _))
  have hyI : ((o.length : Int) != 2) = false := by rw [hy]; rfl
  have hF2 := two_list hy
  have hsm := HSM.out
  rw [(fld_all_some ho).1] at hsm
  have hs0 : (o.getD 0 ByteArray.empty).size ≤ 255 := hsm _ (by rw [hF2]; simp)
  have hs1 : (o.getD 1 ByteArray.empty).size ≤ 255 := hsm _ (by rw [hF2]; simp)
  have hrd : Rd w2 A2 [.string (o.getD 0 ByteArray.empty), .string (o.getD 1 ByteArray.empty)] := by
    have e : (o.map fun c => Value.string c) = [.string (o.getD 0 ByteArray.empty), .string (o.getD 1 ByteArray.empty)] := by
      have := congrArg (List.map fun c => Value.string c) hF2
      simpa using this
    rw [← e]; exact hO2
  have HOK := Lib.hid (show ok = recB (m1 : Int) m2 m3 m4 m5 m6 m7 m8 (o.getD 0 ByteArray.empty) (o.getD 1 ByteArray.empty) by rw [HRP2.out, decide_eq_true hy]; simp)
  have HG := Lib.hid (show ok = true → (rrF X.data.toList).1 = o from HEQ.out)
  generalize hg0 : o.getD 0 ByteArray.empty = s0 at hs0 hrd HOK
  generalize hg1 : o.getD 1 ByteArray.empty = s1 at hs1 hrd HOK
  have HG0 := Lib.hid hg0
  have HG1 := Lib.hid hg1
  obtain ⟨bq, oq, rfl, -⟩ := hrd (by simp)
  have hRO := fun W => spec_RecordOK (m1 : Int) m2 m3 m4 m5 m6 m7 m8 s0 s1 W (by omega) (by omega) (wf_small b2)
  rw [← recB_eq] at hRO
  have HRO := Lib.hid hRO
  generalize recB (m1 : Int) m2 m3 m4 m5 m6 m7 m8 s0 s1 = pb at HRO HOK
  clear hsm hF2 HSM hO2 O2 HEQ HRP2 hg0 hg1 hRO
  generalize hN : o.length = N at hy hyI ⊢
  have hy0 : (0 : Int) < (N : Int) := by omega
  have hy0N : 0 < N := by omega
  have hy1N : 1 < N := by omega
  have hy1 : (1 : Int) < (N : Int) := by omega
  have z1 : (1 : Int) < (X.size : Int) := by omega
  have z2 : (2 : Int) < (X.size : Int) := by omega
  have z3 : (3 : Int) < (X.size : Int) := by omega
  have z4 : (4 : Int) < (X.size : Int) := by omega
  have z5 : (5 : Int) < (X.size : Int) := by omega
  have z6 : (6 : Int) < (X.size : Int) := by omega
  have z7 : (7 : Int) < (X.size : Int) := by omega
  have z8 : (8 : Int) < (X.size : Int) := by omega
  clear hy hN c0 c1 c2 c3 c4 c5 c6 c7 c8 c9 f0 f1 f2 f3 f4 f5 f6 f7 f8 f9
  go_wp2_with fail
  refine rg_startS (fun W => Ext w W ∧ Rd W (some ⟨bq, oq, none⟩) [.string s0, .string s1] ∧ Blk W w.heap.size 57 [.int .i64 0, .int .i64 0, .int .i64 0, .int .i64 0, .int .i64 0, .int .i64 0, .int .i64 0, .int .i64 0, .string ByteArray.empty, .string ByteArray.empty]) (by kernel_rfl) ⟨HEW.out.drew, hrd.ext ((Ext.refl w2).drew), HXR.out.drew⟩ (fun hS0 => ?_)
  (refine rg_take (v := ?_) 0 rfl (by kernel_rfl) (by kernel_rfl) (by kernel_rfl) (fun _ _ _ h => h) (by rfl) (by assumption) (fun W hW => ?_) ?_; rotate_left; (focus (go_simp; try with_reducible rfl)); (try simp only [List.setIfInBounds_toArray, List.set_cons_succ, List.set_cons_zero]))
  (refine rg_take (v := ?_) 1 rfl (by kernel_rfl) (by kernel_rfl) (by kernel_rfl) (fun _ _ _ h => h) (by rfl) (by assumption) (fun W hW => ?_) ?_; rotate_left; (focus (go_simp; try with_reducible rfl)); (try simp only [List.setIfInBounds_toArray, List.set_cons_succ, List.set_cons_zero]))
  (refine rg_take (v := ?_) 2 rfl (by kernel_rfl) (by kernel_rfl) (by kernel_rfl) (fun _ _ _ h => h) (by rfl) (by assumption) (fun W hW => ?_) ?_; rotate_left; (focus (go_simp; try with_reducible rfl)); (try simp only [List.setIfInBounds_toArray, List.set_cons_succ, List.set_cons_zero]))
  (refine rg_take (v := ?_) 3 rfl (by kernel_rfl) (by kernel_rfl) (by kernel_rfl) (fun _ _ _ h => h) (by rfl) (by assumption) (fun W hW => ?_) ?_; rotate_left; (focus (go_simp; try with_reducible rfl)); (try simp only [List.setIfInBounds_toArray, List.set_cons_succ, List.set_cons_zero]))
  (refine rg_take (v := ?_) 4 rfl (by kernel_rfl) (by kernel_rfl) (by kernel_rfl) (fun _ _ _ h => h) (by rfl) (by assumption) (fun W hW => ?_) ?_; rotate_left; (focus (go_simp; try with_reducible rfl)); (try simp only [List.setIfInBounds_toArray, List.set_cons_succ, List.set_cons_zero]))
  (refine rg_take (v := ?_) 5 rfl (by kernel_rfl) (by kernel_rfl) (by kernel_rfl) (fun _ _ _ h => h) (by rfl) (by assumption) (fun W hW => ?_) ?_; rotate_left; (focus (go_simp; try with_reducible rfl)); (try simp only [List.setIfInBounds_toArray, List.set_cons_succ, List.set_cons_zero]))
  (refine rg_take (v := ?_) 6 rfl (by kernel_rfl) (by kernel_rfl) (by kernel_rfl) (fun _ _ _ h => h) (by rfl) (by assumption) (fun W hW => ?_) ?_; rotate_left; (focus (go_simp; try with_reducible rfl)); (try simp only [List.setIfInBounds_toArray, List.set_cons_succ, List.set_cons_zero]))
  (refine rg_take (v := ?_) 7 rfl (by kernel_rfl) (by kernel_rfl) (by kernel_rfl) (fun _ _ _ h => h) (by rfl) (by assumption) (fun W hW => ?_) ?_; rotate_left; (focus (go_simp; try with_reducible rfl)); (try simp only [List.setIfInBounds_toArray, List.set_cons_succ, List.set_cons_zero]))
  (refine rg_take (v := ?_) 8 rfl (by kernel_rfl) (by kernel_rfl) (by kernel_rfl) (fun _ _ _ h => h) (by rfl) (by assumption) (fun W hW => ?_) ?_; rotate_left; (focus (go_simp; try with_reducible rfl)); (try simp only [List.setIfInBounds_toArray, List.set_cons_succ, List.set_cons_zero]))
  (refine rg_take (v := ?_) 9 rfl (by kernel_rfl) (by kernel_rfl) (by kernel_rfl) (fun _ _ _ h => h) (by rfl) (by assumption) (fun W hW => ?_) ?_; rotate_left; (focus (go_simp; try with_reducible rfl)); (try simp only [List.setIfInBounds_toArray, List.set_cons_succ, List.set_cons_zero]))
  (refine rg_take (v := ?_) 10 rfl (by kernel_rfl) (by kernel_rfl) (by kernel_rfl) (fun _ _ _ h => h) (by rfl) (by assumption) (fun W hW => ?_) ?_; rotate_left; (focus (go_simp; try with_reducible rfl)); (try simp only [List.setIfInBounds_toArray, List.set_cons_succ, List.set_cons_zero]))
  (refine rg_take (v := ?_) 11 rfl (by kernel_rfl) (by kernel_rfl) (by kernel_rfl) (fun _ _ _ h => h) (by rfl) (by assumption) (fun W hW => ?_) ?_; rotate_left; (focus (go_simp; try with_reducible rfl)); (try simp only [List.setIfInBounds_toArray, List.set_cons_succ, List.set_cons_zero]))
  (refine rg_take (v := ?_) 12 rfl (by kernel_rfl) (by kernel_rfl) (by kernel_rfl) (fun _ _ _ h => h) (by rfl) (by assumption) (fun W hW => ?_) ?_; rotate_left; (focus (go_simp; try with_reducible rfl)); (try simp only [List.setIfInBounds_toArray, List.set_cons_succ, List.set_cons_zero]))
  (refine rg_take (v := ?_) 13 rfl (by kernel_rfl) (by kernel_rfl) (by kernel_rfl) (fun _ _ _ h => h) (by rfl) (by assumption) (fun W hW => ?_) ?_; rotate_left; (focus (go_simp; try with_reducible rfl)); (try simp only [List.setIfInBounds_toArray, List.set_cons_succ, List.set_cons_zero]))
  (refine rg_take (v := ?_) 14 rfl (by kernel_rfl) (by kernel_rfl) (by kernel_rfl) (fun _ _ _ h => h) (by rfl) (by assumption) (fun W hW => ?_) ?_; rotate_left; (focus (go_simp; try with_reducible rfl)); (try simp only [List.setIfInBounds_toArray, List.set_cons_succ, List.set_cons_zero]))
  (refine rg_take (v := ?_) 15 rfl (by kernel_rfl) (by kernel_rfl) (by kernel_rfl) (fun _ _ _ h => h) (by rfl) (by assumption) (fun W hW => ?_) ?_; rotate_left; (focus (go_simp; try with_reducible rfl)); (try simp only [List.setIfInBounds_toArray, List.set_cons_succ, List.set_cons_zero]))
  (refine rg_take (v := ?_) 16 rfl (by kernel_rfl) (by kernel_rfl) (by kernel_rfl) (fun _ _ _ h => h) (by rfl) (by assumption) (fun W hW => ?_) ?_; rotate_left; (focus (go_simp; try with_reducible rfl)); (try simp only [List.setIfInBounds_toArray, List.set_cons_succ, List.set_cons_zero]))
  (refine rg_take (v := ?_) 17 rfl (by kernel_rfl) (by kernel_rfl) (by kernel_rfl) (fun _ _ _ h => h) (by rfl) (by assumption) (fun W hW => ?_) ?_; rotate_left; (focus (go_simp; try with_reducible rfl)); (try simp only [List.setIfInBounds_toArray, List.set_cons_succ, List.set_cons_zero]))
  (refine rg_take (v := ?_) 18 rfl (by kernel_rfl) (by kernel_rfl) (by kernel_rfl) (fun _ _ _ h => h) (by rfl) (by assumption) (fun W hW => ?_) ?_; rotate_left; (focus (go_simp; try with_reducible rfl)); (try simp only [List.setIfInBounds_toArray, List.set_cons_succ, List.set_cons_zero]))
  (refine rg_take (v := ?_) 19 rfl (by kernel_rfl) (by kernel_rfl) (by kernel_rfl) (fun _ _ _ h => h) (by rfl) (by assumption) (fun W hW => ?_) ?_; rotate_left; (focus (go_simp; try with_reducible rfl)); (try simp only [List.setIfInBounds_toArray, List.set_cons_succ, List.set_cons_zero]))
  (refine rg_take (v := ?_) 20 rfl (by kernel_rfl) (by kernel_rfl) (by kernel_rfl) (fun _ _ _ h => h) (by rfl) (by assumption) (fun W hW => ?_) ?_; rotate_left; (focus (go_simp; try with_reducible rfl)); (try simp only [List.setIfInBounds_toArray, List.set_cons_succ, List.set_cons_zero]))
  (refine rg_take (v := ?_) 21 rfl (by kernel_rfl) (by kernel_rfl) (by kernel_rfl) (fun _ _ _ h => h) (by rfl) (by assumption) (fun W hW => ?_) ?_; rotate_left; (focus (go_simp; try with_reducible rfl)); (try simp only [List.setIfInBounds_toArray, List.set_cons_succ, List.set_cons_zero]))
  (refine rg_take (v := ?_) 22 rfl (by kernel_rfl) (by kernel_rfl) (by kernel_rfl) (fun _ _ _ h => h) (by rfl) (by assumption) (fun W hW => ?_) ?_; rotate_left; (focus (go_simp; try with_reducible rfl)); (try simp only [List.setIfInBounds_toArray, List.set_cons_succ, List.set_cons_zero]))
  (refine rg_take (v := ?_) 23 rfl (by kernel_rfl) (by kernel_rfl) (by kernel_rfl) (fun _ _ _ h => h) (by rfl) (by assumption) (fun W hW => ?_) ?_; rotate_left; (focus (go_simp; try with_reducible rfl)); (try simp only [List.setIfInBounds_toArray, List.set_cons_succ, List.set_cons_zero]))
  (refine rg_take (v := ?_) 24 rfl (by kernel_rfl) (by kernel_rfl) (by kernel_rfl) (fun _ _ _ h => h) (by rfl) (by assumption) (fun W hW => ?_) ?_; rotate_left; (focus (go_simp; try with_reducible rfl)); (try simp only [List.setIfInBounds_toArray, List.set_cons_succ, List.set_cons_zero]))
  (refine rg_take (v := ?_) 25 rfl (by kernel_rfl) (by kernel_rfl) (by kernel_rfl) (fun _ _ _ h => h) (by rfl) (by assumption) (fun W hW => ?_) ?_; rotate_left; (focus (go_simp; try with_reducible rfl)); (try simp only [List.setIfInBounds_toArray, List.set_cons_succ, List.set_cons_zero]))
  (refine rg_take (v := ?_) 26 rfl (by kernel_rfl) (by kernel_rfl) (by kernel_rfl) (fun _ _ _ h => h) (by rfl) (by assumption) (fun W hW => ?_) ?_; rotate_left; (focus (have j0 := (rd_two hW.2.1).1; go_simp; try with_reducible rfl)); (try simp only [List.setIfInBounds_toArray, List.set_cons_succ, List.set_cons_zero]))
  (refine rg_take (v := ?_) 27 rfl (by kernel_rfl) (by kernel_rfl) (by kernel_rfl) (fun _ _ _ h => h) (by rfl) (by assumption) (fun W hW => ?_) ?_; rotate_left; (focus (go_simp; try with_reducible rfl)); (try simp only [List.setIfInBounds_toArray, List.set_cons_succ, List.set_cons_zero]))
  (refine rg_take (v := ?_) 28 rfl (by kernel_rfl) (by kernel_rfl) (by kernel_rfl) (fun _ _ _ h => h) (by rfl) (by assumption) (fun W hW => ?_) ?_; rotate_left; (focus (go_simp; try with_reducible rfl)); (try simp only [List.setIfInBounds_toArray, List.set_cons_succ, List.set_cons_zero]))
  (refine rg_take (v := ?_) 29 rfl (by kernel_rfl) (by kernel_rfl) (by kernel_rfl) (fun _ _ _ h => h) (by rfl) (by assumption) (fun W hW => ?_) ?_; rotate_left; (focus (have j1 := (rd_two hW.2.1).2; go_simp; try with_reducible rfl)); (try simp only [List.setIfInBounds_toArray, List.set_cons_succ, List.set_cons_zero]))
  (refine rg_take (v := ?_) 30 rfl (by kernel_rfl) (by kernel_rfl) (by kernel_rfl) (fun _ _ _ h => h) (by rfl) (by assumption) (fun W hW => ?_) ?_; rotate_left; (focus (go_simp; try with_reducible rfl)); (try simp only [List.setIfInBounds_toArray, List.set_cons_succ, List.set_cons_zero]))
  (refine rg_one 31 (by kernel_rfl) rfl (by rfl) (fun K hK => ?_); go_simp)
  refine hK _ _ ⟨(HEW.out.alloc _).drew, hrd.ext ((Ext.refl w2).alloc _).drew, (HXR.out.alloc _).drew⟩ (fun _ => ?_)
  clear hK K
  try simp only [List.setIfInBounds_toArray, List.set_cons_succ, List.set_cons_zero]
  (refine rg_one 32 (by kernel_rfl) rfl (by rfl) (fun K hK => ?_); go_simp)
  refine hK _ _ ⟨(HEW.out.alloc _).drew, hrd.ext ((Ext.refl w2).alloc _).drew, (HXR.out.alloc _).drew⟩ (fun _ => ?_)
  clear hK K
  try simp only [List.setIfInBounds_toArray, List.set_cons_succ, List.set_cons_zero]
  refine rg_done (by kernel_rfl) ?_
  have HP := Lib.hid (Blk.new w2 57 [.int .i64 (m1 : Int), .int .i64 (m2 : Int), .int .i64 (m3 : Int), .int .i64 (m4 : Int), .int .i64 (m5 : Int), .int .i64 (m6 : Int), .int .i64 (m7 : Int), .int .i64 (m8 : Int), .string s0, .string s1]).drew
  have HXP := Lib.hid (HXR.out.alloc (.cells #[.int .i64 (m1 : Int), .int .i64 (m2 : Int), .int .i64 (m3 : Int), .int .i64 (m4 : Int), .int .i64 (m5 : Int), .int .i64 (m6 : Int), .int .i64 (m7 : Int), .int .i64 (m8 : Int), .string s0, .string s1] 57)).drew
  have HEP := Lib.hid (HEW.out.alloc (.cells #[.int .i64 (m1 : Int), .int .i64 (m2 : Int), .int .i64 (m3 : Int), .int .i64 (m4 : Int), .int .i64 (m5 : Int), .int .i64 (m6 : Int), .int .i64 (m7 : Int), .int .i64 (m8 : Int), .string s0, .string s1] 57)).drew
  have hne : w2.heap.size ≠ w.heap.size := by have := HXR.out.lt; omega
  clear hS0 hrd HXR HEW k1 z1 n1 i1 k2 z2 n2 i2 k3 z3 n3 i3 k4 z4 n4 i4 k5 z5 n5 i5 k6 z6 n6 i6 k7 z7 n7 i7 k8 z8 n8 i8
  generalize hgw : (w2.alloc (.cells #[.int .i64 (m1 : Int), .int .i64 (m2 : Int), .int .i64 (m3 : Int), .int .i64 (m4 : Int), .int .i64 (m5 : Int), .int .i64 (m6 : Int), .int .i64 (m7 : Int), .int .i64 (m8 : Int), .string s0, .string s1] 57)).drew = w3 at HP HXP HEP ⊢
  clear hgw
  generalize w2.heap.size = px at HP hne ⊢
  have c0 : w3.cell? ⟨w.heap.size, 0, none⟩ = some (.int .i64 0) := HXP.out.cell (i := 0) (by simp)
  have c1 : w3.cell? ⟨w.heap.size, 1, none⟩ = some (.int .i64 0) := HXP.out.cell (i := 1) (by simp)
  have c2 : w3.cell? ⟨w.heap.size, 2, none⟩ = some (.int .i64 0) := HXP.out.cell (i := 2) (by simp)
  have c3 : w3.cell? ⟨w.heap.size, 3, none⟩ = some (.int .i64 0) := HXP.out.cell (i := 3) (by simp)
  have c4 : w3.cell? ⟨w.heap.size, 4, none⟩ = some (.int .i64 0) := HXP.out.cell (i := 4) (by simp)
  have c5 : w3.cell? ⟨w.heap.size, 5, none⟩ = some (.int .i64 0) := HXP.out.cell (i := 5) (by simp)
  have c6 : w3.cell? ⟨w.heap.size, 6, none⟩ = some (.int .i64 0) := HXP.out.cell (i := 6) (by simp)
  have c7 : w3.cell? ⟨w.heap.size, 7, none⟩ = some (.int .i64 0) := HXP.out.cell (i := 7) (by simp)
  have c8 : w3.cell? ⟨w.heap.size, 8, none⟩ = some (.string ByteArray.empty) := HXP.out.cell (i := 8) (by simp)
  have c9 : w3.cell? ⟨w.heap.size, 9, none⟩ = some (.string ByteArray.empty) := HXP.out.cell (i := 9) (by simp)
  have f0 := HXP.out.frozen 0
  have f1 := HXP.out.frozen 1
  have f2 := HXP.out.frozen 2
  have f3 := HXP.out.frozen 3
  have f4 := HXP.out.frozen 4
  have f5 := HXP.out.frozen 5
  have f6 := HXP.out.frozen 6
  have f7 := HXP.out.frozen 7
  have f8 := HXP.out.frozen 8
  have f9 := HXP.out.frozen 9
  go_wp2_with fail
  refine rg_startS (fun W => Ext w W ∧ Blk W px 57 [.int .i64 (m1 : Int), .int .i64 (m2 : Int), .int .i64 (m3 : Int), .int .i64 (m4 : Int), .int .i64 (m5 : Int), .int .i64 (m6 : Int), .int .i64 (m7 : Int), .int .i64 (m8 : Int), .string s0, .string s1]) (by kernel_rfl) ⟨HEP.out.drew, HP.out.drew⟩ (fun hS0 => ?_)
  (refine rg_take (v := ?_) 0 rfl (by kernel_rfl) (by kernel_rfl) (by kernel_rfl) (fun _ _ _ h => h) (by rfl) (by assumption) (fun W hW => ?_) ?_; rotate_left; (focus (have p0 := hW.2.cell (i := 0) (by simp); have p1 := hW.2.cell (i := 1) (by simp); have p2 := hW.2.cell (i := 2) (by simp); have p3 := hW.2.cell (i := 3) (by simp); have p4 := hW.2.cell (i := 4) (by simp); have p5 := hW.2.cell (i := 5) (by simp); have p6 := hW.2.cell (i := 6) (by simp); have p7 := hW.2.cell (i := 7) (by simp); have p8 := hW.2.cell (i := 8) (by simp); have p9 := hW.2.cell (i := 9) (by simp); go_simp; try with_reducible rfl)); (try simp only [List.setIfInBounds_toArray, List.set_cons_succ, List.set_cons_zero]))
  (refine rg_take (v := ?_) 1 rfl (by kernel_rfl) (by kernel_rfl) (by kernel_rfl) (fun _ _ _ h => h) (by rfl) (by assumption) (fun W hW => ?_) ?_; rotate_left; (focus (have p0 := hW.2.cell (i := 0) (by simp); have p1 := hW.2.cell (i := 1) (by simp); have p2 := hW.2.cell (i := 2) (by simp); have p3 := hW.2.cell (i := 3) (by simp); have p4 := hW.2.cell (i := 4) (by simp); have p5 := hW.2.cell (i := 5) (by simp); have p6 := hW.2.cell (i := 6) (by simp); have p7 := hW.2.cell (i := 7) (by simp); have p8 := hW.2.cell (i := 8) (by simp); have p9 := hW.2.cell (i := 9) (by simp); go_simp; try with_reducible rfl)); (try simp only [List.setIfInBounds_toArray, List.set_cons_succ, List.set_cons_zero]))
  (refine rg_one 2 (by kernel_rfl) rfl (by rfl) (fun K hK => ?_); go_simp)
  refine (HRO.out _).mono ?_
  rintro e w5 ⟨rfl, E5⟩
  refine hK _ _ ⟨hS0.1.trans E5, hS0.2.ext E5⟩ (fun hS1 => ?_)
  clear hK K c0 c1 c2 c3 c4 c5 c6 c7 c8 c9 f0 f1 f2 f3 f4 f5 f6 f7 f8 f9
  try simp only [List.setIfInBounds_toArray, List.set_cons_succ, List.set_cons_zero]
  have HX5 := Lib.hid (HXP.out.drew.ext E5)
  have c0 : w5.cell? ⟨w.heap.size, 0, none⟩ = some (.int .i64 0) := HX5.out.cell (i := 0) (by simp)
  have c1 : w5.cell? ⟨w.heap.size, 1, none⟩ = some (.int .i64 0) := HX5.out.cell (i := 1) (by simp)
  have c2 : w5.cell? ⟨w.heap.size, 2, none⟩ = some (.int .i64 0) := HX5.out.cell (i := 2) (by simp)
  have c3 : w5.cell? ⟨w.heap.size, 3, none⟩ = some (.int .i64 0) := HX5.out.cell (i := 3) (by simp)
  have c4 : w5.cell? ⟨w.heap.size, 4, none⟩ = some (.int .i64 0) := HX5.out.cell (i := 4) (by simp)
  have c5 : w5.cell? ⟨w.heap.size, 5, none⟩ = some (.int .i64 0) := HX5.out.cell (i := 5) (by simp)
  have c6 : w5.cell? ⟨w.heap.size, 6, none⟩ = some (.int .i64 0) := HX5.out.cell (i := 6) (by simp)
  have c7 : w5.cell? ⟨w.heap.size, 7, none⟩ = some (.int .i64 0) := HX5.out.cell (i := 7) (by simp)
  have c8 : w5.cell? ⟨w.heap.size, 8, none⟩ = some (.string ByteArray.empty) := HX5.out.cell (i := 8) (by simp)
  have c9 : w5.cell? ⟨w.heap.size, 9, none⟩ = some (.string ByteArray.empty) := HX5.out.cell (i := 9) (by simp)
  have f0 := HX5.out.frozen 0
  have f1 := HX5.out.frozen 1
  have f2 := HX5.out.frozen 2
  have f3 := HX5.out.frozen 3
  have f4 := HX5.out.frozen 4
  have f5 := HX5.out.frozen 5
  have f6 := HX5.out.frozen 6
  have f7 := HX5.out.frozen 7
  have f8 := HX5.out.frozen 8
  have f9 := HX5.out.frozen 9
  (refine rg_one 3 (by kernel_rfl) rfl (by rfl) (fun K hK => ?_); go_simp)
  refine hK _ _ ⟨((((((((((hS1.1.set (Nat.le_refl _) _).set (Nat.le_refl _) _).set (Nat.le_refl _) _).set (Nat.le_refl _) _).set (Nat.le_refl _) _).set (Nat.le_refl _) _).set (Nat.le_refl _) _).set (Nat.le_refl _) _).set (Nat.le_refl _) _).set (Nat.le_refl _) _), ((((((((((hS1.2.far (by exact hne) _).far (by exact hne) _).far (by exact hne) _).far (by exact hne) _).far (by exact hne) _).far (by exact hne) _).far (by exact hne) _).far (by exact hne) _).far (by exact hne) _).far (by exact hne) _)⟩ (fun hS2 => ?_)
  clear hK K
  try simp only [List.setIfInBounds_toArray, List.set_cons_succ, List.set_cons_zero]
  (refine rg_take (v := ?_) 4 rfl (by kernel_rfl) (by kernel_rfl) (by kernel_rfl) (fun _ _ _ h => h) (by rfl) (by assumption) (fun W hW => ?_) ?_; rotate_left; (focus (go_simp; try with_reducible rfl)); (try simp only [List.setIfInBounds_toArray, List.set_cons_succ, List.set_cons_zero]))
  refine rg_done (by kernel_rfl) ?_
  cases pb with
  | false =>
    go_wp2_with fail
    refine bodyPost_ret (v := .tuple #[.agg #[.int .i64 (m1 : Int), .int .i64 (m2 : Int), .int .i64 (m3 : Int), .int .i64 (m4 : Int), .int .i64 (m5 : Int), .int .i64 (m6 : Int), .int .i64 (m7 : Int), .int .i64 (m8 : Int), .string s0, .string s1], .bool false]) (by simp [results, Try.results89, go_sem, c0, c1, c2, c3, c4, c5, c6, c7, c8, c9]; try rfl) rfl ?_
    exact .no (fun i => [0, (m1 : Int), (m2 : Int), (m3 : Int), (m4 : Int), (m5 : Int), (m6 : Int), (m7 : Int), (m8 : Int)].getD i 0) (fun i => [s0, s1].getD i ByteArray.empty) HOK.out hS2.1
  | true =>
    go_wp2_with fail
    refine bodyPost_ret (v := .tuple #[.agg #[.int .i64 (m1 : Int), .int .i64 (m2 : Int), .int .i64 (m3 : Int), .int .i64 (m4 : Int), .int .i64 (m5 : Int), .int .i64 (m6 : Int), .int .i64 (m7 : Int), .int .i64 (m8 : Int), .string s0, .string s1], .bool true]) (by simp [results, Try.results89, go_sem, c0, c1, c2, c3, c4, c5, c6, c7, c8, c9]; try rfl) rfl ?_
    have hq := HG.out HOK.out
    refine .yes (fun i => [0, (m1 : Int), (m2 : Int), (m3 : Int), (m4 : Int), (m5 : Int), (m6 : Int), (m7 : Int), (m8 : Int)].getD i 0) (fun i => [s0, s1].getD i ByteArray.empty) HOK.out HJ.out (by rw [hq, HG0.out]; rfl) (by rw [hq, HG1.out]; rfl) hS2.1
set_option maxHeartbeats 4000000 in
theorem spec_ReadRecord (A : Option Addr) (n cp : Nat) (l : List UInt8) (w : World) (hl : l.length = n) (hn : n ≤ 1099511627776) (hr : Rd w A (l.map fun c => Value.int .u8 (c.toNat : Int))) :
    Calls Try.prog 49 #[.slice A n cp] w (RrPost w l) := by
  have E0 : Ext w (w.alloc (.cells #[.int .i64 0, .int .i64 0, .int .i64 0, .int .i64 0, .int .i64 0, .int .i64 0, .int .i64 0, .int .i64 0, .string ByteArray.empty, .string ByteArray.empty] 57)) := (by repeat (first | exact Ext.refl _ | assumption | refine Ext.alloc ?_ _ | refine Ext.drewN ?_ _ | refine Ext.drew ?_ | refine Ext.set ?_ (by dsimp only; omega) _ | refine Ext.trans ?_ (by assumption)))
  have hX := Blk.new w 57 [.int .i64 0, .int .i64 0, .int .i64 0, .int .i64 0, .int .i64 0, .int .i64 0, .int .i64 0, .int .i64 0, .string ByteArray.empty, .string ByteArray.empty]
  by_cases h1 : 65536 < n
  · have HV := Lib.hid (rr_long (l := l) (by omega))
    have h1I : (65536 : Int) < (n : Int) := by omega
    clear hl hr
    go_enter Try.func49, Try.ntmps49
    go_wp2_with fail
    refine bodyPost_ret (v := .tuple #[.agg #[.int .i64 0, .int .i64 0, .int .i64 0, .int .i64 0, .int .i64 0, .int .i64 0, .int .i64 0, .int .i64 0, .string ByteArray.empty, .string ByteArray.empty], .int .i64 2]) (by simp [results, Try.results49, go_sem]; try rfl) rfl ?_
    exact .none HV.out.1 HV.out.2 E0
  have h1I : ¬ (65536 : Int) < (n : Int) := by omega
  have h1' : ¬ 65536 < l.length := by omega
  have hcv := fun W (E : Ext w W) => run_text (P := Try.prog) (src := 22) (dst := 9) Try.underlying22 Try.underlying5 Try.underlying9 W A n cp l hl (hr.ext E)
  have HCV := Lib.hid hcv
  have hcv0 := hcv _ (show Ext w (w.alloc (.cells #[.int .i64 0, .int .i64 0, .int .i64 0, .int .i64 0, .int .i64 0, .int .i64 0, .int .i64 0, .int .i64 0, .string ⟨#[]⟩, .string ⟨#[]⟩] 57)) from E0)
  have hsz : (⟨l.toArray⟩ : ByteArray).size = l.length := by show l.toArray.size = _; simp
  have hdl : (⟨l.toArray⟩ : ByteArray).data.toList = l := by simp
  generalize (⟨l.toArray⟩ : ByteArray) = s at HCV hcv0 hsz hdl
  have HDL := Lib.hid hdl
  have HSZ := Lib.hid hsz
  clear hcv hsz hdl hr
  by_cases h4 : n < 4
  · have HV := Lib.hid (rr_sum h1' (by unfold sealB?; rw [decide_eq_false (by omega)]; rfl))
    have HU := Lib.hid (fun W => spec_l03Unseal_short s W (by rw [HSZ.out]; omega))
    clear hl h4 h1'
    go_enter Try.func49, Try.ntmps49
    go_wp2_with fail
    refine (HU.out _).mono ?_
    rintro e w1 ⟨rfl, E1⟩
    have hX1 := hX.ext E1
    have c0 : w1.cell? ⟨w.heap.size, 0, none⟩ = some (.int .i64 0) := hX1.cell (i := 0) (by simp)
    have c1 : w1.cell? ⟨w.heap.size, 1, none⟩ = some (.int .i64 0) := hX1.cell (i := 1) (by simp)
    have c2 : w1.cell? ⟨w.heap.size, 2, none⟩ = some (.int .i64 0) := hX1.cell (i := 2) (by simp)
    have c3 : w1.cell? ⟨w.heap.size, 3, none⟩ = some (.int .i64 0) := hX1.cell (i := 3) (by simp)
    have c4 : w1.cell? ⟨w.heap.size, 4, none⟩ = some (.int .i64 0) := hX1.cell (i := 4) (by simp)
    have c5 : w1.cell? ⟨w.heap.size, 5, none⟩ = some (.int .i64 0) := hX1.cell (i := 5) (by simp)
    have c6 : w1.cell? ⟨w.heap.size, 6, none⟩ = some (.int .i64 0) := hX1.cell (i := 6) (by simp)
    have c7 : w1.cell? ⟨w.heap.size, 7, none⟩ = some (.int .i64 0) := hX1.cell (i := 7) (by simp)
    have c8 : w1.cell? ⟨w.heap.size, 8, none⟩ = some (.string ByteArray.empty) := hX1.cell (i := 8) (by simp)
    have c9 : w1.cell? ⟨w.heap.size, 9, none⟩ = some (.string ByteArray.empty) := hX1.cell (i := 9) (by simp)
    have f0 := hX1.frozen 0
    have f1 := hX1.frozen 1
    have f2 := hX1.frozen 2
    have f3 := hX1.frozen 3
    have f4 := hX1.frozen 4
    have f5 := hX1.frozen 5
    have f6 := hX1.frozen 6
    have f7 := hX1.frozen 7
    have f8 := hX1.frozen 8
    have f9 := hX1.frozen 9
    go_wp2_with fail
    refine bodyPost_ret (v := .tuple #[.agg #[.int .i64 0, .int .i64 0, .int .i64 0, .int .i64 0, .int .i64 0, .int .i64 0, .int .i64 0, .int .i64 0, .string ByteArray.empty, .string ByteArray.empty], .int .i64 8]) (by simp [results, Try.results49, go_sem, c0, c1, c2, c3, c4, c5, c6, c7, c8, c9]; try rfl) rfl ?_
    exact .none HV.out.1 HV.out.2 ((((((((((((E0.trans E1).set (Nat.le_refl _) _).set (Nat.le_refl _) _).set (Nat.le_refl _) _).set (Nat.le_refl _) _).set (Nat.le_refl _) _).set (Nat.le_refl _) _).set (Nat.le_refl _) _).set (Nat.le_refl _) _).set (Nat.le_refl _) _).set (Nat.le_refl _) _))
  have HU := Lib.hid (fun W => spec_l03Unseal s W (by rw [HSZ.out]; omega) (by rw [HSZ.out]; omega))
  rcases hs : sealB? l with _ | _
  · have HV := Lib.hid (rr_sum h1' hs)
    have HS := Lib.hid (show sealB? s.data.toList = false by rw [HDL.out]; exact hs)
    clear hl h4 h1' hs
    go_enter Try.func49, Try.ntmps49
    go_wp2_with fail
    refine (HU.out _).mono ?_
    rintro e w1 ⟨rfl, E1⟩
    rw [HS.out, if_neg (by decide)]
    have hX1 := hX.ext E1
    have c0 : w1.cell? ⟨w.heap.size, 0, none⟩ = some (.int .i64 0) := hX1.cell (i := 0) (by simp)
    have c1 : w1.cell? ⟨w.heap.size, 1, none⟩ = some (.int .i64 0) := hX1.cell (i := 1) (by simp)
    have c2 : w1.cell? ⟨w.heap.size, 2, none⟩ = some (.int .i64 0) := hX1.cell (i := 2) (by simp)
    have c3 : w1.cell? ⟨w.heap.size, 3, none⟩ = some (.int .i64 0) := hX1.cell (i := 3) (by simp)
    have c4 : w1.cell? ⟨w.heap.size, 4, none⟩ = some (.int .i64 0) := hX1.cell (i := 4) (by simp)
    have c5 : w1.cell? ⟨w.heap.size, 5, none⟩ = some (.int .i64 0) := hX1.cell (i := 5) (by simp)
    have c6 : w1.cell? ⟨w.heap.size, 6, none⟩ = some (.int .i64 0) := hX1.cell (i := 6) (by simp)
    have c7 : w1.cell? ⟨w.heap.size, 7, none⟩ = some (.int .i64 0) := hX1.cell (i := 7) (by simp)
    have c8 : w1.cell? ⟨w.heap.size, 8, none⟩ = some (.string ByteArray.empty) := hX1.cell (i := 8) (by simp)
    have c9 : w1.cell? ⟨w.heap.size, 9, none⟩ = some (.string ByteArray.empty) := hX1.cell (i := 9) (by simp)
    have f0 := hX1.frozen 0
    have f1 := hX1.frozen 1
    have f2 := hX1.frozen 2
    have f3 := hX1.frozen 3
    have f4 := hX1.frozen 4
    have f5 := hX1.frozen 5
    have f6 := hX1.frozen 6
    have f7 := hX1.frozen 7
    have f8 := hX1.frozen 8
    have f9 := hX1.frozen 9
    go_wp2_with fail
    refine bodyPost_ret (v := .tuple #[.agg #[.int .i64 0, .int .i64 0, .int .i64 0, .int .i64 0, .int .i64 0, .int .i64 0, .int .i64 0, .int .i64 0, .string ByteArray.empty, .string ByteArray.empty], .int .i64 8]) (by simp [results, Try.results49, go_sem, c0, c1, c2, c3, c4, c5, c6, c7, c8, c9]; try rfl) rfl ?_
    exact .none HV.out.1 HV.out.2 ((((((((((((E0.trans E1).set (Nat.le_refl _) _).set (Nat.le_refl _) _).set (Nat.le_refl _) _).set (Nat.le_refl _) _).set (Nat.le_refl _) _).set (Nat.le_refl _) _).set (Nat.le_refl _) _).set (Nat.le_refl _) _).set (Nat.le_refl _) _).set (Nat.le_refl _) _))
  have HS := Lib.hid (show sealB? s.data.toList = true by rw [HDL.out]; exact hs)
  have HR := Lib.hid (fun W => spec_l04Read s W (by rw [HSZ.out]; omega) (by rw [HSZ.out]; omega) HS.out)
  rw [HDL.out] at HR
  rw [← (rr_eq (bodyB l)).1] at HR
  have HVF := Lib.hid (rr_form h1' hs)
  have HVG := Lib.hid (rr_good h1' hs)
  generalize rrOK (bodyB l) = ok at HR HVF HVG
  clear hl h4 h1' hs
  go_enter Try.func49, Try.ntmps49
  go_wp2_with fail
  refine (HU.out _).mono ?_
  rintro e w1 ⟨rfl, E1⟩
  rw [HS.out, if_pos rfl]
  have hcv1 := HCV.out _ (E0.trans E1)
  have HE1 := Lib.hid (E0.trans E1)
  have HX1 := Lib.hid (hX.ext E1)
  clear hcv0 hX E0 E1 HU
  generalize s.extract 0 (s.size - 4) = X
  go_wp2_with fail
  refine (HR.out _).mono ?_
  rintro e w2 ⟨f, g, rfl, hok, E2⟩
  have HOK := Lib.hid hok
  generalize hf1 : f 1 = a1
  generalize hf2 : f 2 = a2
  generalize hf3 : f 3 = a3
  generalize hf4 : f 4 = a4
  generalize hf5 : f 5 = a5
  generalize hf6 : f 6 = a6
  generalize hf7 : f 7 = a7
  generalize hf8 : f 8 = a8
  generalize hg0 : g 0 = x0
  generalize hg1 : g 1 = x1
  have HF := Lib.hid (show ok = true → (a1 = (nmV ((bodyB l).drop 1) : Int) ∧ a2 = (nmV ((bodyB l).drop 2) : Int) ∧ a3 = (nmV ((bodyB l).drop 3) : Int) ∧ a4 = (nmV ((bodyB l).drop 4) : Int) ∧ a5 = (nmV ((bodyB l).drop 5) : Int) ∧ a6 = (nmV ((bodyB l).drop 6) : Int) ∧ a7 = (nmV ((bodyB l).drop 7) : Int) ∧ a8 = (nmV ((bodyB l).drop 8) : Int)) ∧ x0 = (rrF (bodyB l)).1.getD 0 ByteArray.empty ∧ x1 = (rrF (bodyB l)).1.getD 1 ByteArray.empty from fun hh => by
    have h := HOK.out hh
    refine ⟨⟨?_, ?_, ?_, ?_, ?_, ?_, ?_, ?_⟩, hg0.symm.trans h.2.1, hg1.symm.trans h.2.2⟩
    · exact hf1.symm.trans (h.1 1 (by omega) (by omega))
    · exact hf2.symm.trans (h.1 2 (by omega) (by omega))
    · exact hf3.symm.trans (h.1 3 (by omega) (by omega))
    · exact hf4.symm.trans (h.1 4 (by omega) (by omega))
    · exact hf5.symm.trans (h.1 5 (by omega) (by omega))
    · exact hf6.symm.trans (h.1 6 (by omega) (by omega))
    · exact hf7.symm.trans (h.1 7 (by omega) (by omega))
    · exact hf8.symm.trans (h.1 8 (by omega) (by omega)))
  clear hf1 hf2 hf3 hf4 hf5 hf6 hf7 hf8 hg0 hg1 hok HOK
  have HX2 := Lib.hid ((HX1.out.ext E2).alloc (.cells #[.int .i64 a1, .int .i64 a2, .int .i64 a3, .int .i64 a4, .int .i64 a5, .int .i64 a6, .int .i64 a7, .int .i64 a8, .string x0, .string x1] 57))
  have HP := Lib.hid (Blk.new w2 57 [.int .i64 a1, .int .i64 a2, .int .i64 a3, .int .i64 a4, .int .i64 a5, .int .i64 a6, .int .i64 a7, .int .i64 a8, .string x0, .string x1])
  have HE2 := Lib.hid ((HE1.out.trans E2).alloc (.cells #[.int .i64 a1, .int .i64 a2, .int .i64 a3, .int .i64 a4, .int .i64 a5, .int .i64 a6, .int .i64 a7, .int .i64 a8, .string x0, .string x1] 57))
  clear E2 hcv1 HCV HR
  have c0 : (w2.alloc (.cells #[.int .i64 a1, .int .i64 a2, .int .i64 a3, .int .i64 a4, .int .i64 a5, .int .i64 a6, .int .i64 a7, .int .i64 a8, .string x0, .string x1] 57)).cell? ⟨w.heap.size, 0, none⟩ = some (.int .i64 0) := HX2.out.cell (i := 0) (by simp)
  have c1 : (w2.alloc (.cells #[.int .i64 a1, .int .i64 a2, .int .i64 a3, .int .i64 a4, .int .i64 a5, .int .i64 a6, .int .i64 a7, .int .i64 a8, .string x0, .string x1] 57)).cell? ⟨w.heap.size, 1, none⟩ = some (.int .i64 0) := HX2.out.cell (i := 1) (by simp)
  have c2 : (w2.alloc (.cells #[.int .i64 a1, .int .i64 a2, .int .i64 a3, .int .i64 a4, .int .i64 a5, .int .i64 a6, .int .i64 a7, .int .i64 a8, .string x0, .string x1] 57)).cell? ⟨w.heap.size, 2, none⟩ = some (.int .i64 0) := HX2.out.cell (i := 2) (by simp)
  have c3 : (w2.alloc (.cells #[.int .i64 a1, .int .i64 a2, .int .i64 a3, .int .i64 a4, .int .i64 a5, .int .i64 a6, .int .i64 a7, .int .i64 a8, .string x0, .string x1] 57)).cell? ⟨w.heap.size, 3, none⟩ = some (.int .i64 0) := HX2.out.cell (i := 3) (by simp)
  have c4 : (w2.alloc (.cells #[.int .i64 a1, .int .i64 a2, .int .i64 a3, .int .i64 a4, .int .i64 a5, .int .i64 a6, .int .i64 a7, .int .i64 a8, .string x0, .string x1] 57)).cell? ⟨w.heap.size, 4, none⟩ = some (.int .i64 0) := HX2.out.cell (i := 4) (by simp)
  have c5 : (w2.alloc (.cells #[.int .i64 a1, .int .i64 a2, .int .i64 a3, .int .i64 a4, .int .i64 a5, .int .i64 a6, .int .i64 a7, .int .i64 a8, .string x0, .string x1] 57)).cell? ⟨w.heap.size, 5, none⟩ = some (.int .i64 0) := HX2.out.cell (i := 5) (by simp)
  have c6 : (w2.alloc (.cells #[.int .i64 a1, .int .i64 a2, .int .i64 a3, .int .i64 a4, .int .i64 a5, .int .i64 a6, .int .i64 a7, .int .i64 a8, .string x0, .string x1] 57)).cell? ⟨w.heap.size, 6, none⟩ = some (.int .i64 0) := HX2.out.cell (i := 6) (by simp)
  have c7 : (w2.alloc (.cells #[.int .i64 a1, .int .i64 a2, .int .i64 a3, .int .i64 a4, .int .i64 a5, .int .i64 a6, .int .i64 a7, .int .i64 a8, .string x0, .string x1] 57)).cell? ⟨w.heap.size, 7, none⟩ = some (.int .i64 0) := HX2.out.cell (i := 7) (by simp)
  have c8 : (w2.alloc (.cells #[.int .i64 a1, .int .i64 a2, .int .i64 a3, .int .i64 a4, .int .i64 a5, .int .i64 a6, .int .i64 a7, .int .i64 a8, .string x0, .string x1] 57)).cell? ⟨w.heap.size, 8, none⟩ = some (.string ByteArray.empty) := HX2.out.cell (i := 8) (by simp)
  have c9 : (w2.alloc (.cells #[.int .i64 a1, .int .i64 a2, .int .i64 a3, .int .i64 a4, .int .i64 a5, .int .i64 a6, .int .i64 a7, .int .i64 a8, .string x0, .string x1] 57)).cell? ⟨w.heap.size, 9, none⟩ = some (.string ByteArray.empty) := HX2.out.cell (i := 9) (by simp)
  have f0 := HX2.out.frozen 0
  have f1 := HX2.out.frozen 1
  have f2 := HX2.out.frozen 2
  have f3 := HX2.out.frozen 3
  have f4 := HX2.out.frozen 4
  have f5 := HX2.out.frozen 5
  have f6 := HX2.out.frozen 6
  have f7 := HX2.out.frozen 7
  have f8 := HX2.out.frozen 8
  have f9 := HX2.out.frozen 9
  have p0 : (w2.alloc (.cells #[.int .i64 a1, .int .i64 a2, .int .i64 a3, .int .i64 a4, .int .i64 a5, .int .i64 a6, .int .i64 a7, .int .i64 a8, .string x0, .string x1] 57)).cell? ⟨w2.heap.size, 0, none⟩ = some (.int .i64 a1) := HP.out.cell (i := 0) (by simp)
  have p1 : (w2.alloc (.cells #[.int .i64 a1, .int .i64 a2, .int .i64 a3, .int .i64 a4, .int .i64 a5, .int .i64 a6, .int .i64 a7, .int .i64 a8, .string x0, .string x1] 57)).cell? ⟨w2.heap.size, 1, none⟩ = some (.int .i64 a2) := HP.out.cell (i := 1) (by simp)
  have p2 : (w2.alloc (.cells #[.int .i64 a1, .int .i64 a2, .int .i64 a3, .int .i64 a4, .int .i64 a5, .int .i64 a6, .int .i64 a7, .int .i64 a8, .string x0, .string x1] 57)).cell? ⟨w2.heap.size, 2, none⟩ = some (.int .i64 a3) := HP.out.cell (i := 2) (by simp)
  have p3 : (w2.alloc (.cells #[.int .i64 a1, .int .i64 a2, .int .i64 a3, .int .i64 a4, .int .i64 a5, .int .i64 a6, .int .i64 a7, .int .i64 a8, .string x0, .string x1] 57)).cell? ⟨w2.heap.size, 3, none⟩ = some (.int .i64 a4) := HP.out.cell (i := 3) (by simp)
  have p4 : (w2.alloc (.cells #[.int .i64 a1, .int .i64 a2, .int .i64 a3, .int .i64 a4, .int .i64 a5, .int .i64 a6, .int .i64 a7, .int .i64 a8, .string x0, .string x1] 57)).cell? ⟨w2.heap.size, 4, none⟩ = some (.int .i64 a5) := HP.out.cell (i := 4) (by simp)
  have p5 : (w2.alloc (.cells #[.int .i64 a1, .int .i64 a2, .int .i64 a3, .int .i64 a4, .int .i64 a5, .int .i64 a6, .int .i64 a7, .int .i64 a8, .string x0, .string x1] 57)).cell? ⟨w2.heap.size, 5, none⟩ = some (.int .i64 a6) := HP.out.cell (i := 5) (by simp)
  have p6 : (w2.alloc (.cells #[.int .i64 a1, .int .i64 a2, .int .i64 a3, .int .i64 a4, .int .i64 a5, .int .i64 a6, .int .i64 a7, .int .i64 a8, .string x0, .string x1] 57)).cell? ⟨w2.heap.size, 6, none⟩ = some (.int .i64 a7) := HP.out.cell (i := 6) (by simp)
  have p7 : (w2.alloc (.cells #[.int .i64 a1, .int .i64 a2, .int .i64 a3, .int .i64 a4, .int .i64 a5, .int .i64 a6, .int .i64 a7, .int .i64 a8, .string x0, .string x1] 57)).cell? ⟨w2.heap.size, 7, none⟩ = some (.int .i64 a8) := HP.out.cell (i := 7) (by simp)
  have p8 : (w2.alloc (.cells #[.int .i64 a1, .int .i64 a2, .int .i64 a3, .int .i64 a4, .int .i64 a5, .int .i64 a6, .int .i64 a7, .int .i64 a8, .string x0, .string x1] 57)).cell? ⟨w2.heap.size, 8, none⟩ = some (.string x0) := HP.out.cell (i := 8) (by simp)
  have p9 : (w2.alloc (.cells #[.int .i64 a1, .int .i64 a2, .int .i64 a3, .int .i64 a4, .int .i64 a5, .int .i64 a6, .int .i64 a7, .int .i64 a8, .string x0, .string x1] 57)).cell? ⟨w2.heap.size, 9, none⟩ = some (.string x1) := HP.out.cell (i := 9) (by simp)
  cases ok with
  | false =>
    go_wp2_with fail
    refine bodyPost_ret (v := .tuple #[.agg #[.int .i64 0, .int .i64 0, .int .i64 0, .int .i64 0, .int .i64 0, .int .i64 0, .int .i64 0, .int .i64 0, .string ByteArray.empty, .string ByteArray.empty], .int .i64 3]) (by simp [results, Try.results49, go_sem, c0, c1, c2, c3, c4, c5, c6, c7, c8, c9]; try rfl) rfl ?_
    have hv := HVF.out (by simp)
    exact .none hv.1 hv.2 (((((((((((HE2.out.set (Nat.le_refl _) _).set (Nat.le_refl _) _).set (Nat.le_refl _) _).set (Nat.le_refl _) _).set (Nat.le_refl _) _).set (Nat.le_refl _) _).set (Nat.le_refl _) _).set (Nat.le_refl _) _).set (Nat.le_refl _) _).set (Nat.le_refl _) _))
  | true =>
    go_wp2_with fail
    refine bodyPost_ret (v := .tuple #[.agg #[.int .i64 a1, .int .i64 a2, .int .i64 a3, .int .i64 a4, .int .i64 a5, .int .i64 a6, .int .i64 a7, .int .i64 a8, .string x0, .string x1], .int .i64 0]) (by simp [results, Try.results49, go_sem, c0, c1, c2, c3, c4, c5, c6, c7, c8, c9]; try rfl) rfl ?_
    have hv := HVG.out (by simp)
    have ho := HF.out (by simp)
    rw [ho.1.1, ho.1.2.1, ho.1.2.2.1, ho.1.2.2.2.1, ho.1.2.2.2.2.1, ho.1.2.2.2.2.2.1, ho.1.2.2.2.2.2.2.1, ho.1.2.2.2.2.2.2.2, ho.2.1, ho.2.2]
    refine .some hv.1 hv.2 ?_
    rw [← ho.1.1, ← ho.1.2.1, ← ho.1.2.2.1, ← ho.1.2.2.2.1, ← ho.1.2.2.2.2.1, ← ho.1.2.2.2.2.2.1, ← ho.1.2.2.2.2.2.2.1, ← ho.1.2.2.2.2.2.2.2, ← ho.2.1, ← ho.2.2]
    exact (((((((((((HE2.out.set (Nat.le_refl _) _).set (Nat.le_refl _) _).set (Nat.le_refl _) _).set (Nat.le_refl _) _).set (Nat.le_refl _) _).set (Nat.le_refl _) _).set (Nat.le_refl _) _).set (Nat.le_refl _) _).set (Nat.le_refl _) _).set (Nat.le_refl _) _))
end Go.Proofs.Yteaefjicpefgnaa
