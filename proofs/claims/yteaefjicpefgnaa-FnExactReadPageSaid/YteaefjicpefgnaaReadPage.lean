/- The walks of ReadPage. -/
import Derived.Test.YteaefjicpefgnaaReadFields2
import Derived.Test.YteaefjicpefgnaaPage
import Derived.Test.YteaefjicpefgnaaPageB
import Derived.Outline
namespace Go.Proofs.Yteaefjicpefgnaa
open Go.RowKit Go.Deep
set_option linter.unusedVariables false
set_option maxRecDepth 100000
/-- what is read behind the head -/
def pgF (d : List UInt8) : List ByteArray × List UInt8 × Bool := fld (nmV (tkR d 4)) (tkR d 4).tail (tkF d 4 false || (tkR d 4).isEmpty) []
def pgK (d : List UInt8) : Nat := bigN ((tkO d 4).drop 2)
/-- whether bytes are a page's -/
def pgOK (no : Int) (d : List UInt8) : Bool := (!(pgF d).2.2 && (pgF d).2.1.isEmpty) && decide (((tkO d 4).getD 0 0).toNat = 112) && decide ((((tkO d 4).getD 1 0).toNat : Int) = no) && pageB (pgK d : Nat) (pgF d).1
/-- what ReadPage answers -/
def rpOK (no : Int) (l : List UInt8) : Bool := decide (l.length ≤ 65536) && sealB? l && pgOK no (bodyB l)
def rpK (no : Int) (l : List UInt8) : Int := if rpOK no l then (pgK (bodyB l) : Nat) else 0
def rpL (no : Int) (l : List UInt8) : List ByteArray := if rpOK no l then (pgF (bodyB l)).1 else []
def rpC (no : Int) (l : List UInt8) : Int := if 65536 < l.length then 2 else if sealB? l = false then 8 else if pgOK no (bodyB l) then 0 else 3
theorem rp_no {no : Int} {l : List UInt8} (h : rpOK no l = false) : rpK no l = 0 ∧ rpL no l = [] := by unfold rpK rpL; rw [h]; exact ⟨rfl, rfl⟩
theorem rp_long {no : Int} {l : List UInt8} (h : 65536 < l.length) : rpC no l = 2 ∧ rpK no l = 0 ∧ rpL no l = [] := by
  refine ⟨by unfold rpC; rw [if_pos h], rp_no (by unfold rpOK; rw [decide_eq_false (by omega)]; rfl)⟩
theorem rp_sum {no : Int} {l : List UInt8} (h : ¬ 65536 < l.length) (hs : sealB? l = false) : rpC no l = 8 ∧ rpK no l = 0 ∧ rpL no l = [] := by
  refine ⟨by unfold rpC; rw [if_neg h, if_pos hs], rp_no (by unfold rpOK; rw [hs]; simp)⟩
theorem rp_form {no : Int} {l : List UInt8} (h : ¬ 65536 < l.length) (hs : sealB? l = true) (ho : pgOK no (bodyB l) = false) : rpC no l = 3 ∧ rpK no l = 0 ∧ rpL no l = [] := by
  refine ⟨by unfold rpC; rw [if_neg h, if_neg (by rw [hs]; decide), ho]; rfl, rp_no (by unfold rpOK; rw [ho]; simp)⟩
theorem rp_good {no : Int} {l : List UInt8} (h : ¬ 65536 < l.length) (hs : sealB? l = true) (ho : pgOK no (bodyB l) = true) : rpC no l = 0 ∧ rpK no l = (pgK (bodyB l) : Nat) ∧ rpL no l = (pgF (bodyB l)).1 := by
  have : rpOK no l = true := by unfold rpOK; rw [hs, ho, decide_eq_true (by omega)]; rfl
  unfold rpC rpK rpL
  rw [if_neg h, if_neg (by rw [hs]; decide), ho, this]; exact ⟨rfl, rfl, rfl⟩
/-- a page that is handed back with a code -/
def PgPost (w : World) (T : TypeId) (K C : Int) (L : List ByteArray) (e : Ending) (w' : World) : Prop :=
  ∃ v, e = .returned (.tuple #[.agg #[.int .i64 K, v], .int .i64 C]) ∧ w'.ownsRow w.heap.size T 1 v L.length (L.map fun c => Value.string c) ∧ Ext w w'
theorem PgPost.none {w w' : World} {T : TypeId} {K C C' : Int} {L : List ByteArray} (h : C = C' ∧ K = 0 ∧ L = []) (E : Ext w w') : PgPost w T K C L (.returned (.tuple #[.agg #[.int .i64 0, .slice none 0 0], .int .i64 C'])) w' := by
  obtain ⟨rfl, rfl, rfl⟩ := h; exact ⟨_, rfl, own_texts_nil, E⟩
theorem fld_small (k : Nat) : ∀ (l : List UInt8) (f : Bool) (acc : List ByteArray), (∀ s ∈ acc, s.size ≤ 255) → ∀ s ∈ (fld k l f acc).1, s.size ≤ 255 := by
  induction k with
  | zero => intro l f acc h; exact h
  | succ k ih =>
    intro l f acc h
    unfold fld
    refine ih _ _ _ fun s hs => ?_
    rcases List.mem_append.1 hs with hs | hs
    · exact h s hs
    · rw [List.mem_singleton] at hs
      subst hs
      show (tkO l.tail (nmV l)).toArray.size ≤ 255
      have := nmV_lt l
      simp [tkO_len]; omega
theorem pgF_small (d : List UInt8) : (pgF d).1.length < 256 ∧ ∀ s ∈ (pgF d).1, s.size ≤ 255 := by
  refine ⟨?_, fld_small _ _ _ _ (by simp)⟩
  unfold pgF
  rw [fld_len]
  have := nmV_lt (tkR d 4)
  simpa using this
theorem own_set {w : World} {B n b i size : Nat} {e : TypeId} {v u : Value} {xs : List Value} (h : w.ownsRow B e size v n xs) (hb : b < B) : (w.setCell ⟨b, i, none⟩ u).ownsRow B e size v n xs :=
  own_far h grown_one (by intro e; have := own_blk h _ e; omega)
set_option maxHeartbeats 2000000 in
theorem impl_ReadPage (no : Int) (A : Option Addr) (n cp : Nat) (l : List UInt8) (w : World) (hl : l.length = n) (hn : n ≤ 1099511627776) (hc : n ≤ cp) (hm : cp ≤ maxLen) (hr : Rd w A (l.map fun c => Value.int .u8 (c.toNat : Int))) :
    Calls Try.prog 41 #[.int .i64 no, .slice A n cp] w (PgPost w 9 (rpK no l) (rpC no l) (rpL no l)) := by
  have E0 : Ext w (w.alloc (.cells #[.int .i64 0, .slice none 0 0] 45)) := (by repeat (first | exact Ext.refl _ | assumption | refine Ext.alloc ?_ _ | refine Ext.drewN ?_ _ | refine Ext.drew ?_ | refine Ext.set ?_ (by dsimp only; omega) _ | refine Ext.trans ?_ (by assumption)))
  have hX := Blk.new w 45 [.int .i64 0, .slice none 0 0]
  by_cases h1 : 65536 < n
  · have HV := Lib.hid (rp_long (no := no) (l := l) (by omega))
    have h1I : (65536 : Int) < (n : Int) := by omega
    clear hl hr
    go_enter Try.func41, Try.ntmps41
    go_wp2_with fail
    refine bodyPost_ret (v := .tuple #[.agg #[.int .i64 0, .slice none 0 0], .int .i64 2]) (by simp [results, Try.results41, go_sem]) rfl ?_
    exact .none HV.out (by repeat (first | exact Ext.refl _ | assumption | refine Ext.alloc ?_ _ | refine Ext.drewN ?_ _ | refine Ext.drew ?_ | refine Ext.set ?_ (by dsimp only; omega) _ | refine Ext.trans ?_ (by assumption)))
  have h1I : ¬ (65536 : Int) < (n : Int) := by omega
  have h1' : ¬ 65536 < l.length := by omega
  by_cases h4 : n < 4
  · have HV := Lib.hid (rp_sum (no := no) h1' (by unfold sealB?; rw [decide_eq_false (by omega)]; rfl))
    have HU := Lib.hid (fun W => impl_unsealed_short A n cp W h4)
    clear hl h4 hr h1'
    go_enter Try.func41, Try.ntmps41
    go_wp2_with fail
    refine (HU.out _).mono ?_
    rintro e w1 ⟨rfl, E1⟩
    obtain ⟨c0, c1⟩ := (hX.ext E1).cells2
    have f0 := (hX.ext E1).frozen 0
    have f1 := (hX.ext E1).frozen 1
    go_wp2_with fail
    refine bodyPost_ret (v := .tuple #[.agg #[.int .i64 0, .slice none 0 0], .int .i64 8]) (by simp [results, Try.results41, go_sem, c0, c1]) rfl ?_
    exact .none HV.out (((E0.trans E1).set (Nat.le_refl _) _).set (Nat.le_refl _) _)
  have hm' : (0 : Nat) < (l.map fun c => Value.int .u8 (c.toNat : Int)).length := by simp; omega
  obtain ⟨b, o, rfl, hx⟩ := hr (by intro e; rw [e] at hm'; simp at hm')
  have HU := Lib.hid (impl_unsealed b o n cp l _ hl (by omega) hn hc hm (hr.ext E0))
  rcases hs : sealB? l with _ | _
  · have HV := Lib.hid (rp_sum (no := no) h1' hs)
    have HS := Lib.hid hs
    clear hl h4 hr h1' hm' hx hs
    go_enter Try.func41, Try.ntmps41
    go_wp2_with fail
    refine (HU.out).mono ?_
    rintro e w1 ⟨rfl, E1⟩
    rw [HS.out, if_neg (by decide)]
    obtain ⟨c0, c1⟩ := (hX.ext E1).cells2
    have f0 := (hX.ext E1).frozen 0
    have f1 := (hX.ext E1).frozen 1
    go_wp2_with fail
    refine bodyPost_ret (v := .tuple #[.agg #[.int .i64 0, .slice none 0 0], .int .i64 8]) (by simp [results, Try.results41, go_sem, c0, c1]) rfl ?_
    exact .none HV.out (((E0.trans E1).set (Nat.le_refl _) _).set (Nat.le_refl _) _)
  have HS := Lib.hid hs
  have hbl : (bodyB l).length = n - 4 := by unfold bodyB; rw [List.length_take, hl]; omega
  have hbr : Rd w (some ⟨b, o, none⟩) ((bodyB l).map fun c => Value.int .u8 (c.toNat : Int)) := by unfold bodyB; rw [List.map_take]; exact rd_take hr _
  have hblt : b < w.heap.size := by
    cases l with
    | nil => simp at hm'
    | cons c r => exact lt_of_cell (hx 0 _ rfl)
  have HVF := Lib.hid (rp_form (no := no) h1' hs)
  have HVG := Lib.hid (rp_good (no := no) h1' hs)
  generalize bodyB l = d at hbl hbr HVF HVG
  have HBR := Lib.hid hbr
  have HBL := Lib.hid hbl
  clear hl h4 hr h1' hm' hx hs hbr hbl
  go_enter Try.func41, Try.ntmps41
  go_wp2_with fail
  refine (HU.out).mono ?_
  rintro e w1 ⟨rfl, E1⟩
  rw [HS.out, if_pos rfl]
  have HE1 := Lib.hid (E0.trans E1)
  have HX1 := Lib.hid (hX.ext E1)
  clear E0 E1 HU hX
  have hle1 := HE1.out.le
  have hR : Rdr (w1.alloc (.cells #[.slice (some ⟨b, o, none⟩) (n - 4) cp, .bool false] 85)) w1.heap.size 85 w.heap.size d false :=
    ⟨_, _, _, Blk.new w1 _ [.slice (some ⟨b, o, none⟩) (n - 4) cp, .bool false], HBL.out, by omega, hm, (HBR.out.ext HE1.out).ext (by repeat (first | exact Ext.refl _ | assumption | refine Ext.alloc ?_ _ | refine Ext.drewN ?_ _ | refine Ext.drew ?_ | refine Ext.set ?_ (by dsimp only; omega) _ | refine Ext.trans ?_ (by assumption))), fun _ a ha => by injection ha with ha; subst ha; exact hblt⟩
  have HT := Lib.hid (rdr_take w1.heap.size 4 w.heap.size false d _ hR (by omega))
  have HE2 := Lib.hid (show Ext w1 (w1.alloc (.cells #[.slice (some ⟨b, o, none⟩) (n - 4) cp, .bool false] 85)) from (by repeat (first | exact Ext.refl _ | assumption | refine Ext.alloc ?_ _ | refine Ext.drewN ?_ _ | refine Ext.drew ?_ | refine Ext.set ?_ (by dsimp only; omega) _ | refine Ext.trans ?_ (by assumption))))
  clear hR
  go_wp2_with fail
  refine (HT.out).mono ?_
  rintro e w3 ⟨v3, rfl, S3, R3, G3⟩
  have HE3 := Lib.hid (HE2.out.grownBy G3 (Nat.le_refl _))
  obtain ⟨A3, cap3, rfl, hc3, hm3, hr3⟩ := S3
  have hl3 : (tkO d 4).length = 4 := tkO_len d 4
  obtain ⟨b3, o3, rfl, hx3⟩ := hr3 (by intro e; have := congrArg List.length e; simp [hl3] at this)
  rw [hl3] at hc3
  have HR3 := Lib.hid R3
  have HR3' := Lib.hid R3
  have HH3 := Lib.hid hr3
  have hq1 : (2 : Int) ≤ ((tkO d 4).length : Int) := by omega
  have hq2 : ((tkO d 4).length : Int) = 4 := by omega
  have hq3 : (2 : Int) ≤ (cap3 : Int) := by omega
  have hq4 : ¬ cap3 = 2 := by omega
  have hq5 : (4 : Int) ≤ (cap3 : Int) := by omega
  have HL3 := Lib.hid hl3
  clear hx3 hr3 R3 G3 HT HE2 hm3
  rw [HL3.out]
  clear hq1 hq2 hl3
  go_wp2_with fail
  have HB := Lib.hid (impl_big (some ⟨b3, o3 + 2, none⟩) 2 (cap3 - 2) ((tkO d 4).drop 2) w3 (by rw [List.length_drop, HL3.out]) (by omega) (by rw [List.map_drop]; exact rd_drop HH3.out 2))
  refine HB.out.mono ?_
  rintro e w3' ⟨rfl, rfl⟩
  have HF := Lib.hid (rdr_fields w1.heap.size w.heap.size (tkF d 4 false) (tkR d 4) w3 HR3.out (by have := HE3.out.le; omega))
  clear HB hc3
  go_wp2_with fail
  refine HF.out.mono ?_
  rintro e w4 ⟨v4, rfl, O4, R4, G4⟩
  have HE4 := Lib.hid (HE3.out.grownBy G4 (Nat.le_refl _))
  have HH4 := Lib.hid (show Rd w4 (some ⟨b3, o3, none⟩) ((tkO d 4).map fun c => Value.int .u8 (c.toNat : Int)) by
    obtain ⟨A9, n9, c9, B9, _⟩ := HR3.out
    exact rd_stays HH3.out B9 bytes_not G4)
  have hFe : fld (nmV (tkR d 4)) (tkR d 4).tail (tkF d 4 false || (tkR d 4).isEmpty) [] = pgF d := rfl
  have hKe : bigN ((tkO d 4).drop 2) = pgK d := rfl
  have hNe : nmV (tkR d 4) = (pgF d).1.length := by
    have := fld_len (nmV (tkR d 4)) (tkR d 4).tail (tkF d 4 false || (tkR d 4).isEmpty) []
    rw [hFe] at this; simpa using this.symm
  rw [hFe, hNe] at O4
  rw [hFe] at R4
  have HK := Lib.hid hKe
  rw [HK.out]
  have HO4 := Lib.hid O4
  have HR4 := Lib.hid R4
  obtain ⟨A4, cap4, rfl⟩ := own_slice O4
  clear O4 R4 G4 HF hFe hKe hNe HR3 HH3 HE3
  have hokd : pgOK no d = ((!(pgF d).2.2 && (pgF d).2.1.isEmpty) && decide (((tkO d 4).getD 0 0).toNat = 112) && decide ((((tkO d 4).getD 1 0).toNat : Int) = no) && pageB (pgK d : Nat) (pgF d).1) := rfl
  have HOK := Lib.hid hokd
  clear hokd
  have hsm := pgF_small d
  have hB3 : w.heap.size < w3.heap.size := by have h1 := HX1.out.lt; have h2 := HR3'.out.lt; omega
  generalize pgF d = F at HO4 HR4 HOK HVG hsm ⊢
  have hsm1 := hsm.1
  have HSM := Lib.hid hsm.2
  clear hsm
  generalize pgK d = K at HOK HVG ⊢
  obtain ⟨x, y, r, hxy⟩ : ∃ x y r, tkO d 4 = x :: y :: r := by
    have := HL3.out
    match h : tkO d 4 with
    | x :: y :: r => exact ⟨x, y, r, rfl⟩
    | [] => rw [h] at this; simp at this
    | [_] => rw [h] at this; simp at this
  rw [hxy] at HOK HH4
  clear hxy HL3
  have HX4 := Lib.hid (Blk.new w4 45 [.int .i64 (K : Int), .slice A4 F.1.length cap4])
  have HE5 := Lib.hid (show Ext w4 (w4.alloc (.cells #[.int .i64 (K : Int), .slice A4 F.1.length cap4] 45)) from (by repeat (first | exact Ext.refl _ | assumption | refine Ext.alloc ?_ _ | refine Ext.drewN ?_ _ | refine Ext.drew ?_ | refine Ext.set ?_ (by dsimp only; omega) _ | refine Ext.trans ?_ (by assumption))))
  have HD := Lib.hid (rd_isDone w1.heap.size w.heap.size F.2.2 F.2.1 _ (HR4.out.ext HE5.out))
  have HXR := Lib.hid (HX1.out.ext (HE4.out.trans HE5.out))
  have hlt4 := HX1.out.lt
  have hle4 := HE4.out.le
  clear HX1
  go_wp2_with fail
  have HH5 := Lib.hid (HH4.out.ext HE5.out)
  have HO5 := Lib.hid (own_ext HO4.out HE5.out)
  generalize hg : w4.alloc (.cells #[.int .i64 (K : Int), .slice A4 F.1.length cap4] 45) = w5 at HX4 HE5 HD HXR HH5 HO5 ⊢
  clear hg HO4 HH4 HR4
  obtain ⟨c0, c1⟩ := HXR.out.cells2
  obtain ⟨p0, p1⟩ := HX4.out.cells2
  have f0 := HXR.out.frozen 0
  have f1 := HXR.out.frozen 1
  obtain ⟨b', o', e', hcx⟩ := HH5.out (by simp)
  injection e' with e'
  injection e' with e1 e2 _
  subst e1; subst e2
  have k0 : w5.cell? ⟨b3, o3, none⟩ = some (.int .u8 (x.toNat : Int)) := hcx 0 _ rfl
  have k1 : w5.cell? ⟨b3, o3 + 1, none⟩ = some (.int .u8 (y.toNat : Int)) := hcx 1 _ rfl
  have HEW := Lib.hid (HE1.out.trans (HE4.out.trans HE5.out))
  have hx8 := x.toNat_lt
  have hy8 := y.toNat_lt
  clear hcx HE1 HE4 HE5 HH5
  rcases hd : (!F.2.2 && F.2.1.isEmpty) with _ | _
  · have HV := Lib.hid (HVF.out (by rw [HOK.out, hd]; rfl))
    have HD2 := Lib.hid hd
    clear hd
    refine HD.out.mono ?_
    rintro e w6 ⟨rfl, rfl⟩
    rw [HD2.out]
    go_wp2_with fail
    refine bodyPost_ret (v := .tuple #[.agg #[.int .i64 0, .slice none 0 0], .int .i64 3]) (by simp [results, Try.results41, go_sem, c0, c1]) rfl ?_
    exact .none HV.out ((HEW.out.set (Nat.le_refl _) _).set (Nat.le_refl _) _)
  have HD2 := Lib.hid hd
  by_cases hxx : x.toNat = 112
  · have hxI : ((x.toNat : Int) != 112) = false := by rw [hxx]; rfl
    by_cases hyy : (y.toNat : Int) = no
    · have hyI : ((y.toNat : Int) != no) = false := by rw [hyy]; simp
      have HP := Lib.hid (impl_PageOK (K : Int) A4 F.1.length cap4 F.1 w5 rfl (by omega) (fun s hs => by have := HSM.out s hs; unfold maxLen; omega) (own_rd' HO5.out).2)
      rcases hpb : pageB (K : Int) F.1 with _ | _
      · have HV := Lib.hid (HVF.out (by rw [HOK.out, hpb]; simp))
        have HPB := Lib.hid hpb
        clear hd hpb hxx hyy
        refine HD.out.mono ?_
        rintro e w6 ⟨rfl, rfl⟩
        rw [HD2.out]
        go_wp2_with fail
        refine HP.out.mono ?_
        rintro e w7 ⟨rfl, E7⟩
        rw [HPB.out]
        clear c0 c1 f0 f1 p0 p1 k0 k1
        obtain ⟨c0, c1⟩ := (HXR.out.ext E7).cells2
        have f0 := (HXR.out.ext E7).frozen 0
        have f1 := (HXR.out.ext E7).frozen 1
        go_wp2_with fail
        refine bodyPost_ret (v := .tuple #[.agg #[.int .i64 0, .slice none 0 0], .int .i64 3]) (by simp [results, Try.results41, go_sem, c0, c1]) rfl ?_
        exact .none HV.out (((HEW.out.trans E7).set (Nat.le_refl _) _).set (Nat.le_refl _) _)
      · have HV := Lib.hid (HVG.out (by rw [HOK.out, hpb, hd, decide_eq_true (show ((x :: y :: r).getD 0 0).toNat = 112 from hxx), decide_eq_true (show (((x :: y :: r).getD 1 0).toNat : Int) = no from hyy)]; rfl))
        have HPB := Lib.hid hpb
        clear hd hpb hxx hyy
        refine HD.out.mono ?_
        rintro e w6 ⟨rfl, rfl⟩
        rw [HD2.out]
        go_wp2_with fail
        refine HP.out.mono ?_
        rintro e w7 ⟨rfl, E7⟩
        rw [HPB.out]
        clear c0 c1 f0 f1 p0 p1 k0 k1
        obtain ⟨c0, c1⟩ := (HXR.out.ext E7).cells2
        obtain ⟨p0, p1⟩ := (HX4.out.ext E7).cells2
        have f0 := (HXR.out.ext E7).frozen 0
        have f1 := (HXR.out.ext E7).frozen 1
        go_wp2_with fail
        refine bodyPost_ret (v := .tuple #[.agg #[.int .i64 (K : Int), .slice A4 F.1.length cap4], .int .i64 0]) (by simp [results, Try.results41, go_sem, c0, c1]) rfl ?_
        rw [HV.out.1, HV.out.2.1, HV.out.2.2]
        exact ⟨_, rfl, own_base (own_set (own_set (own_ext HO5.out E7) hB3) hB3) (by omega), ((HEW.out.trans E7).set (Nat.le_refl _) _).set (Nat.le_refl _) _⟩
    · have hyI : ((y.toNat : Int) != no) = true := by rw [bne_iff_ne]; exact hyy
      have HV := Lib.hid (HVF.out (by rw [HOK.out, decide_eq_false (show ¬ (((x :: y :: r).getD 1 0).toNat : Int) = no from hyy)]; simp))
      clear hd hxx hyy
      refine HD.out.mono ?_
      rintro e w6 ⟨rfl, rfl⟩
      rw [HD2.out]
      go_wp2_with fail
      refine bodyPost_ret (v := .tuple #[.agg #[.int .i64 0, .slice none 0 0], .int .i64 3]) (by simp [results, Try.results41, go_sem, c0, c1]) rfl ?_
      exact .none HV.out ((HEW.out.set (Nat.le_refl _) _).set (Nat.le_refl _) _)
  · have hxI : ((x.toNat : Int) != 112) = true := by rw [bne_iff_ne]; omega
    have HV := Lib.hid (HVF.out (by rw [HOK.out, decide_eq_false (show ¬ ((x :: y :: r).getD 0 0).toNat = 112 from hxx)]; simp))
    clear hd hxx
    refine HD.out.mono ?_
    rintro e w6 ⟨rfl, rfl⟩
    rw [HD2.out]
    go_wp2_with fail
    refine bodyPost_ret (v := .tuple #[.agg #[.int .i64 0, .slice none 0 0], .int .i64 3]) (by simp [results, Try.results41, go_sem, c0, c1]) rfl ?_
    exact .none HV.out ((HEW.out.set (Nat.le_refl _) _).set (Nat.le_refl _) _)
end Go.Proofs.Yteaefjicpefgnaa
