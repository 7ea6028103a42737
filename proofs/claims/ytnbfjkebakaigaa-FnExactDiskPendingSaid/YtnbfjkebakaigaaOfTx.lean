/- The walks of LocksOfTx (printed by gen_oftx.py). -/
import Derived.Test.YtnbfjkebakaigaaDelLock
import Derived.Test.YtnbfjkebakaigaaLocks2
import Derived.Test.YtnbfjkebakaigaaInts
import Derived.Test.YtnbfjkebakaigaaMarkB
import Derived.Lib.SliceRun
namespace Go.Proofs.Ytnbfjkebakaigaa
open Go.RowKit Go.Deep
set_option linter.unusedVariables false
set_option maxRecDepth 100000
theorem locksB_h {lh : List CLock} {lq : List CWait} (h : locksB lh lq = true) : lh.length ≤ 60 := by
  unfold locksB at h
  simp only [Bool.and_eq_true, decide_eq_true_eq] at h
  exact h.1.1.2
def notTx (tx : Int) (x : CLock) : Bool := x.a != tx
/-- what a transaction holds -/
def otL (lh : List CLock) (lq : List CWait) (tx : Int) : List CLock := if locksB lh lq && inB tx 1 60 then lh.filter fun x => !notTx tx x else []
def otC (lh : List CLock) (lq : List CWait) (tx : Int) : Int := if locksB lh lq = false then 1 else if inB tx 1 60 = false then 4 else 0
/-- locks and a code -/
def OtPost (w : World) (T : TypeId) (L : List CLock) (C : Int) (e : Ending) (w' : World) : Prop :=
  ∃ v, e = .returned (.tuple #[v, .int .i64 C]) ∧ w'.ownsRow w.heap.size T 4 v L.length (L.flatMap CLock.cs) ∧ Ext w w'
theorem OtPost.of {w w' : World} {T : TypeId} {L : List CLock} {C c : Int} {v : Value} (hc : C = c) (ho : w'.ownsRow w.heap.size T 4 v L.length (L.flatMap CLock.cs)) (E : Ext w w') : OtPost w T L C (.returned (.tuple #[v, .int .i64 c])) w' := by
  subst hc; exact ⟨v, rfl, ho, E⟩
attribute [irreducible] OtPost
/-- the row behind an owned slice that is not nil -/
theorem own_some {w : World} {B n size : Nat} {e : TypeId} {v : Value} {xs : List Value} (h : w.ownsRow B e size v n xs) (hv : v ≠ .slice none 0 0) :
    ∃ g cap cs, v = .slice (some ⟨g, 0, none⟩) n cap ∧ B ≤ g ∧ n ≤ cap ∧ cap ≤ maxLen ∧ Blk w g e (xs ++ cs) ∧ (xs ++ cs).length = cap * size := by
  obtain ⟨_, h⟩ := h
  rcases h with ⟨h0, _⟩ | ⟨g, cap, cur, hv, hb, hh, h1, h2, h3, h4⟩
  · exact absurd h0 hv
  · have e1 : xs ++ cur.toList.drop (n * size) = cur.toList := by rw [← h4, List.take_append_drop]
    exact ⟨g, cap, cur.toList.drop (n * size), hv, hb, h1, h2, by rw [e1]; simpa [Blk] using hh, by rw [e1]; simpa using h3⟩
theorem own_of {w : World} {B n size g cap : Nat} {e : TypeId} {xs cs : List Value} (hb : B ≤ g) (h1 : n ≤ cap) (h2 : cap ≤ maxLen) (hB : Blk w g e (xs ++ cs)) (h3 : (xs ++ cs).length = cap * size) (h4 : xs.length = n * size) :
    w.ownsRow B e size (.slice (some ⟨g, 0, none⟩) n cap) n xs :=
  ⟨h4, .inr ⟨g, cap, (xs ++ cs).toArray, rfl, hb, hB, h1, h2, by simpa using h3, by rw [List.take_left' h4]⟩⟩
theorem own_sliceL {w : World} {B n size : Nat} {e : TypeId} {v : Value} {xs : List Value} (h : w.ownsRow B e size v n xs) : ∃ A cap, v = .slice A n cap := by
  obtain ⟨_, h | ⟨g, cap, cur, h, _⟩⟩ := h
  · exact ⟨none, 0, by rw [h.1, h.2]⟩
  · exact ⟨_, _, h⟩
theorem call_ofTx1 (args : Array Value) (W : World) : (callFunc 116 args).run Try.prog W = .ok (.enter 116 args) W := by kernel_rfl
theorem impl_ofTx1 (x : CLock) (tx : Int) (c : Nat) (w : World) (hB : Blk w c 3 [.int .i64 tx]) :
    Calls Try.prog 116 #[.agg #[.int .i64 x.a, .int .i64 x.b, .int .i64 x.c, .int .i64 x.d], .pointer (some ⟨c, 0, none⟩)] w fun e w' => e = .returned (.bool (notTx tx x)) ∧ Ext w w' := by
  have HX := Lib.hid (Blk.new w 125 [.int .i64 x.a, .int .i64 x.b, .int .i64 x.c, .int .i64 x.d])
  have hc := (hB.alloc (.cells #[.int .i64 x.a, .int .i64 x.b, .int .i64 x.c, .int .i64 x.d] 125)).cells1
  have HF := Lib.hid (show notTx tx x = (x.a != tx) from rfl)
  clear hB
  go_enter Try.func116, Try.ntmps116
  go_wp2_with fail
  go_ret
  exact ⟨ret_bool HF.out.symm, (by repeat (first | exact Ext.refl _ | assumption | refine Ext.alloc ?_ _ | refine Ext.drewN ?_ _ | refine Ext.drew ?_ | refine Ext.set ?_ (by dsimp only; omega) _ | refine Ext.trans ?_ (by assumption)))⟩
set_option maxHeartbeats 1000000 in
theorem lib_cloneLock (b n cp : Nat) (l : List CLock) (w : World) (hl : l.length = n) (hn : n ≤ 1000) (hr : Rd w (some ⟨b, 0, none⟩) (l.flatMap CLock.cs)) :
    Calls Try.prog 115 #[.slice (some ⟨b, 0, none⟩) n cp] w fun e w' => ∃ v, e = .returned v ∧ v ≠ .slice none 0 0 ∧ w'.ownsRow w.heap.size 125 4 v n (l.flatMap CLock.cs) ∧ Ext w w' := by
  obtain ⟨i0, hi, hz0, hz1, hz2⟩ := info_parts info_Lock
  have hinit := World.ownsRow_lit (base := w.heap.size) (e := 125) (size := 4) w #[] 0 (Nat.le_refl _) (by unfold maxLen; omega) rfl
  have HR := Lib.hid (hr.ext ((Ext.refl w).alloc (.cells #[] 125)))
  have HLn := Lib.hid (show (l.flatMap CLock.cs).length = n * 4 by rw [flat_len CLock.len, hl])
  have H1 := Lib.hid (show ∀ u ∈ l.flatMap CLock.cs, u.oneCell' = true by
    intro u hu
    obtain ⟨x, _, hx⟩ := List.mem_flatMap.1 hu
    simp only [CLock.cs, List.mem_cons, List.not_mem_nil, or_false] at hx
    rcases hx with rfl | rfl | rfl | rfl <;> rfl)
  have hnn := fun W => Lib.run_eql_slice_nil (P := Try.prog) W 54 125 (some ⟨b, 0, none⟩) n cp 0 0 Try.underlying54
  simp only [Option.isNone_some] at hnn
  clear hr hl
  go_enter Try.func115, Try.ntmps115
  go_wp2_with (at_builtin; refine wpList_append_own _ rfl (.tmp 5) (.tmp 6) 54 rfl w.heap.size 125 i0 (.agg #[.int .i64 0, .int .i64 0, .int .i64 0, .int .i64 0]) 4 32 Try.underlying54 hi hz0 hz1 hz2 rfl (by decide) _ 0 _ rfl hinit ⟨b, 0, none⟩ n cp (l.flatMap CLock.cs) rfl HLn.out (rd_add HR.out) H1.out (by unfold maxLen; omega) (by omega) (by simp) ?_)
  intro v4 w4 ho4 hg4 hnil
  have HO4 := Lib.hid ho4
  have HE4 := Lib.hid (((Ext.refl w).alloc (.cells #[] 125)).grown hg4 (own_blk hinit))
  have HN := Lib.hid (show v4 ≠ .slice none 0 0 from hnil)
  obtain ⟨A4, cap4, rfl⟩ := own_sliceL ho4
  clear ho4 hg4 hnil hinit
  go_wp2_with fail
  go_ret
  exact ⟨_, rfl, HN.out, HO4.out, HE4.out⟩
set_option maxHeartbeats 4000000 in
theorem impl_LocksOfTx (bh nh ph : Nat) (Aq : Option Addr) (nq pq : Nat) (lh : List CLock) (lq : List CWait) (tx : Int) (w : World) (hlh : lh.length = nh) (hlq : lq.length = nq) (hph : nh ≤ ph) (hnh : nh ≤ 1099511627776) (hnq : nq ≤ 1099511627776)
    (hrh : Rd w (some ⟨bh, 0, none⟩) (lh.flatMap CLock.cs)) (hrq : Rd w Aq (lq.flatMap CWait.cs)) :
    Calls Try.prog 48 #[.agg #[.slice (some ⟨bh, 0, none⟩) nh ph, .slice Aq nq pq], .int .i64 tx] w (OtPost w 125 (otL lh lq tx) (otC lh lq tx)) := by
  have E0 : Ext w ((w.alloc (.cells #[.slice (some ⟨bh, 0, none⟩) nh ph, .slice Aq nq pq] 57)).alloc (.cells #[.int .i64 tx] 3)) := (by repeat (first | exact Ext.refl _ | assumption | refine Ext.alloc ?_ _ | refine Ext.drewN ?_ _ | refine Ext.drew ?_ | refine Ext.set ?_ (by dsimp only; omega) _ | refine Ext.trans ?_ (by assumption)))
  have hL := impl_LocksOK (some ⟨bh, 0, none⟩) nh ph Aq nq pq lh lq _ hlh hlq hph hnh hnq (hrh.ext E0) (hrq.ext E0)
  have hV : otL lh lq tx = if locksB lh lq && inB tx 1 60 then lh.filter fun x => !notTx tx x else [] := rfl
  have hC : otC lh lq tx = if locksB lh lq = false then 1 else if inB tx 1 60 = false then 4 else 0 := rfl
  generalize otL lh lq tx = rv at hV ⊢
  generalize otC lh lq tx = rc at hC ⊢
  have HX := Lib.hid ((Blk.new w 57 [.slice (some ⟨bh, 0, none⟩) nh ph, .slice Aq nq pq]).alloc (.cells #[.int .i64 tx] 3))
  have hY := Blk.new (w.alloc (.cells #[.slice (some ⟨bh, 0, none⟩) nh ph, .slice Aq nq pq] 57)) 3 [.int .i64 tx]
  rw [World.size_alloc] at hY
  have HY := Lib.hid hY
  clear hY
  have HR := Lib.hid (hrh.ext E0)
  have HR0 := Lib.hid hrh
  have HLh := Lib.hid hlh
  have HE0 := Lib.hid E0
  have HQ := Lib.hid (fun h => locksB_h (lh := lh) (lq := lq) h)
  generalize locksB lh lq = t1 at hL hV hC HQ
  have HL := Lib.hid hL
  clear hrh hrq hlh hlq E0 hL
  rcases t1 with _ | _
  · have HV := Lib.hid (show rv = [] by rw [hV]; rfl)
    have HC := Lib.hid (show rc = 1 by rw [hC]; rfl)
    clear hV hC
    go_enter Try.func48, Try.ntmps48
    go_wp2_with fail
    refine HL.out.mono ?_
    rintro e w1 ⟨rfl, E1⟩
    go_wp2_with fail
    go_ret2
    rw [HV.out]
    exact .of HC.out (World.ownsRow_nil _ _ _ _) (HE0.out.trans E1)
  have hq60 := HQ.out rfl
  rw [HLh.out] at hq60
  have HM := Lib.hid (fun W => impl_isTx tx W)
  generalize inB tx 1 60 = t2 at hV hC HM
  rcases t2 with _ | _
  · have HV := Lib.hid (show rv = [] by rw [hV]; rfl)
    have HC := Lib.hid (show rc = 4 by rw [hC]; rfl)
    clear hV hC
    go_enter Try.func48, Try.ntmps48
    go_wp2_with fail
    refine HL.out.mono ?_
    rintro e w1 ⟨rfl, E1⟩
    have y0 := (HY.out.ext E1).cells1
    go_wp2_with fail
    refine (HM.out _).mono ?_
    rintro e w2 ⟨rfl, rfl⟩
    go_wp2_with fail
    go_ret2
    rw [HV.out]
    exact .of HC.out (World.ownsRow_nil _ _ _ _) (HE0.out.trans E1)
  · have HV := Lib.hid (show rv = lh.filter fun x => !notTx tx x by rw [hV]; rfl)
    have HC := Lib.hid (show rc = 0 by rw [hC]; rfl)
    clear hV hC
    go_enter Try.func48, Try.ntmps48
    go_wp2_with fail
    refine HL.out.mono ?_
    rintro e w1 ⟨rfl, E1⟩
    have y0 := (HY.out.ext E1).cells1
    obtain ⟨x0, x1⟩ := (HX.out.ext E1).cells2
    go_wp2_with fail
    refine (HM.out _).mono ?_
    rintro e w2 ⟨rfl, rfl⟩
    go_wp2_with fail
    refine (lib_cloneLock bh nh ph lh _ HLh.out (by omega) (HR.out.ext E1)).mono ?_
    rintro e w3 ⟨v3, rfl, hnn, O3, E3⟩
    obtain ⟨g, cap, cs, rfl, hg, hc1, hc2, hB, hlen⟩ := own_some O3 hnn
    have HY3 := Lib.hid ((HY.out.ext E1).ext E3)
    have HE3 := Lib.hid (HE0.out.trans (E1.trans E3))
    have hyl := (HY.out.ext E1).lt
    have HDF := Lib.hid (delFunc_LockS 116 (.pointer (some ⟨w.heap.size + 1, 0, none⟩)) (notTx tx) call_ofTx1 g nh cap lh cs w3 (fun W => Blk W (w.heap.size + 1) 3 [.int .i64 tx]) (fun W W' h E => h.ext E) (fun W W' h G => h.grown G (by omega)) (fun x _ W h => impl_ofTx1 x tx _ W h) HY3.out HLh.out hnh hc1 hlen hB)
    unfold DelPost at HDF
    have hbg := HE0.out.le
    have hbg1 := E1.le
    clear O3 hB hlen y0 x0 x1 hnn
    go_wp2_with fail
    refine HDF.out.mono ?_
    rintro e w4 ⟨m, c, rfl, hfm, hmn, hB4, hl4, hg4⟩
    have HO4 := Lib.hid (own_of (B := w.heap.size) (n := m) (size := 4) (by omega) (Nat.le_trans hmn hc1) hc2 hB4 hl4 (by rw [flat_len CLock.len, hfm]))
    have HFM := Lib.hid hfm
    have HE4 := Lib.hid (HE3.out.grownBy hg4 (by omega))
    clear hB4 hl4 hg4 hfm HDF
    go_wp2_with fail
    go_ret2
    rw [HV.out]
    exact .of HC.out (by rw [HFM.out]; exact HO4.out) HE4.out
set_option maxHeartbeats 4000000 in
theorem spec_LocksOfTx (bh nh ph : Nat) (Aq : Option Addr) (nq pq : Nat) (lh : List CLock) (lq : List CWait) (tx : Int) (w : World) (hlh : lh.length = nh) (hlq : lq.length = nq) (hph : nh ≤ ph) (hnh : nh ≤ 1099511627776) (hnq : nq ≤ 1099511627776)
    (hrh : Rd w (some ⟨bh, 0, none⟩) (lh.flatMap CLock.cs)) (hrq : Rd w Aq (lq.flatMap CWait.cs)) :
    Calls Try.prog 47 #[.agg #[.slice (some ⟨bh, 0, none⟩) nh ph, .slice Aq nq pq], .int .i64 tx] w (OtPost w 125 (otL lh lq tx) (otC lh lq tx)) := by
  have E0 : Ext w (w.alloc (.cells #[.slice (some ⟨bh, 0, none⟩) nh ph, .slice Aq nq pq] 57)) := (by repeat (first | exact Ext.refl _ | assumption | refine Ext.alloc ?_ _ | refine Ext.drewN ?_ _ | refine Ext.drew ?_ | refine Ext.set ?_ (by dsimp only; omega) _ | refine Ext.trans ?_ (by assumption)))
  have hL := spec_LocksOK (some ⟨bh, 0, none⟩) nh ph Aq nq pq lh lq _ hlh hlq hnh hnq (hrh.ext E0) (hrq.ext E0)
  have hV : otL lh lq tx = if locksB lh lq && inB tx 1 60 then lh.filter fun x => !notTx tx x else [] := rfl
  have hC : otC lh lq tx = if locksB lh lq = false then 1 else if inB tx 1 60 = false then 4 else 0 := rfl
  generalize otL lh lq tx = rv at hV ⊢
  generalize otC lh lq tx = rc at hC ⊢
  have HX := Lib.hid (Blk.new w 57 [.slice (some ⟨bh, 0, none⟩) nh ph, .slice Aq nq pq])
  have HR := Lib.hid (hrh.ext E0)
  have HR0 := Lib.hid hrh
  have HLh := Lib.hid hlh
  have HE0 := Lib.hid E0
  have HQ := Lib.hid (fun h => locksB_h (lh := lh) (lq := lq) h)
  generalize locksB lh lq = t1 at hL hV hC HQ
  have HL := Lib.hid hL
  clear hrh hrq hlh hlq E0 hL
  rcases t1 with _ | _
  · have HV := Lib.hid (show rv = [] by rw [hV]; rfl)
    have HC := Lib.hid (show rc = 1 by rw [hC]; rfl)
    clear hV hC
    go_enter Try.func47, Try.ntmps47
    go_wp2_with fail
    refine HL.out.mono ?_
    rintro e w1 ⟨rfl, E1⟩
    have HE1 := Lib.hid (HE0.out.trans E1)
    have HN := Lib.hid (World.ownsRow_lit (base := w.heap.size) (e := 125) (size := 4) w1 #[] 0 HE1.out.le (by unfold maxLen; omega) rfl)
    go_wp2_with fail
    go_ret2
    rw [HV.out]
    exact .of HC.out HN.out (HE1.out.alloc _)
  have hq60 := HQ.out rfl
  rw [HLh.out] at hq60
  have HM := Lib.hid (fun W => spec_l01In tx 1 60 W)
  generalize inB tx 1 60 = t2 at hV hC HM
  rcases t2 with _ | _
  · have HV := Lib.hid (show rv = [] by rw [hV]; rfl)
    have HC := Lib.hid (show rc = 4 by rw [hC]; rfl)
    clear hV hC
    go_enter Try.func47, Try.ntmps47
    go_wp2_with fail
    refine HL.out.mono ?_
    rintro e w1 ⟨rfl, E1⟩
    have HE1 := Lib.hid (HE0.out.trans E1)
    have HN := Lib.hid (World.ownsRow_lit (base := w.heap.size) (e := 125) (size := 4) w1 #[] 0 HE1.out.le (by unfold maxLen; omega) rfl)
    go_wp2_with fail
    refine (HM.out _).mono ?_
    rintro e w2 ⟨rfl, rfl⟩
    go_wp2_with fail
    go_ret2
    rw [HV.out]
    exact .of HC.out HN.out (HE1.out.alloc _)
  · have HV := Lib.hid (show rv = lh.filter fun x => !notTx tx x by rw [hV]; rfl)
    have HC := Lib.hid (show rc = 0 by rw [hC]; rfl)
    obtain ⟨i0, hi, hz0, hz1, hz2⟩ := info_parts info_Lock
    clear hV hC
    go_enter Try.func47, Try.ntmps47
    go_wp2_with fail
    refine HL.out.mono ?_
    rintro e w1 ⟨rfl, E1⟩
    go_wp2_with fail
    refine (HM.out _).mono ?_
    rintro e w2 ⟨rfl, rfl⟩
    have HE1 := Lib.hid (HE0.out.trans E1)
    have HX1 := Lib.hid (HX.out.ext E1)
    have HR1 := Lib.hid (HR.out.ext E1)
    have HI := Lib.hid (World.ownsRow_lit (base := w.heap.size + 1) (e := 125) (size := 4) w1 #[] 0 (HX1.out.lt) (by unfold maxLen; omega) rfl)
    clear E1 HX HR
    go_wp2_with fail
    go_loopw [7, 6] (fun i v wr => ∃ k : Nat, i = .int .i64 k ∧ k ≤ nh ∧ wr.ownsRow (w.heap.size + 1) 125 4 v ((lh.take k).filter fun x => !notTx tx x).length (((lh.take k).filter fun x => !notTx tx x).flatMap CLock.cs) ∧ Blk wr w.heap.size 57 [.slice (some ⟨bh, 0, none⟩) nh ph, .slice Aq nq pq] ∧ Ext w wr) (fun i _ _ => nh - (intOf i).toNat)
    case atStart => exact ⟨0, rfl, Nat.zero_le _, HI.out, HX1.out.alloc _, HE1.out.alloc _⟩
    case round =>
      obtain ⟨k, rfl, hk, ho, hX, hE⟩ := hrel
      have HO := Lib.hid ho
      have HXr := Lib.hid hX
      have HEr := Lib.hid hE
      obtain ⟨Ao, capo, rfl⟩ := own_sliceL ho
      obtain ⟨x0, x1⟩ := hX.cells2
      clear ho hX hE HI HX1 HR1 HE1
      by_cases hkn : k < nh
      · have hkl : k < lh.length := by rw [HLh.out]; exact hkn
        have hkI : (k : Int) < (nh : Int) := by omega
        obtain ⟨b', o', e', hcl⟩ := (HR0.out.ext HEr.out).flat CLock.len (by decide) hkl
        injection e' with e'
        injection e' with e1 e2 _
        subst e1; subst e2
        have c0 : wr.cell? ⟨bh, k * 4, none⟩ = some (.int .i64 lh[k].a) := by have h := hcl 0 _ rfl; rw [Nat.zero_add, Nat.add_zero] at h; exact h
        have c1 : wr.cell? ⟨bh, k * 4 + 1, none⟩ = some (.int .i64 lh[k].b) := by have h := hcl 1 _ rfl; rw [Nat.zero_add] at h; exact h
        have c2 : wr.cell? ⟨bh, k * 4 + 2, none⟩ = some (.int .i64 lh[k].c) := by have h := hcl 2 _ rfl; rw [Nat.zero_add] at h; exact h
        have c3 : wr.cell? ⟨bh, k * 4 + 3, none⟩ = some (.int .i64 lh[k].d) := by have h := hcl 3 _ rfl; rw [Nat.zero_add] at h; exact h
        clear hcl
        rcases g1 : (lh[k].a == tx) with _ | _
        · have HF := Lib.hid (show ((lh.take (k + 1)).filter fun x => !notTx tx x) = ((lh.take k).filter fun x => !notTx tx x) by
            rw [List.take_succ_eq_append_getElem hkl, List.filter_append, List.filter_cons]
            simp [notTx, bne, g1])
          go_wp2_with fail
          go_roundw
          case rel => exact ⟨k + 1, by go_num, by omega, by rw [HF.out]; exact HO.out, HXr.out, HEr.out⟩
          case measure => simp [intOf]; omega
        · have HF := Lib.hid (show ((lh.take (k + 1)).filter fun x => !notTx tx x) = ((lh.take k).filter fun x => !notTx tx x) ++ [lh[k]] by
            rw [List.take_succ_eq_append_getElem hkl, List.filter_append, List.filter_cons]
            simp [notTx, bne, g1])
          have hrow := own_ext HO.out ((Ext.refl wr).alloc (.cells #[.int .i64 lh[k].a, .int .i64 lh[k].b, .int .i64 lh[k].c, .int .i64 lh[k].d] 125))
          have hle := HEr.out.le
          have hfl : ((lh.take k).filter fun x => !notTx tx x).length ≤ k := Nat.le_trans (List.length_filter_le _ _) (by rw [List.length_take]; omega)
          have hXlt := HXr.out.lt
          have hX2 := HXr.out.alloc (.cells #[.int .i64 lh[k].a, .int .i64 lh[k].b, .int .i64 lh[k].c, .int .i64 lh[k].d] 125)
          generalize ((lh.take k).filter fun x => !notTx tx x) = acc at HO HF hrow hfl ⊢
          have HX2 := Lib.hid hX2
          clear hX2
          go_wp2_with (at_builtin; refine wpList_append_own _ rfl (.tmp 32) (.tmp 38) 54 rfl (w.heap.size + 1) 125 i0 (.agg #[.int .i64 0, .int .i64 0, .int .i64 0, .int .i64 0]) 4 32 Try.underlying54 hi hz0 hz1 hz2 rfl (by decide) _ acc.length _ rfl hrow ⟨wr.heap.size, 0, none⟩ 1 1 [.int .i64 lh[k].a, .int .i64 lh[k].b, .int .i64 lh[k].c, .int .i64 lh[k].d] rfl rfl (rd_add (Blk.new wr _ _).rd) (by intro u hu; simp at hu; rcases hu with rfl | rfl | rfl | rfl <;> rfl) (by unfold maxLen; omega) (by omega) (by simp; omega) ?_)
          intro v4 w4 ho4 hg4 _
          have HO4 := Lib.hid ho4
          have hbk := own_blk hrow
          have HE4 := Lib.hid ((HEr.out.alloc (.cells #[.int .i64 lh[k].a, .int .i64 lh[k].b, .int .i64 lh[k].c, .int .i64 lh[k].d] 125)).grown hg4 (fun i e => by have := hbk i e; omega))
          have HX4 := Lib.hid (show Blk w4 w.heap.size 57 [.slice (some ⟨bh, 0, none⟩) nh ph, .slice Aq nq pq] from (hg4.block w.heap.size HX2.out.lt (by intro e; have := hbk _ e.symm; omega)).trans HX2.out)
          clear hrow ho4 hg4 hbk x0 x1 c0 c1 c2 c3
          go_wp2_with fail
          go_roundw
          case rel => exact ⟨k + 1, by go_num, by omega, by rw [HF.out, List.length_append, List.flatMap_append]; exact HO4.out, HX4.out, HE4.out⟩
          case measure => simp [intOf]; omega
      · have hkI : ¬ (k : Int) < (nh : Int) := by omega
        have htk : lh.take k = lh := List.take_of_length_le (by rw [HLh.out]; omega)
        rw [htk] at HO
        rw [htk]
        go_wp2_with fail
        go_ret2
        rw [HV.out]
        exact .of HC.out (own_base HO.out (Nat.le_succ _)) HEr.out
end Go.Proofs.Ytnbfjkebakaigaa
