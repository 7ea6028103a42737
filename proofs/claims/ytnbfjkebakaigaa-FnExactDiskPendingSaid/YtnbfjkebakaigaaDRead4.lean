/- The walks of DiskRead (printed by gen_dread4.py). -/
import Derived.Test.YtnbfjkebakaigaaDRead3
namespace Go.Proofs.Ytnbfjkebakaigaa
open Go.RowKit Go.Deep
set_option linter.unusedVariables false
set_option maxRecDepth 100000
theorem PCells.of_blk {W : World} {b : Nat} {lc : List CPending} (h : Rd W (some ⟨b, 0, none⟩) (lc.flatMap CPending.cs)) : PCells W b 0 lc := fun j hj => by
  obtain ⟨b', o, he, hc⟩ := h.flat CPending.len (by decide) hj
  injection he with he; injection he with h1 h2; subst h1; subst h2
  exact ⟨hc 0 _ rfl, by rw [Nat.add_assoc]; exact hc 1 _ rfl⟩
theorem dk_n {ls : List ByteArray} {lc : List CPending} {ar : Bool} {nk : Nat} (h : diskB ls lc ar nk = true) : ls.length ≤ 100 ∧ lc.length ≤ 500 := by
  unfold diskB dkPre at h
  simp only [Bool.and_eq_true, decide_eq_true_eq] at h
  have := inB_true h.1.1.1.1
  exact ⟨by omega, h.1.1.1.2⟩
set_option maxHeartbeats 1000000 in
theorem impl_read (As : Option Addr) (ns ps bc nc pc : Nat) (ar : Bool) (Ak : Option Addr) (nk pk : Nat) (ls : List ByteArray) (lc : List CPending) (k : Nat) (w : World) (hlc : lc.length = nc) (hnc : nc ≤ 1000) (hls : ls.length = ns) (hns : ns ≤ 1000) (hk : k < ns) (hbc : bc < w.heap.size) (hrs : Rd w As (ls.map fun c => Value.string c)) (hrc : PCells w bc 0 lc) :
    Calls Try.prog 80 #[.agg #[.slice As ns ps, .slice (some ⟨bc, 0, none⟩) nc pc, .bool ar, .slice Ak nk pk], .int .i64 (k : Int)] w fun e W' => e = .returned (.string (tellB ls lc (k : Int))) ∧ Ext w W' :=
  (callsIn_wide (n := 6)).1 (read_in Fence.wide 6 trivial trivial trivial rfl (Nat.le_refl _) As ns ps bc nc pc ar Ak nk pk ls lc k w hlc hnc hls hns hk hbc hrs hrc)
set_option maxHeartbeats 4000000 in
theorem spec_l02Read (As : Option Addr) (ns ps bc nc pc : Nat) (ar : Bool) (Ak : Option Addr) (nk pk : Nat) (ls : List ByteArray) (lc : List CPending) (k : Nat) (w : World) (hlc : lc.length = nc) (hnc : nc ≤ 1000) (hls : ls.length = ns) (hns : ns ≤ 1000) (hk : k < ns) (hbc : bc < w.heap.size) (hrs : Rd w As (ls.map fun c => Value.string c)) (hrc : PCells w bc 0 lc) :
    Calls Try.prog 74 #[.agg #[.slice As ns ps, .slice (some ⟨bc, 0, none⟩) nc pc, .bool ar, .slice Ak nk pk], .int .i64 (k : Int)] w fun e W' => e = .returned (.string (tellB ls lc (k : Int))) ∧ Ext w W' := by
  have HX := Lib.hid (Blk.new w 26 [.slice As ns ps, .slice (some ⟨bc, 0, none⟩) nc pc, .bool ar, .slice Ak nk pk])
  have E0 : Ext w (w.alloc (.cells #[.slice As ns ps, .slice (some ⟨bc, 0, none⟩) nc pc, .bool ar, .slice Ak nk pk] 26)) := (by repeat (first | exact Ext.refl _ | assumption | refine Ext.alloc ?_ _ | refine Ext.drewN ?_ _ | refine Ext.drew ?_ | refine Ext.set ?_ (by dsimp only; omega) _ | refine Ext.trans ?_ (by assumption)))
  have HE0 := Lib.hid E0
  have HRc := Lib.hid (fun j hj => (⟨E0.cell (hrc j hj).1, E0.cell (hrc j hj).2⟩ : _ ∧ _))
  have HRs := Lib.hid (hrs.ext E0)
  have HLs := Lib.hid hls
  have HLc := Lib.hid hlc
  obtain ⟨p0, p1, p2, p3⟩ := HX.out.cells4
  clear hrc hrs E0
  go_enter Try.func74, Try.ntmps74
  go_wp2_with fail
  go_loopw [5] (fun i wr => ∃ m : Nat, m ≤ nc ∧ i = .int .i64 ((m : Int) - 1) ∧ wr = w.alloc (.cells #[.slice As ns ps, .slice (some ⟨bc, 0, none⟩) nc pc, .bool ar, .slice Ak nk pk] 26) ∧ ∀ j, (hj : j < lc.length) → m ≤ j → (lc[j]'hj).a ≠ (k : Int)) (fun i _ => (intOf i + 1).toNat)
  case atStart => exact ⟨nc, Nat.le_refl _, rfl, rfl, fun j hj h => by omega⟩
  case round =>
    obtain ⟨m, hm, rfl, rfl, hne⟩ := hrel
    have HNE := Lib.hid hne
    clear hne
    rcases m with _ | m
    · obtain ⟨sb, so, hAs, hsc⟩ := HRs.out (by intro h; have := congrArg List.length h; simp at this; subst this; simp at hls; omega)
      subst hAs
      have hcell := hsc k (.string ls[k]) (by simp [List.getElem?_eq_getElem (show k < ls.length by omega)])
      have HA := Lib.hid (tellB_none (ls := ls) (lastP_none (x := (k : Int)) (fun j hj => HNE.out j hj (Nat.zero_le _))) rfl (by omega))
      have hk0 : (0 : Int) ≤ (k : Int) := by omega
      have hkn : (k : Int) < (ns : Int) := by omega
      generalize ls[k] = sk at hcell HA
      clear hlc hls hsc
      go_wp2_with fail
      go_ret
      exact ⟨by rw [HA.out]; rfl, HE0.out⟩
    · have hml : m < lc.length := by omega
      have hmI : ((m + 1 : Nat) : Int) - 1 = (m : Int) := by omega
      rw [hmI]
      have c0 := (HRc.out m hml).1
      have c1 := (HRc.out m hml).2
      simp only [Nat.zero_add] at c0 c1
      have hm0 : (0 : Int) ≤ (m : Int) := by omega
      have hmn : (m : Int) < (nc : Int) := by omega
      by_cases hx : (lc[m]'hml).a = (k : Int)
      · have HA := Lib.hid (lastP_found hml hx (fun j hj h => HNE.out j hj (by omega)))
        have e1 : ((lc[m]'hml).a == (k : Int)) = true := by rw [hx]; simp
        have HMI := Lib.hid hmI
        generalize lc[m]'hml = x at *
        obtain ⟨xa, xc⟩ := x
        dsimp only at c0 c1 hx e1
        clear hlc hls hmI hx hm
        go_wp2_with fail
        go_ret
        exact ⟨by rw [tellB_some HA.out]; rfl, HE0.out⟩
      · have e1 : ((lc[m]'hml).a == (k : Int)) = false := by simpa using hx
        have HHX := Lib.hid hx
        have HMI := Lib.hid hmI
        have HM := Lib.hid hm
        have HML := Lib.hid hml
        have HK : ∀ j, (hj : j < lc.length) → m ≤ j → (lc[j]'hj).a ≠ (k : Int) := fun j hj h => by
          rcases Nat.lt_or_ge m j with h2 | h2
          · exact HNE.out j hj h2
          · obtain rfl : j = m := by omega
            exact hx
        have HKK := Lib.hid HK
        clear HK
        generalize lc[m]'hml = x at c0 c1 e1
        obtain ⟨xa, xc⟩ := x
        dsimp only at c0 c1 e1
        clear hlc hls hmI hx hm hml HNE HHX
        go_wp2_with fail
        go_roundw
        case rel => exact ⟨m, by have := HM.out; omega, by first | trivial | rfl, by first | trivial | rfl, HKK.out⟩
        case measure => simp [intOf]
set_option maxHeartbeats 2000000 in
theorem impl_DiskRead (As : Option Addr) (ns ps bc nc pc : Nat) (ar : Bool) (Ak : Option Addr) (nk pk : Nat) (ls : List ByteArray) (lc : List CPending) (at_ : Int) (w : World) (hls : ls.length = ns) (hlc : lc.length = nc) (hns : ns ≤ 1099511627776) (hnc : nc ≤ 1099511627776) (hnk : nk ≤ 1099511627776) (hxs : ∀ s ∈ ls, s.size ≤ maxLen) (hxc : ∀ x ∈ lc, x.c.size ≤ maxLen) (hrs : Rd w As (ls.map fun c => Value.string c)) (hrc : Rd w (some ⟨bc, 0, none⟩) (lc.flatMap CPending.cs)) (hbc : bc < w.heap.size) :
    Calls Try.prog 22 #[.agg #[.slice As ns ps, .slice (some ⟨bc, 0, none⟩) nc pc, .bool ar, .slice Ak nk pk], .int .i64 at_] w fun e w' => e = .returned (.tuple #[.string (drV ls lc ar nk at_), .int .i64 (drC ls lc ar nk at_)]) ∧ Ext w w' := by
  have E0 : Ext w (w.alloc (.cells #[.slice As ns ps, .slice (some ⟨bc, 0, none⟩) nc pc, .bool ar, .slice Ak nk pk] 26)) := (by repeat (first | exact Ext.refl _ | assumption | refine Ext.alloc ?_ _ | refine Ext.drewN ?_ _ | refine Ext.drew ?_ | refine Ext.set ?_ (by dsimp only; omega) _ | refine Ext.trans ?_ (by assumption)))
  have hL := impl_DiskOK As ns ps (some ⟨bc, 0, none⟩) nc pc ar Ak nk pk ls lc _ hls hlc hns hnc hnk hxs hxc (hrs.ext E0) (hrc.ext E0)
  have hV : drV ls lc ar nk at_ = if diskB ls lc ar nk = false then ⟨#[]⟩ else if inB at_ 0 ((ls.length : Int) - 1) = false then ⟨#[]⟩ else tellB ls lc at_ := rfl
  have hC : drC ls lc ar nk at_ = if diskB ls lc ar nk = false then 1 else if inB at_ 0 ((ls.length : Int) - 1) = false then 4 else 0 := rfl
  rw [hls] at hV hC
  generalize drV ls lc ar nk at_ = rv at hV ⊢
  generalize drC ls lc ar nk at_ = rc at hC ⊢
  have HX := Lib.hid (Blk.new w 26 [.slice As ns ps, .slice (some ⟨bc, 0, none⟩) nc pc, .bool ar, .slice Ak nk pk])
  have HRs := Lib.hid (hrs.ext E0)
  have HRc := Lib.hid (hrc.ext E0)
  have HLs := Lib.hid hls
  have HLc := Lib.hid hlc
  have HE0 := Lib.hid E0
  have HN := Lib.hid (fun h => dk_n (ls := ls) (lc := lc) (ar := ar) (nk := nk) h)
  have HBC := Lib.hid (show bc < (w.alloc (.cells #[.slice As ns ps, .slice (some ⟨bc, 0, none⟩) nc pc, .bool ar, .slice Ak nk pk] 26)).heap.size by rw [World.size_alloc]; omega)
  generalize diskB ls lc ar nk = t1 at hL hV hC HN
  have HL := Lib.hid hL
  clear hrs hrc hls hlc hxs hxc E0 hL hbc
  obtain ⟨p0, p1, p2, p3⟩ := HX.out.cells4
  rcases t1 with _ | _
  · have HV := Lib.hid (show rv = ⟨#[]⟩ by rw [hV]; rfl)
    have HC := Lib.hid (show rc = 1 by rw [hC]; rfl)
    clear hV hC
    go_enter Try.func22, Try.ntmps22
    go_wp2_with fail
    refine HL.out.mono ?_
    rintro e w1 ⟨rfl, E1⟩
    clear p0 p1 p2 p3
    go_wp2_with fail
    go_ret2
    exact ⟨by rw [HV.out, HC.out]; rfl, HE0.out.trans E1⟩
  obtain ⟨hn1, hn2⟩ := HN.out rfl
  rw [HLs.out] at hn1
  rw [HLc.out] at hn2
  have HM := Lib.hid (fun W => impl_isPlaceN at_ ns W (by omega))
  have HI := Lib.hid (fun (h : inB at_ 0 ((ns : Int) - 1) = true) => inB_true h)
  generalize hg : inB at_ 0 ((ns : Int) - 1) = t2 at hV hC HM HI
  clear hg
  rcases t2 with _ | _
  · have HV := Lib.hid (show rv = ⟨#[]⟩ by rw [hV]; rfl)
    have HC := Lib.hid (show rc = 4 by rw [hC]; rfl)
    clear hV hC
    go_enter Try.func22, Try.ntmps22
    go_wp2_with fail
    refine HL.out.mono ?_
    rintro e w1 ⟨rfl, E1⟩
    clear p0 p1 p2 p3
    obtain ⟨p0, p1, p2, p3⟩ := (HX.out.ext E1).cells4
    go_wp2_with fail
    refine (HM.out _).mono ?_
    rintro e w2 ⟨rfl, rfl⟩
    go_wp2_with fail
    go_ret2
    exact ⟨by rw [HV.out, HC.out]; rfl, HE0.out.trans E1⟩
  · have HV := Lib.hid (show rv = tellB ls lc at_ by rw [hV]; rfl)
    have HC := Lib.hid (show rc = 0 by rw [hC]; rfl)
    clear hV hC
    obtain ⟨i1, i2⟩ := HI.out rfl
    obtain ⟨k, rfl⟩ : ∃ k : Nat, at_ = (k : Int) := ⟨at_.toNat, by omega⟩
    have hk : k < ns := by omega
    clear i1 i2
    go_enter Try.func22, Try.ntmps22
    go_wp2_with fail
    refine HL.out.mono ?_
    rintro e w1 ⟨rfl, E1⟩
    clear p0 p1 p2 p3
    obtain ⟨p0, p1, p2, p3⟩ := (HX.out.ext E1).cells4
    go_wp2_with fail
    refine (HM.out _).mono ?_
    rintro e w2 ⟨rfl, rfl⟩
    have HE1 := Lib.hid E1
    clear E1
    go_wp2_with fail
    refine (impl_read As ns ps bc nc pc ar Ak nk pk ls lc k _ HLc.out (by omega) HLs.out (by omega) hk (Nat.lt_of_lt_of_le HBC.out HE1.out.le) (HRs.out.ext HE1.out) (PCells.of_blk (HRc.out.ext HE1.out))).mono ?_
    rintro e w3 ⟨rfl, E3⟩
    go_wp2_with fail
    go_ret2
    exact ⟨by rw [HV.out, HC.out]; rfl, HE0.out.trans (HE1.out.trans E3)⟩
set_option maxHeartbeats 2000000 in
theorem spec_DiskRead (As : Option Addr) (ns ps bc nc pc : Nat) (ar : Bool) (Ak : Option Addr) (nk pk : Nat) (ls : List ByteArray) (lc : List CPending) (at_ : Int) (w : World) (hls : ls.length = ns) (hlc : lc.length = nc) (hns : ns ≤ 1099511627776) (hnc : nc ≤ 1099511627776) (hnk : nk ≤ 1099511627776) (hxs : ∀ s ∈ ls, s.size ≤ maxLen) (hxc : ∀ x ∈ lc, x.c.size ≤ maxLen) (hrs : Rd w As (ls.map fun c => Value.string c)) (hrc : Rd w (some ⟨bc, 0, none⟩) (lc.flatMap CPending.cs)) (hbc : bc < w.heap.size) :
    Calls Try.prog 20 #[.agg #[.slice As ns ps, .slice (some ⟨bc, 0, none⟩) nc pc, .bool ar, .slice Ak nk pk], .int .i64 at_] w fun e w' => e = .returned (.tuple #[.string (drV ls lc ar nk at_), .int .i64 (drC ls lc ar nk at_)]) ∧ Ext w w' := by
  have E0 : Ext w (w.alloc (.cells #[.slice As ns ps, .slice (some ⟨bc, 0, none⟩) nc pc, .bool ar, .slice Ak nk pk] 26)) := (by repeat (first | exact Ext.refl _ | assumption | refine Ext.alloc ?_ _ | refine Ext.drewN ?_ _ | refine Ext.drew ?_ | refine Ext.set ?_ (by dsimp only; omega) _ | refine Ext.trans ?_ (by assumption)))
  have hL := spec_DiskOK As ns ps (some ⟨bc, 0, none⟩) nc pc ar Ak nk pk ls lc _ hls hlc hns hnc hnk hxs hxc (hrs.ext E0) (hrc.ext E0)
  have hV : drV ls lc ar nk at_ = if diskB ls lc ar nk = false then ⟨#[]⟩ else if inB at_ 0 ((ls.length : Int) - 1) = false then ⟨#[]⟩ else tellB ls lc at_ := rfl
  have hC : drC ls lc ar nk at_ = if diskB ls lc ar nk = false then 1 else if inB at_ 0 ((ls.length : Int) - 1) = false then 4 else 0 := rfl
  rw [hls] at hV hC
  generalize drV ls lc ar nk at_ = rv at hV ⊢
  generalize drC ls lc ar nk at_ = rc at hC ⊢
  have HX := Lib.hid (Blk.new w 26 [.slice As ns ps, .slice (some ⟨bc, 0, none⟩) nc pc, .bool ar, .slice Ak nk pk])
  have HRs := Lib.hid (hrs.ext E0)
  have HRc := Lib.hid (hrc.ext E0)
  have HLs := Lib.hid hls
  have HLc := Lib.hid hlc
  have HE0 := Lib.hid E0
  have HN := Lib.hid (fun h => dk_n (ls := ls) (lc := lc) (ar := ar) (nk := nk) h)
  have HBC := Lib.hid (show bc < (w.alloc (.cells #[.slice As ns ps, .slice (some ⟨bc, 0, none⟩) nc pc, .bool ar, .slice Ak nk pk] 26)).heap.size by rw [World.size_alloc]; omega)
  generalize diskB ls lc ar nk = t1 at hL hV hC HN
  have HL := Lib.hid hL
  clear hrs hrc hls hlc hxs hxc E0 hL hbc
  obtain ⟨p0, p1, p2, p3⟩ := HX.out.cells4
  rcases t1 with _ | _
  · have HV := Lib.hid (show rv = ⟨#[]⟩ by rw [hV]; rfl)
    have HC := Lib.hid (show rc = 1 by rw [hC]; rfl)
    clear hV hC
    go_enter Try.func20, Try.ntmps20
    go_wp2_with fail
    refine HL.out.mono ?_
    rintro e w1 ⟨rfl, E1⟩
    clear p0 p1 p2 p3
    go_wp2_with fail
    go_ret2
    exact ⟨by rw [HV.out, HC.out]; rfl, HE0.out.trans E1⟩
  obtain ⟨hn1, hn2⟩ := HN.out rfl
  rw [HLs.out] at hn1
  rw [HLc.out] at hn2
  have HM := Lib.hid (fun W => spec_l01In at_ 0 ((ns : Int) - 1) W)
  have HI := Lib.hid (fun (h : inB at_ 0 ((ns : Int) - 1) = true) => inB_true h)
  generalize hg : inB at_ 0 ((ns : Int) - 1) = t2 at hV hC HM HI
  clear hg
  rcases t2 with _ | _
  · have HV := Lib.hid (show rv = ⟨#[]⟩ by rw [hV]; rfl)
    have HC := Lib.hid (show rc = 4 by rw [hC]; rfl)
    clear hV hC
    go_enter Try.func20, Try.ntmps20
    go_wp2_with fail
    refine HL.out.mono ?_
    rintro e w1 ⟨rfl, E1⟩
    clear p0 p1 p2 p3
    obtain ⟨p0, p1, p2, p3⟩ := (HX.out.ext E1).cells4
    go_wp2_with fail
    refine (HM.out _).mono ?_
    rintro e w2 ⟨rfl, rfl⟩
    go_wp2_with fail
    go_ret2
    exact ⟨by rw [HV.out, HC.out]; rfl, HE0.out.trans E1⟩
  · have HV := Lib.hid (show rv = tellB ls lc at_ by rw [hV]; rfl)
    have HC := Lib.hid (show rc = 0 by rw [hC]; rfl)
    clear hV hC
    obtain ⟨i1, i2⟩ := HI.out rfl
    obtain ⟨k, rfl⟩ : ∃ k : Nat, at_ = (k : Int) := ⟨at_.toNat, by omega⟩
    have hk : k < ns := by omega
    clear i1 i2
    go_enter Try.func20, Try.ntmps20
    go_wp2_with fail
    refine HL.out.mono ?_
    rintro e w1 ⟨rfl, E1⟩
    clear p0 p1 p2 p3
    obtain ⟨p0, p1, p2, p3⟩ := (HX.out.ext E1).cells4
    go_wp2_with fail
    refine (HM.out _).mono ?_
    rintro e w2 ⟨rfl, rfl⟩
    have HE1 := Lib.hid E1
    clear E1
    go_wp2_with fail
    refine (spec_l02Read As ns ps bc nc pc ar Ak nk pk ls lc k _ HLc.out (by omega) HLs.out (by omega) hk (Nat.lt_of_lt_of_le HBC.out HE1.out.le) (HRs.out.ext HE1.out) (PCells.of_blk (HRc.out.ext HE1.out))).mono ?_
    rintro e w3 ⟨rfl, E3⟩
    go_wp2_with fail
    go_ret2
    exact ⟨by rw [HV.out, HC.out]; rfl, HE0.out.trans (HE1.out.trans E3)⟩
end Go.Proofs.Ytnbfjkebakaigaa
