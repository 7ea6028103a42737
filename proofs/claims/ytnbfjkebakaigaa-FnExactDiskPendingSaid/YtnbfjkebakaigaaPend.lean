/- The walks of DiskPending (printed by gen_pend.py). -/
import Derived.Test.YtnbfjkebakaigaaPendP
import Derived.Test.YtnbfjkebakaigaaMarkD
import Derived.Test.YtnbfjkebakaigaaDRead4
import Derived.Shelf.Lay
import Derived.Shelf.Sort.Plain
import Derived.Shelf.Slices.Clone
import Derived.Shelf.Slices.CompactI
import Derived.Sort.OwnSortedInts
import Derived.Lib.OwnBridge
import Derived.Sort.Grow
import Derived.Ground.NamesProg
import Derived.Ground.Names2Prog
import Derived.Test.YtnbfjkebakaigaaShP
namespace Go.Proofs.Ytnbfjkebakaigaa
open Go.RowKit Go.Deep
set_option linter.unusedVariables false
set_option maxRecDepth 100000
def PdPost (w : World) (T : TypeId) (L : List Int) (C : Int) (e : Ending) (w' : World) : Prop :=
  ∃ v, e = .returned (.tuple #[v, .int .i64 C]) ∧ w'.ownsRow w.heap.size T 1 v L.length (intR L) ∧ Ext w w'
theorem PdPost.of {w w' : World} {T : TypeId} {L : List Int} {C c : Int} {v : Value} (hc : C = c) (ho : w'.ownsRow w.heap.size T 1 v L.length (intR L)) (E : Ext w w') : PdPost w T L C (.returned (.tuple #[v, .int .i64 c])) w' := by
  subst hc; exact ⟨v, rfl, ho, E⟩
theorem PdPost.none {w w' : World} {T : TypeId} {C c : Int} (hc : C = c) (E : Ext w w') : PdPost w T [] C (.returned (.tuple #[.slice none 0 0, .int .i64 c])) w' :=
  PdPost.of hc ⟨rfl, .inl ⟨rfl, rfl⟩⟩ E
attribute [irreducible] PdPost
/-- what sorting, compacting and cloning leave -/
def ScPost (w : World) (B : Nat) (T : TypeId) (L : List Int) (e : Ending) (w' : World) : Prop :=
  ∃ v, e = .returned v ∧ w'.ownsRow B T 1 v L.length (intR L) ∧ Ext w w'
theorem sort_own (g n cap B : Nat) (l : List Int) (w : World) (hl : l.length = n) (hB : B ≤ g) (hn : n ≤ 1000) (ho : w.ownsRow B 3 1 (.slice (some ⟨g, 0, none⟩) n cap) n (intR l)) (w0 : World) (E : Ext w0 w) (hw0 : w0.heap.size ≤ g) :
    Calls Try.prog 89 #[.slice (some ⟨g, 0, none⟩) n cap] w fun e w' => e = .returned (.tuple #[]) ∧ w'.ownsRow B 3 1 (.slice (some ⟨g, 0, none⟩) n cap) n (intR (l.mergeSort fun x y => decide (x ≤ y))) ∧ Ext w0 w' := by
  obtain ⟨g', cap', hv, hbg, hgl, hncap, hcm, hlen, hH⟩ := Lib.holds_of_ownsRow ho (by simp)
  injection hv with hv1 hv2 hv3
  injection hv1 with hv1; injection hv1 with hv1
  subst hv1; subst hv3
  have hs := Any.slices_Sort_int Try.laysSort g 0 cap l w hH hgl (by omega)
  rw [hlen] at hs
  refine Calls.mono hs ?_
  rintro e w' ⟨rfl, q, os, rfl⟩
  refine ⟨rfl, ?_, E.grown (grownBy_sortedI _) (fun k hk => by cases hk; exact hw0)⟩
  obtain ⟨_, h | ⟨g2, c2, cur, h, h3, h4, h5, h6, h7, h8⟩⟩ := ho
  · exact absurd h.1 (by simp)
  · injection h with e1 e2 e3
    injection e1 with e1; injection e1 with e1
    subst e1; subst e3
    have := ownsRow_sortedI (n := q) (os := os) (ss := l) (ts := l.mergeSort fun x y => decide (x ≤ y)) (List.length_mergeSort l) h3 h4 (by omega) h6 h7
    rw [hl] at this
    exact this
theorem compact_own (g n cap B : Nat) (l : List Int) (w : World) (hl : l.length = n) (hB : B ≤ g) (hn : n ≤ 1000) (ho : w.ownsRow B 3 1 (.slice (some ⟨g, 0, none⟩) n cap) n (intR l)) (w0 : World) (E : Ext w0 w) (hw0 : w0.heap.size ≤ g) :
    Calls Try.prog 91 #[.slice (some ⟨g, 0, none⟩) n cap] w fun e w' => e = .returned (.slice (some ⟨g, 0, none⟩) (Lib.compact l).length cap) ∧ w'.ownsRow B 3 1 (.slice (some ⟨g, 0, none⟩) (Lib.compact l).length cap) (Lib.compact l).length (intR (Lib.compact l)) ∧ Ext w0 w' := by
  obtain ⟨g', cap', hv, hbg, hgl, hncap, hcm, hlen, hH⟩ := Lib.holds_of_ownsRow ho (by simp)
  injection hv with hv1 hv2 hv3
  injection hv1 with hv1; injection hv1 with hv1
  subst hv1; subst hv3
  have hs := Any.slices_Compact_int Try.laysCompact g 0 cap l w hH (by omega) (by omega)
  rw [hlen] at hs
  have hle := Lib.compact_length_le l
  refine Calls.mono hs ?_
  rintro e w' ⟨rfl, q, rfl⟩
  refine ⟨rfl, ?_, Lib.below_putRow E hw0⟩
  have hc := Lib.ownsRow_putRow (q := q) (k := (Lib.compact l).length) (ys := Lib.compact l ++ List.replicate (n - (Lib.compact l).length) 0) ho (by simp; omega) (by omega)
  rw [List.take_left] at hc
  exact hc
theorem clone_own (g cap B : Nat) (l : List Int) (w : World) (hn : l.length ≤ 1000) (ho : w.ownsRow B 3 1 (.slice (some ⟨g, 0, none⟩) l.length cap) l.length (intR l)) :
    Calls Try.prog 90 #[.slice (some ⟨g, 0, none⟩) l.length cap] w fun e w' => ∃ v, e = .returned v ∧ w'.ownsRow w.heap.size 3 1 v l.length (intR l) ∧ Ext w w' := by
  have hc : ∀ j, j < l.length → w.cell? ⟨g, 0 + j, none⟩ = some (.int .i64 (l.getD j 0)) := fun j hj => by
    obtain ⟨g', cap', hv, hbg, hgl, hncap, hcm, hlen, hH⟩ := Lib.holds_of_ownsRow ho (by simp)
    injection hv with hv1 hv2 hv3
    injection hv1 with hv1; injection hv1 with hv1
    subst hv1
    rw [(hH j (by simpa using hj)).1, getElem!_pos _ j (by simpa using hj)]
    simp [List.getD, List.getElem?_eq_getElem hj]
  refine Calls.mono (Any.slices_Clone_int Try.laysClone g 0 l.length cap l w (Nat.le_refl _) (by omega) hc) ?_
  rintro e w' ⟨v, rfl, h1, h2, h3⟩
  rw [List.take_of_length_le (Nat.le_refl _)] at h1
  exact ⟨v, rfl, h1, h3⟩
set_option maxHeartbeats 4000000 in
theorem impl_DiskPending (As : Option Addr) (ns ps : Nat) (Ac : Option Addr) (nc pc : Nat) (ar : Bool) (Ak : Option Addr) (nk pk : Nat) (ls : List ByteArray) (lc : List CPending) (w : World) (hls : ls.length = ns) (hlc : lc.length = nc) (hns : ns ≤ 1099511627776) (hnc : nc ≤ 1099511627776) (hnk : nk ≤ 1099511627776) (hxs : ∀ s ∈ ls, s.size ≤ maxLen) (hxc : ∀ x ∈ lc, x.c.size ≤ maxLen) (hrs : Rd w As (ls.map fun c => Value.string c)) (hrc : Rd w Ac (lc.flatMap CPending.cs)) :
    Calls Try.prog 29 #[.agg #[.slice As ns ps, .slice Ac nc pc, .bool ar, .slice Ak nk pk]] w (PdPost w 3 (pdL ls lc ar nk) (pdC ls lc ar nk)) := by
  have HX := Lib.hid (Blk.new w 26 [.slice As ns ps, .slice Ac nc pc, .bool ar, .slice Ak nk pk])
  have E0 : Ext w (w.alloc (.cells #[.slice As ns ps, .slice Ac nc pc, .bool ar, .slice Ak nk pk] 26)) := (by repeat (first | exact Ext.refl _ | assumption | refine Ext.alloc ?_ _ | refine Ext.drewN ?_ _ | refine Ext.drew ?_ | refine Ext.set ?_ (by dsimp only; omega) _ | refine Ext.trans ?_ (by assumption)))
  have hL := impl_DiskOK As ns ps Ac nc pc ar Ak nk pk ls lc _ hls hlc hns hnc hnk hxs hxc (hrs.ext E0) (hrc.ext E0)
  have hV : pdL ls lc ar nk = if diskB ls lc ar nk then pdUp lc ls.length else [] := rfl
  have hC : pdC ls lc ar nk = if diskB ls lc ar nk then 0 else 1 := rfl
  have HPE := Lib.hid (fun h => pd_eq (ls := ls) (lc := lc) (ar := ar) (nk := nk) h)
  have HN := Lib.hid (fun h => dk_n (ls := ls) (lc := lc) (ar := ar) (nk := nk) h)
  generalize pdL ls lc ar nk = L at hV ⊢
  generalize pdC ls lc ar nk = C at hC ⊢
  have HE0 := Lib.hid E0
  have HRc := Lib.hid (hrc.ext E0)
  have HLc := Lib.hid hlc
  obtain ⟨x0, x1, x2, x3⟩ := HX.out.cells4
  generalize diskB ls lc ar nk = t1 at hL hV hC HPE HN
  have HL := Lib.hid hL
  clear hrs hrc hls hlc hxs hxc E0 hL
  rcases t1 with _ | _
  · obtain rfl : L = [] := by rw [hV]; rfl
    have HC := Lib.hid (show C = 1 by rw [hC]; rfl)
    clear hV hC
    go_enter Try.func29, Try.ntmps29
    go_wp2_with fail
    refine HL.out.mono ?_
    rintro e w1 ⟨rfl, E1⟩
    clear x0 x1 x2 x3
    go_wp2_with fail
    go_ret2
    exact PdPost.none HC.out (HE0.out.trans E1)
  obtain ⟨-, hn2⟩ := HN.out rfl
  rw [HLc.out] at hn2
  have HV := Lib.hid (show L = Lib.compact ((lc.map CPending.a).mergeSort fun x y => decide (x ≤ y)) by rw [hV, HPE.out rfl]; rfl)
  have HC := Lib.hid (show C = 0 by rw [hC]; rfl)
  clear hV hC
  obtain ⟨i0, hi, hz0, hz1, hz2⟩ := info_parts info_IntS
  have hsz0 : (w.alloc (.cells #[.slice As ns ps, .slice Ac nc pc, .bool ar, .slice Ak nk pk] 26)).heap.size = w.heap.size + 1 := World.size_alloc _ _
  go_enter Try.func29, Try.ntmps29
  go_wp2_with fail
  generalize w.alloc (.cells #[.slice As ns ps, .slice Ac nc pc, .bool ar, .slice Ak nk pk] 26) = wz at HX HE0 HRc HL x0 x1 x2 x3 hsz0 ⊢
  refine HL.out.mono ?_
  rintro e w1 ⟨rfl, E1⟩
  have HE1 := Lib.hid E1
  have hI := World.ownsRow_lit (base := w.heap.size + 1) (e := 3) (size := 1) w1 #[] 0 (by rw [← hsz0]; exact E1.le) (by unfold maxLen; omega) rfl
  have HX1 := HX.out.ext E1
  clear x0 x1 x2 x3
  obtain ⟨x0, x1, x2, x3⟩ := HX1.cells4
  have HXB := Lib.hid HX1
  obtain ⟨y0, y1, y2, y3⟩ := (HX1.alloc (.cells #[] 3)).cells4
  have HI := Lib.hid hI
  have HSZ := Lib.hid hsz0
  clear HL E1 hI HX1 hsz0
  go_wp2_with fail
  clear x0 x1 x2 x3 y0 y1 y2 y3
  generalize hw2 : w1.alloc (.cells #[] 3) = w2 at *
  have HE2 := Lib.hid (show Ext w1 w2 by rw [← hw2]; exact (Ext.refl w1).alloc _)
  have HB2 := Lib.hid (show w2.heap.size = w1.heap.size + 1 by rw [← hw2]; exact World.size_alloc _ _)
  clear hw2
  go_loopw [14, 4] (fun i v wr => ∃ (k : Nat), i = .int .i64 k ∧ k ≤ nc ∧ wr.ownsRow (w.heap.size + 1) 3 1 v k (intR ((lc.take k).map CPending.a)) ∧ v ≠ .slice none 0 0 ∧ Ext wz wr) (fun i _ _ => nc - (intOf i).toNat)
  case atStart => exact ⟨0, rfl, Nat.zero_le _, HI.out, by simp, HE1.out.trans HE2.out⟩
  case round =>
    obtain ⟨k, rfl, hk, ho, hv, hE⟩ := hrel
    have HE := Lib.hid hE
    have HNN := Lib.hid hv
    clear hv
    obtain ⟨Av, cav, rfl⟩ := own_slice ho
    by_cases hlt : k < nc
    · have hkl : k < lc.length := by rw [HLc.out]; exact hlt
      obtain ⟨b, o, rfl, hc⟩ := (HRc.out.ext hE).flat CPending.len (by decide) hkl
      have c0 : wr.cell? ⟨b, o + k * 2, none⟩ = some (.int .i64 lc[k].a) := by exact hc 0 _ rfl
      have c1 : wr.cell? ⟨b, o + k * 2 + 1, none⟩ = some (.string lc[k].c) := by rw [Nat.add_assoc]; exact hc 1 _ rfl
      have HT := Lib.hid (show (lc.take (k + 1)).map CPending.a = (lc.take k).map CPending.a ++ [lc[k].a] by rw [List.take_succ_eq_append_getElem hkl, List.map_append]; rfl)
      have hkI : (k : Int) < (nc : Int) := by omega
      have hle : w.heap.size + 1 ≤ wr.heap.size := by have h0 := HSZ.out; have h3 := hE.le; omega
      generalize lc[k] = x at c0 c1 HT hc
      generalize (lc.take k).map CPending.a = r at ho HT
      clear hc hkl hE
      obtain ⟨xa, xc⟩ := x
      dsimp only at c0 c1
      have hrow := own_ext ho (((Ext.refl wr).alloc (.cells #[.int .i64 xa, .string xc] 118)).alloc (.cells #[.int .i64 xa] 3))
      have hnew := Blk.new (wr.alloc (.cells #[.int .i64 xa, .string xc] 118)) 3 [.int .i64 xa]
      rw [World.size_alloc] at hnew
      go_wp2_with (at_builtin; refine wpList_append_own _ rfl (.tmp 18) (.tmp 21) 24 rfl (w.heap.size + 1) 3 i0 (.int .i64 0) 1 8 Try.underlying24 hi hz0 hz1 hz2 rfl (by decide) _ k _ rfl hrow ⟨wr.heap.size + 1, 0, none⟩ 1 1 [.int .i64 xa] rfl rfl (rd_add hnew.rd) (by intro u hu; simp at hu; subst hu; rfl) (by unfold maxLen; omega) (by omega) (by simp; omega) ?_)
      intro v4 w4 ho4 hg4 hv4
      have HO4 := Lib.hid ho4
      have HV4 := Lib.hid hv4
      have E4 := Lib.hid (((HE.out.alloc (.cells #[.int .i64 xa, .string xc] 118)).alloc (.cells #[.int .i64 xa] 3)).grown hg4 (fun i e => by have h1 := own_blk hrow i e; have h2 := HSZ.out; omega))
      clear hrow ho4 hg4 hv4
      go_wp2_with fail
      go_roundw
      case rel => exact ⟨k + 1, by go_num, by omega, (by rw [HT.out, intR, List.map_append]; exact HO4.out), HV4.out, E4.out⟩
      case measure => simp [intOf]; omega
    · have hkn : k = nc := by omega
      subst hkn
      rw [List.take_of_length_le (by rw [HLc.out]; exact Nat.le_refl _)] at ho
      obtain ⟨g, rfl⟩ : ∃ g, Av = some ⟨g, 0, none⟩ := by
        obtain ⟨_, h | ⟨g', cap', cur, h, _⟩⟩ := ho
        · exact absurd h.1 HNN.out
        · injection h with h; exact ⟨g', h⟩
      have hgB : w.heap.size + 1 ≤ g := by
        obtain ⟨_, h | ⟨g', cap', cur, h, hb, _⟩⟩ := ho
        · exact absurd h.1 (by simp)
        · injection h with h; injection h with h; injection h with h; omega
      have HMB := Lib.hid (show (lc.map CPending.a).length = k by rw [List.length_map, HLc.out])
      generalize lc.map CPending.a = l at ho HV HMB
      have HO := Lib.hid ho
      have HEW := Lib.hid (HE0.out.trans HE.out)
      have hkI : ¬ (k : Int) < (k : Int) := by omega
      clear ho hlt hE hk
      go_wp2_with fail
      refine (sort_own g k cav (w.heap.size + 1) l wr HMB.out hgB (by omega) HO.out w HEW.out (by omega)).mono ?_
      rintro e w5 ⟨rfl, O5, E5⟩
      have HO5 := Lib.hid O5
      have HE5 := Lib.hid E5
      have HMB5 := Lib.hid (show (l.mergeSort fun x y => decide (x ≤ y)).length = k by rw [List.length_mergeSort]; exact HMB.out)
      clear O5 E5
      generalize (l.mergeSort fun x y => decide (x ≤ y)) = m at HO5 HMB5 HV
      go_wp2_with fail
      refine (compact_own g k cav (w.heap.size + 1) m w5 HMB5.out hgB (by omega) HO5.out w HE5.out (by omega)).mono ?_
      rintro e w6 ⟨rfl, O6, E6⟩
      have HO6 := Lib.hid O6
      have HE6 := Lib.hid E6
      have HLE := Lib.hid (show (Lib.compact m).length ≤ 1000 by have h1 := Lib.compact_length_le m; have h2 := HMB5.out; omega)
      clear O6 E6
      generalize Lib.compact m = M at HO6 HV HLE ⊢
      go_wp2_with fail
      refine (clone_own g cav (w.heap.size + 1) M w6 HLE.out HO6.out).mono ?_
      rintro e w7 ⟨v7, rfl, O7, E7⟩
      have HO7 := Lib.hid (own_base O7 HE6.out.le)
      have HE7 := Lib.hid (HE6.out.trans E7)
      obtain rfl := HV.out
      clear O7 E7
      go_wp2_with fail
      go_ret2
      exact PdPost.of HC.out HO7.out HE7.out
set_option maxHeartbeats 4000000 in
theorem spec_DiskPending (As : Option Addr) (ns ps : Nat) (Ac : Option Addr) (nc pc : Nat) (ar : Bool) (Ak : Option Addr) (nk pk : Nat) (ls : List ByteArray) (lc : List CPending) (w : World) (hls : ls.length = ns) (hlc : lc.length = nc) (hns : ns ≤ 1099511627776) (hnc : nc ≤ 1099511627776) (hnk : nk ≤ 1099511627776) (hxs : ∀ s ∈ ls, s.size ≤ maxLen) (hxc : ∀ x ∈ lc, x.c.size ≤ maxLen) (hrs : Rd w As (ls.map fun c => Value.string c)) (hrc : Rd w Ac (lc.flatMap CPending.cs)) :
    Calls Try.prog 28 #[.agg #[.slice As ns ps, .slice Ac nc pc, .bool ar, .slice Ak nk pk]] w (PdPost w 3 (pdL ls lc ar nk) (pdC ls lc ar nk)) := by
  have HX := Lib.hid (Blk.new w 26 [.slice As ns ps, .slice Ac nc pc, .bool ar, .slice Ak nk pk])
  have E0 : Ext w (w.alloc (.cells #[.slice As ns ps, .slice Ac nc pc, .bool ar, .slice Ak nk pk] 26)) := (by repeat (first | exact Ext.refl _ | assumption | refine Ext.alloc ?_ _ | refine Ext.drewN ?_ _ | refine Ext.drew ?_ | refine Ext.set ?_ (by dsimp only; omega) _ | refine Ext.trans ?_ (by assumption)))
  have hL := spec_DiskOK As ns ps Ac nc pc ar Ak nk pk ls lc _ hls hlc hns hnc hnk hxs hxc (hrs.ext E0) (hrc.ext E0)
  have hV : pdL ls lc ar nk = if diskB ls lc ar nk then pdUp lc ls.length else [] := rfl
  have hC : pdC ls lc ar nk = if diskB ls lc ar nk then 0 else 1 := rfl
  rw [hls] at hV
  have HN := Lib.hid (fun h => dk_n (ls := ls) (lc := lc) (ar := ar) (nk := nk) h)
  generalize pdL ls lc ar nk = L at hV ⊢
  generalize pdC ls lc ar nk = C at hC ⊢
  have HE0 := Lib.hid E0
  have HRc := Lib.hid (hrc.ext E0)
  have HLc := Lib.hid hlc
  have HLs := Lib.hid hls
  obtain ⟨x0, x1, x2, x3⟩ := HX.out.cells4
  generalize diskB ls lc ar nk = t1 at hL hV hC HN
  have HL := Lib.hid hL
  clear hrs hrc hls hlc hxs hxc E0 hL
  have hsz0 : (w.alloc (.cells #[.slice As ns ps, .slice Ac nc pc, .bool ar, .slice Ak nk pk] 26)).heap.size = w.heap.size + 1 := World.size_alloc _ _
  rcases t1 with _ | _
  · obtain rfl : L = [] := by rw [hV]; rfl
    have HC := Lib.hid (show C = 1 by rw [hC]; rfl)
    clear hV hC
    go_enter Try.func28, Try.ntmps28
    go_wp2_with fail
    refine HL.out.mono ?_
    rintro e w1 ⟨rfl, E1⟩
    have hI := World.ownsRow_lit (base := w.heap.size) (e := 3) (size := 1) w1 #[] 0 (by have := E1.le; omega) (by unfold maxLen; omega) rfl
    have HE1 := Lib.hid ((HE0.out.trans E1).alloc (.cells #[] 3))
    have HI := Lib.hid hI
    clear x0 x1 x2 x3 hI E1 hsz0
    go_wp2_with fail
    go_ret2
    exact PdPost.of HC.out HI.out HE1.out
  obtain ⟨hn1, hn2⟩ := HN.out rfl
  rw [HLc.out] at hn2
  rw [HLs.out] at hn1
  have HV := Lib.hid (show L = pdUp lc ns by rw [hV]; rfl)
  have HC := Lib.hid (show C = 0 by rw [hC]; rfl)
  clear hV hC
  obtain ⟨i0, hi, hz0, hz1, hz2⟩ := info_parts info_IntS
  go_enter Try.func28, Try.ntmps28
  go_wp2_with fail
  generalize w.alloc (.cells #[.slice As ns ps, .slice Ac nc pc, .bool ar, .slice Ak nk pk] 26) = wz at HX HE0 HRc HL x0 x1 x2 x3 hsz0 ⊢
  refine HL.out.mono ?_
  rintro e w1 ⟨rfl, E1⟩
  have HE1 := Lib.hid E1
  have hI := World.ownsRow_lit (base := w.heap.size + 1) (e := 3) (size := 1) w1 #[] 0 (by rw [← hsz0]; exact E1.le) (by unfold maxLen; omega) rfl
  clear x0 x1 x2 x3
  have HI := Lib.hid hI
  have HSZ := Lib.hid hsz0
  clear HL E1 hI hsz0
  go_wp2_with fail
  generalize hw2 : w1.alloc (.cells #[] 3) = w2 at *
  have HE2 := Lib.hid (show Ext w1 w2 by rw [← hw2]; exact (Ext.refl w1).alloc _)
  clear hw2
  go_loopw [5, 4] (fun i v wr => ∃ (k : Nat), i = .int .i64 k ∧ k ≤ ns ∧ wr.ownsRow (w.heap.size + 1) 3 1 v (pdUp lc k).length (intR (pdUp lc k)) ∧ Ext wz wr) (fun i _ _ => ns - (intOf i).toNat)
  case atStart => exact ⟨0, rfl, Nat.zero_le _, HI.out, HE1.out.trans HE2.out⟩
  case round =>
    obtain ⟨k, rfl, hk, ho, hE⟩ := hrel
    have HE := Lib.hid hE
    have hlen := pdUp_len lc k
    have HY := Lib.hid (fun h => pdUp_yes (lc := lc) (k := k) h)
    have HNo := Lib.hid (fun h => pdUp_no (lc := lc) (k := k) h)
    have hXw := HX.out.ext hE
    obtain ⟨x0, x1, x2, x3⟩ := hXw.cells4
    have hle : w.heap.size + 1 ≤ wr.heap.size := by have h0 := HSZ.out; have h3 := hE.le; omega
    by_cases hlt : k < ns
    · have hkI : (k : Int) < (ns : Int) := by omega
      have HRr := Lib.hid (HRc.out.ext hE)
      generalize hrr : pdUp lc k = r at ho HY HNo hlen
      have HRR := Lib.hid hrr
      have HO := Lib.hid ho
      obtain ⟨Av, cav, rfl⟩ := own_slice ho
      clear ho hE hXw hrr
      obtain ⟨wo, rfl⟩ : ∃ wo, wo = wr := ⟨_, rfl⟩
      go_wp2_with fail
      go_loopw [7, 6] (fun j b wr => ∃ q : Nat, j = .int .i64 q ∧ q ≤ nc ∧ b = .bool (anyP (lc.take q) (k : Int)) ∧ wr = wo) (fun j _ _ => nc - (intOf j).toNat)
      case atStart => exact ⟨0, rfl, Nat.zero_le _, rfl, rfl⟩
      case round =>
        obtain ⟨q, rfl, hq, rfl, rfl⟩ := hrel
        by_cases hql : q < nc
        · have hqc : q < lc.length := by rw [HLc.out]; exact hql
          obtain ⟨b, o, rfl, hc⟩ := HRr.out.flat CPending.len (by decide) hqc
          have c0 : wr.cell? ⟨b, o + q * 2, none⟩ = some (.int .i64 lc[q].a) := by exact hc 0 _ rfl
          have HT := Lib.hid (anyP_step (k : Int) hqc)
          have hqI : (q : Int) < (nc : Int) := by omega
          generalize lc[q] = x at c0 HT hc
          clear hc hqc
          obtain ⟨xa, xc⟩ := x
          dsimp only at c0
          generalize anyP (lc.take q) (k : Int) = t at HT ⊢
          rcases t with _ | _
          · have HF := Lib.hid (show anyP (lc.take (q + 1)) (k : Int) = (xa == (k : Int)) by rw [HT.out]; rfl)
            clear HT
            rcases e1 : (xa == (k : Int)) with _ | _
            · have HG := Lib.hid (show anyP (lc.take (q + 1)) (k : Int) = false by rw [HF.out, e1])
              clear HF
              go_wp2_with fail
              go_roundw
              case rel => exact ⟨q + 1, by go_num, by omega, by rw [HG.out], by first | trivial | rfl⟩
              case measure => simp [intOf]; omega
            · have HG := Lib.hid (show anyP (lc.take (q + 1)) (k : Int) = true by rw [HF.out, e1])
              clear HF
              go_wp2_with fail
              go_roundw
              case rel => exact ⟨q + 1, by go_num, by omega, by rw [HG.out], by first | trivial | rfl⟩
              case measure => simp [intOf]; omega
          · have HG := Lib.hid (show anyP (lc.take (q + 1)) (k : Int) = true by rw [HT.out]; rfl)
            clear HT
            go_wp2_with fail
            go_roundw
            case rel => exact ⟨q + 1, by go_num, by omega, by rw [HG.out], by first | trivial | rfl⟩
            case measure => simp [intOf]; omega
        · have hqn : q = nc := by omega
          subst hqn
          have hqI : ¬ (q : Int) < (q : Int) := by omega
          rw [List.take_of_length_le (by rw [HLc.out]; exact Nat.le_refl _)]
          generalize anyP lc (k : Int) = t at HY HNo ⊢
          rcases t with _ | _
          · have HR2 := Lib.hid (HNo.out rfl)
            clear HY HNo
            go_wp2_with fail
            go_roundw
            case rel => exact ⟨k + 1, by go_num, by omega, (by rw [HR2.out]; exact HO.out), HE.out⟩
            case measure => simp [intOf]; omega
          · have HR2 := Lib.hid (HY.out rfl)
            clear HY HNo
            have hrow := own_ext HO.out ((Ext.refl wr).alloc (.cells #[.int .i64 (k : Int)] 3))
            have hnew := Blk.new wr 3 [.int .i64 (k : Int)]
            go_wp2_with (at_builtin; refine wpList_append_own _ rfl (.tmp 39) (.tmp 41) 24 rfl (w.heap.size + 1) 3 i0 (.int .i64 0) 1 8 Try.underlying24 hi hz0 hz1 hz2 rfl (by decide) _ r.length _ rfl hrow ⟨wr.heap.size, 0, none⟩ 1 1 [.int .i64 (k : Int)] rfl rfl (rd_add hnew.rd) (by intro u hu; simp at hu; subst hu; rfl) (by unfold maxLen; omega) (by omega) (by simp; omega) ?_)
            intro v4 w4 ho4 hg4 hv4
            have HO4 := Lib.hid ho4
            have E4 := Lib.hid ((HE.out.alloc (.cells #[.int .i64 (k : Int)] 3)).grown hg4 (fun i e => by have h1 := own_blk hrow i e; have h2 := HSZ.out; omega))
            clear hrow hnew ho4 hg4 hv4
            go_wp2_with fail
            go_roundw
            case rel => exact ⟨k + 1, by go_num, by omega, (by rw [HR2.out, List.length_append, intR, List.map_append]; exact HO4.out), E4.out⟩
            case measure => simp [intOf]; omega
    · have hkn : k = ns := by omega
      subst hkn
      have hkI : ¬ (k : Int) < (k : Int) := by omega
      have HO := Lib.hid (own_base ho (show w.heap.size ≤ w.heap.size + 1 by omega))
      obtain ⟨Av, cav, rfl⟩ := own_slice ho
      have HEW := Lib.hid (HE0.out.trans HE.out)
      have hv := HV.out
      clear HV ho hE hXw
      generalize pdUp lc k = r at HO hv
      have HVV := Lib.hid hv
      clear hv
      go_wp2_with fail
      go_ret2
      rw [HVV.out]
      exact PdPost.of HC.out HO.out HEW.out
end Go.Proofs.Ytnbfjkebakaigaa
