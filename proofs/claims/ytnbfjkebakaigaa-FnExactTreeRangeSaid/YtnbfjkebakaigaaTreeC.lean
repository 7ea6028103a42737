/- The walks of the laws' helpers over trees. -/
import Derived.Test.YtnbfjkebakaigaaTreeP
import Derived.Test.YtnbfjkebakaigaaCompTreeNode
import Derived.Test.YtnbfjkebakaigaaFlat
namespace Go.Proofs.Ytnbfjkebakaigaa
open Go.RowKit Go.Deep
set_option linter.unusedVariables false
set_option maxRecDepth 100000
/-- a node in memory: what it holds and where -/
structure XNode where
  lf : Bool
  ks : List ByteArray
  ds : List Int
  Ak : Option Addr
  pk : Nat
  Ai : Option Addr
  pi : Nat
abbrev XNode.ck (x : XNode) : List Value := x.ks.map fun c => Value.string c
abbrev XNode.ci (x : XNode) : List Value := x.ds.map fun c => Value.int .i64 c
def XNode.cs (x : XNode) : List Value := [.bool x.lf, .slice x.Ak x.ks.length x.pk, .slice x.Ai x.ds.length x.pi]
theorem XNode.len (x : XNode) : x.cs.length = 3 := rfl
def XNode.c (x : XNode) : CNode := ⟨x.lf, x.ks, x.ds⟩
theorem XNode.c_eq {x y : XNode} (h : x.c = y.c) : x.lf = y.lf ∧ x.ks = y.ks ∧ x.ds = y.ds := by
  unfold XNode.c at h; injection h with h1 h2 h3; exact ⟨h1, h2, h3⟩
/-- its keys and kids can be read -/
def XOk (w : World) (x : XNode) : Prop := Rd w x.Ak x.ck ∧ Rd w x.Ai x.ci
theorem XOk.ext {w w' : World} {x : XNode} (h : XOk w x) (E : Ext w w') : XOk w' x := ⟨h.1.ext E, h.2.ext E⟩
/-- a slice of nodes -/
def NsR (w : World) (A : Option Addr) (l : List XNode) : Prop := Rd w A (l.flatMap XNode.cs) ∧ ∀ x ∈ l, XOk w x
theorem NsR.ext {w w' : World} {A : Option Addr} {l : List XNode} (h : NsR w A l) (E : Ext w w') : NsR w' A l := ⟨h.1.ext E, fun x hx => (h.2 x hx).ext E⟩
def XNode.gu (x : XNode) : Nat := match x.Ak with | some a => a.block | none => 0
def XNode.gd (x : XNode) : Nat := match x.Ai with | some a => a.block | none => 0
/-- a node whose keys and kids lie in blocks of their own -/
structure XOwn (w : World) (TS TI : TypeId) (B : Nat) (x : XNode) : Prop where
  hk : x.Ak = some ⟨x.gu, 0, none⟩
  hi : x.Ai = some ⟨x.gd, 0, none⟩
  bk : B ≤ x.gu
  bi : B ≤ x.gd
  Bk : Blk w x.gu TS x.ck
  Bi : Blk w x.gd TI x.ci
theorem XOwn.ok {w : World} {TS TI : TypeId} {B : Nat} {x : XNode} (h : XOwn w TS TI B x) : XOk w x := ⟨by rw [h.hk]; exact h.Bk.rd, by rw [h.hi]; exact h.Bi.rd⟩
theorem XOwn.ext {w w' : World} {TS TI : TypeId} {B : Nat} {x : XNode} (h : XOwn w TS TI B x) (E : Ext w w') : XOwn w' TS TI B x := ⟨h.hk, h.hi, h.bk, h.bi, h.Bk.ext E, h.Bi.ext E⟩
theorem XOwn.far {w : World} {TS TI : TypeId} {B : Nat} {x : XNode} (h : XOwn w TS TI B x) {p : Addr} (hp : p.block < B) (u : Value) : XOwn (w.setCell p u) TS TI B x :=
  ⟨h.hk, h.hi, h.bk, h.bi, h.Bk.far (by have := h.bk; omega) u, h.Bi.far (by have := h.bi; omega) u⟩
abbrev XLt (x y : XNode) : Prop := x.gu < y.gu ∧ x.gd < y.gd
/-- how much is in a tree -/
def xTot (l : List XNode) : Nat := (l.map fun x => 1 + x.ks.length + x.ds.length).sum
theorem xTot_succ {l : List XNode} {k : Nat} (hk : k < l.length) : xTot (l.take (k + 1)) = xTot (l.take k) + (1 + l[k].ks.length + l[k].ds.length) := by
  unfold xTot; rw [List.take_succ_eq_append_getElem hk, List.map_append, List.sum_append]; simp
/-- what is left when so much has been measured -/
def SzT (w : World) (left : Int) (tot : Nat) (e : Ending) (w' : World) : Prop := ∃ v : Int, e = .returned (.int .i64 v) ∧ -1 ≤ v ∧ v ≤ left ∧ (0 ≤ v → v + (tot : Int) ≤ left) ∧ Ext w w'
theorem szStringS_t (A : Option Addr) (n cp : Nat) (l : List ByteArray) (left : Int) (w : World) (hl : l.length = n) (hn : n ≤ 9223372036854775807) (h0 : 0 ≤ left) (h1 : left ≤ 1048576) (hx : ∀ s ∈ l, s.size ≤ maxLen) (hr : Rd w A (l.map fun c => Value.string c)) :
    Calls Try.prog 70 #[.slice A n cp, .int .i64 left] w (SzT w left n) := by
  have HL := Lib.hid hl
  have HX := Lib.hid hx
  clear hl hx
  by_cases hb : left < (n : Int)
  · have d : decide (left - (n : Int) < 0) = true := decide_eq_true (by omega)
    go_enter Try.func70, Try.ntmps70
    go_wp2
    go_ret
    exact ⟨-1, rfl, by omega, by omega, fun h => by omega, Ext.refl _⟩
  · have d : decide (left - (n : Int) < 0) = false := decide_eq_false (by omega)
    go_enter Try.func70, Try.ntmps70
    go_wp2
    clear d
    go_loop [5, 1] (fun i t => ∃ (k : Nat) (L : Int), k ≤ n ∧ i = .int .i64 k ∧ t = .int .i64 L ∧ 0 ≤ L ∧ L + (n : Int) ≤ left) (fun i _ => n - (intOf i).toNat)
    case atStart => exact ⟨0, _, Nat.zero_le _, rfl, rfl, by omega, by omega⟩
    case round =>
      obtain ⟨k, L, hk, rfl, rfl, hL0, hL1⟩ := hrel
      by_cases hlt : k < n
      · have hkl : k < l.length := by rw [HL.out]; exact hlt
        obtain ⟨b, o, rfl, hc⟩ := hr.map_ hkl
        have hm := HX.out _ (List.getElem_mem hkl)
        unfold maxLen at hm
        by_cases hb2 : L < (l[k].size : Int)
        · have d : decide (L - (l[k].size : Int) < 0) = true := decide_eq_true (by omega)
          go_wp2
          go_ret
          exact ⟨-1, rfl, by omega, by omega, fun h => by omega, Ext.refl _⟩
        · have d : decide (L - (l[k].size : Int) < 0) = false := decide_eq_false (by omega)
          go_wp2
          go_round
          case rel => exact ⟨k + 1, _, by omega, by go_num, rfl, by omega, by omega⟩
          case measure => simp [intOf]; omega
      · have hk2 : k = n := by omega
        subst hk2
        go_wp2
        go_ret
        exact ⟨L, rfl, by omega, by omega, fun _ => hL1, Ext.refl _⟩
theorem szIntS_t (A : Option Addr) (n cp : Nat) (left : Int) (w : World) (hn : n ≤ 9223372036854775807) (h0 : 0 ≤ left) (h1 : left ≤ 1048576) :
    Calls Try.prog 72 #[.slice A n cp, .int .i64 left] w (SzT w left n) := by
  by_cases hb : left < (n : Int)
  · have d : decide (left - (n : Int) < 0) = true := decide_eq_true (by omega)
    go_enter Try.func72, Try.ntmps72
    go_wp2
    go_ret
    exact ⟨-1, rfl, by omega, by omega, fun h => by omega, Ext.refl _⟩
  · have d : decide (left - (n : Int) < 0) = false := decide_eq_false (by omega)
    go_enter Try.func72, Try.ntmps72
    go_wp2
    go_ret
    exact ⟨left - n, rfl, by omega, by omega, fun _ => by omega, Ext.refl _⟩
theorem szTreeNode_t (lf : Bool) (Au : Option Addr) (nu pu : Nat) (Ad : Option Addr) (nd pd : Nat) (lu : List ByteArray) (left : Int) (w : World) (hlu : lu.length = nu) (hnu : nu ≤ 9223372036854775807) (hnd : nd ≤ 9223372036854775807) (h0 : 0 ≤ left) (h1 : left ≤ 1048576) (hxu : ∀ s ∈ lu, s.size ≤ maxLen) (hru : Rd w Au (lu.map fun c => Value.string c)) :
    Calls Try.prog 160 #[.agg #[.bool lf, .slice Au nu pu, .slice Ad nd pd], .int .i64 left] w (SzT w left (nu + nd)) := by
  have HLu := Lib.hid hlu
  have HXu := Lib.hid hxu
  have HRu := Lib.hid hru
  have HB := Lib.hid (Blk.new w 192 [.bool lf, .slice Au nu pu, .slice Ad nd pd])
  clear hlu hru hxu
  go_enter Try.func160, Try.ntmps160
  go_wp2_with fail
  refine (szStringS_t Au nu pu lu left _ HLu.out hnu (by omega) (by omega) HXu.out (HRu.out.ext (by repeat (first | exact Ext.refl _ | assumption | refine Ext.alloc ?_ _ | refine Ext.drewN ?_ _ | refine Ext.drew ?_ | refine Ext.set ?_ (by dsimp only; omega) _ | refine Ext.trans ?_ (by assumption))))).mono ?_
  rintro e w0 ⟨v0, rfl, g0, i0, hG0, E0⟩
  by_cases hv0 : v0 < 0
  · go_wp2_with fail
    go_ret
    exact ⟨-1, rfl, by omega, by omega, fun h => by omega, (by repeat (first | exact Ext.refl _ | assumption | refine Ext.alloc ?_ _ | refine Ext.drewN ?_ _ | refine Ext.drew ?_ | refine Ext.set ?_ (by dsimp only; omega) _ | refine Ext.trans ?_ (by assumption)))⟩
  obtain ⟨z0, z1, z2⟩ := (HB.out.ext E0).cells3
  have hG1 := hG0 (by omega)
  clear hG0
  go_wp2_with fail
  refine (szIntS_t Ad nd pd v0 _ hnd (by omega) (by omega)).mono ?_
  rintro e w2 ⟨v2, rfl, g2, i2, hG2, E2⟩
  by_cases hv2 : v2 < 0
  · go_wp2_with fail
    go_ret
    exact ⟨-1, rfl, by omega, by omega, fun h => by omega, (by repeat (first | exact Ext.refl _ | assumption | refine Ext.alloc ?_ _ | refine Ext.drewN ?_ _ | refine Ext.drew ?_ | refine Ext.set ?_ (by dsimp only; omega) _ | refine Ext.trans ?_ (by assumption)))⟩
  have hG3 := hG2 (by omega)
  clear z0 z1 z2 hG2
  go_wp2_with fail
  go_ret
  exact ⟨v2, rfl, by omega, by omega, fun _ => by push_cast; omega, (by repeat (first | exact Ext.refl _ | assumption | refine Ext.alloc ?_ _ | refine Ext.drewN ?_ _ | refine Ext.drew ?_ | refine Ext.set ?_ (by dsimp only; omega) _ | refine Ext.trans ?_ (by assumption)))⟩
set_option maxHeartbeats 1000000 in
theorem szTreeNodeS_t (A : Option Addr) (n cp : Nat) (l : List XNode) (left : Int) (w : World) (hl : l.length = n) (hn : n ≤ 9223372036854775807) (h0 : 0 ≤ left) (h1 : left ≤ 1048576) (hx : ∀ x ∈ l, (∀ s ∈ x.ks, s.size ≤ maxLen) ∧ x.ks.length ≤ maxLen ∧ x.ds.length ≤ maxLen) (hr : NsR w A l) :
    Calls Try.prog 119 #[.slice A n cp, .int .i64 left] w (SzT w left (xTot l)) := by
  have HL := Lib.hid hl
  have HX := Lib.hid hx
  have HR := Lib.hid hr
  clear hl hx hr
  by_cases hb : left < (n : Int)
  · have d : decide (left - (n : Int) < 0) = true := decide_eq_true (by omega)
    go_enter Try.func119, Try.ntmps119
    go_wp2
    go_ret
    exact ⟨-1, rfl, by omega, by omega, fun h => by omega, Ext.refl _⟩
  · have d : decide (left - (n : Int) < 0) = false := decide_eq_false (by omega)
    go_enter Try.func119, Try.ntmps119
    go_wp2
    clear d
    go_loopw [5, 1] (fun i t wr => ∃ (k : Nat) (L : Int), k ≤ n ∧ i = .int .i64 k ∧ t = .int .i64 L ∧ 0 ≤ L ∧ L + (n : Int) - (k : Int) + (xTot (l.take k) : Int) ≤ left ∧ Ext w wr) (fun i _ _ => n - (intOf i).toNat)
    case atStart => exact ⟨0, _, Nat.zero_le _, rfl, rfl, by omega, by simp [xTot], Ext.refl _⟩
    case round =>
      obtain ⟨k, L, hk, rfl, rfl, hL0, hL1, hE⟩ := hrel
      by_cases hlt : k < n
      · have hkl : k < l.length := by rw [HL.out]; exact hlt
        obtain ⟨b, o, rfl, hc⟩ := (HR.out.1.ext hE).flat XNode.len (by decide) hkl
        have c0 : wr.cell? ⟨b, o + k * 3, none⟩ = some (.bool l[k].lf) := by exact hc 0 _ rfl
        have c1 : wr.cell? ⟨b, o + k * 3 + 1, none⟩ = some (.slice l[k].Ak l[k].ks.length l[k].pk) := by rw [Nat.add_assoc]; exact hc 1 _ rfl
        have c2 : wr.cell? ⟨b, o + k * 3 + 2, none⟩ = some (.slice l[k].Ai l[k].ds.length l[k].pi) := by rw [Nat.add_assoc]; exact hc 2 _ rfl
        have hm := HX.out _ (List.getElem_mem hkl)
        have hok := (HR.out.2 _ (List.getElem_mem hkl)).ext hE
        have hts := xTot_succ hkl
        clear hc
        generalize l[k] = x at c0 c1 c2 hm hok hts
        have hm2 := hm.2
        unfold maxLen at hm2
        have HZ := Lib.hid (szTreeNode_t x.lf x.Ak x.ks.length x.pk x.Ai x.ds.length x.pi x.ks L wr rfl (by omega) (by omega) (by omega) (by omega) hm.1 hok.1)
        clear hm hok
        have hxT : (0 : Int) ≤ (xTot (l.take k) : Int) := by omega
        have HTS := Lib.hid hts
        clear hts hkl
        go_wp2_with fail
        refine HZ.out.mono ?_
        rintro e w1 ⟨v, rfl, g1, i1, hG, E1⟩
        by_cases hv : v < 0
        · go_wp2_with fail
          go_ret
          exact ⟨-1, rfl, by omega, by omega, fun h => by omega, hE.trans E1⟩
        have hG1 := hG (by omega)
        clear hG c0 c1 c2
        go_wp2_with fail
        go_roundw
        case rel => exact ⟨k + 1, _, by omega, by go_num, rfl, by omega, (by rw [HTS.out]; push_cast at *; omega), hE.trans E1⟩
        case measure => simp [intOf]; omega
      · have hk2 : k = n := by omega
        subst hk2
        have HT := Lib.hid (show l.take k = l by rw [List.take_of_length_le (by rw [HL.out]; exact Nat.le_refl _)])
        rw [HT.out] at hL1
        go_wp2_with fail
        go_ret
        exact ⟨L, rfl, by omega, by omega, fun _ => by omega, hE⟩
theorem info_TreeNode : (Try.prog.info? 193).map (fun i => (i.zero, i.size, i.bytes)) = some (some (Value.agg #[.bool false, .slice none 0 0, .slice none 0 0]), 3, 56) := by kernel_rfl
/-- nodes in memory of their own -/
def FreshNs (w : World) (TN TS TI : TypeId) (n : Nat) (l : List XNode) (e : Ending) (w' : World) : Prop :=
  ∃ l' : List XNode, e = .returned (.slice (some ⟨w.heap.size, 0, none⟩) n n) ∧ Blk w' w.heap.size TN (l'.flatMap XNode.cs) ∧ l'.map XNode.c = l.map XNode.c ∧ (∀ x ∈ l', XOwn w' TS TI (w.heap.size + 1) x) ∧ l'.Pairwise XLt ∧ Ext w w'
theorem cs_step {l' : List XNode} {x : XNode} {c : List Value} : l'.flatMap XNode.cs ++ ([.bool x.lf, .slice x.Ak x.ks.length x.pk, .slice x.Ai x.ds.length x.pi] ++ c) = (l' ++ [x]).flatMap XNode.cs ++ c := by
  rw [List.flatMap_append, List.append_assoc]; simp [XNode.cs]
theorem rep_head {z : List Value} {k n : Nat} (h : k < n) : (List.replicate (n - k) z).flatten = z ++ (List.replicate (n - (k + 1)) z).flatten := by
  obtain ⟨q, hq⟩ : ∃ q, n - k = q + 1 := ⟨n - k - 1, by omega⟩
  rw [hq, show n - (k + 1) = q from by omega, List.replicate_succ, List.flatten_cons]
set_option maxHeartbeats 2000000 in
theorem toTreeNodeS_any (A : Option Addr) (n cp : Nat) (l : List XNode) (w : World) (hl : l.length = n) (hn : n ≤ 1099511627776) (hx : ∀ x ∈ l, x.ks.length ≤ 1099511627776 ∧ x.ds.length ≤ 1099511627776) (hr : NsR w A l) :
    Calls Try.prog 122 #[.slice A n cp] w (FreshNs w 193 9 3 n l) := by
  have HL := Lib.hid hl
  have HX := Lib.hid hx
  have HR := Lib.hid hr
  clear hl hx hr
  have hmk := run_make_rowF (P := Try.prog) 87 193 (Value.agg #[.bool false, .slice none 0 0, .slice none 0 0]) #[.bool false, .slice none 0 0, .slice none 0 0] 3 56 rfl Try.underlying87 info_TreeNode n (by omega) (by omega)
  go_enter Try.func122, Try.ntmps122
  go_wp2_with fail
  clear hmk
  go_loopw [4] (fun i wr => ∃ (k : Nat) (l' : List XNode), k ≤ n ∧ i = .int .i64 k ∧ l'.length = k ∧ Blk wr w.heap.size 193 (l'.flatMap XNode.cs ++ (List.replicate (n - k) [.bool false, .slice none 0 0, .slice none 0 0]).flatten) ∧ l'.map XNode.c = (l.take k).map XNode.c ∧ (∀ x ∈ l', XOwn wr 9 3 (w.heap.size + 1) x) ∧ l'.Pairwise XLt ∧ Ext w wr) (fun i _ => n - (intOf i).toNat)
  case atStart => exact ⟨0, [], Nat.zero_le _, rfl, rfl, (Blk.madeF w _ _ n _ rfl).of_eq (by simp), by simp, by simp, List.Pairwise.nil, (Ext.refl _).alloc _⟩
  case round =>
    obtain ⟨k, l', hk, rfl, hll, hB, hcc, hO, hP, hE⟩ := hrel
    have HB := Lib.hid hB
    have HCC := Lib.hid hcc
    have HO := Lib.hid hO
    have HP := Lib.hid hP
    have HLL := Lib.hid hll
    clear hB hcc hO hP hll
    by_cases hlt : k < n
    · have hkl : k < l.length := by rw [HL.out]; exact hlt
      obtain ⟨b, o, rfl, hc⟩ := (HR.out.1.ext hE).flat XNode.len (by decide) hkl
      have c0 : wr.cell? ⟨b, o + k * 3, none⟩ = some (.bool l[k].lf) := by exact hc 0 _ rfl
      have c1 : wr.cell? ⟨b, o + k * 3 + 1, none⟩ = some (.slice l[k].Ak l[k].ks.length l[k].pk) := by rw [Nat.add_assoc]; exact hc 1 _ rfl
      have c2 : wr.cell? ⟨b, o + k * 3 + 2, none⟩ = some (.slice l[k].Ai l[k].ds.length l[k].pi) := by rw [Nat.add_assoc]; exact hc 2 _ rfl
      have hm := HX.out _ (List.getElem_mem hkl)
      have hok := (HR.out.2 _ (List.getElem_mem hkl)).ext hE
      have HTK := Lib.hid (show (l.take (k + 1)).map XNode.c = (l.take k).map XNode.c ++ [l[k].c] by rw [List.take_succ_eq_append_getElem hkl, List.map_append]; rfl)
      clear hc
      generalize l[k] = x at c0 c1 c2 hm hok HTK
      have HZ := Lib.hid (toTreeNode_any x.lf x.Ak x.ks.length x.pk x.Ai x.ds.length x.pi x.ks x.ds wr rfl rfl hm.1 hm.2 hok.1 hok.2)
      clear hm hok
      go_wp2_with fail
      refine HZ.out.mono ?_
      rintro e w1 ⟨bu, bd, rfl, hbu, Bu, hbd, Bd, E1⟩
      have hle : w.heap.size + 1 ≤ wr.heap.size := HB.out.lt
      have HB1 := Lib.hid ((HB.out.ext E1).of_eq (by rw [rep_head hlt]))
      have HPL := Lib.hid (show (l'.flatMap XNode.cs).length = k * 3 by rw [flat_len XNode.len, HLL.out])
      have d0 : w1.cell? ⟨w.heap.size, k * 3, none⟩ = some (.bool false) := Blk.mid HB1.out HPL.out (j := 0) (by decide)
      have d1 : w1.cell? ⟨w.heap.size, k * 3 + 1, none⟩ = some (.slice none 0 0) := Blk.mid HB1.out HPL.out (j := 1) (by decide)
      have d2 : w1.cell? ⟨w.heap.size, k * 3 + 2, none⟩ = some (.slice none 0 0) := Blk.mid HB1.out HPL.out (j := 2) (by decide)
      have f0 := HB1.out.frozen (k * 3)
      have f1 := HB1.out.frozen (k * 3 + 1)
      have f2 := HB1.out.frozen (k * 3 + 2)
      have HN := Lib.hid (show XOwn w1 9 3 (w.heap.size + 1) ⟨x.lf, x.ks, x.ds, some ⟨bu, 0, none⟩, x.ks.length, some ⟨bd, 0, none⟩, x.ds.length⟩ from ⟨rfl, rfl, by show _ ≤ bu; omega, by show _ ≤ bd; omega, Bu, Bd⟩)
      have HO1 := Lib.hid (fun y (hy : y ∈ l') => (HO.out y hy).ext E1)
      have HLT := Lib.hid (fun y (hy : y ∈ l') => (show y.gu < bu ∧ y.gd < bd from ⟨Nat.lt_of_lt_of_le (HO.out y hy).Bk.lt hbu, Nat.lt_of_lt_of_le (HO.out y hy).Bi.lt hbd⟩))
      clear c0 c1 c2 Bu Bd
      go_wp2_with fail
      go_roundw
      case rel => exact ⟨k + 1, l' ++ [⟨x.lf, x.ks, x.ds, some ⟨bu, 0, none⟩, x.ks.length, some ⟨bd, 0, none⟩, x.ds.length⟩], by omega, by go_num, (by rw [List.length_append, HLL.out]; rfl),
        (Blk.setMid (Blk.setMid (Blk.setMid HB1.out HPL.out (j := 0) (by decide) _) HPL.out (j := 1) (by simp) _) HPL.out (j := 2) (by simp) _).of_eq (by rw [← cs_step]; rfl),
        (by rw [List.map_append, HCC.out, HTK.out]; rfl),
        (fun y hy => by
          rcases List.mem_append.1 hy with h | h
          · exact (((HO1.out y h).far (Nat.lt_succ_self _) _).far (Nat.lt_succ_self _) _).far (Nat.lt_succ_self _) _
          · rw [List.mem_singleton] at h; subst h
            exact ((HN.out.far (Nat.lt_succ_self _) _).far (Nat.lt_succ_self _) _).far (Nat.lt_succ_self _) _),
        (by rw [List.pairwise_append]; exact ⟨HP.out, List.pairwise_singleton _ _, fun y hy z hz => by rw [List.mem_singleton] at hz; subst hz; exact HLT.out y hy⟩),
        (Ext.set (Ext.set (Ext.set (hE.trans E1) (Nat.le_refl _) _) (Nat.le_refl _) _) (Nat.le_refl _) _)⟩
      case measure => simp [intOf]; omega
    · have hk2 : k = n := by omega
      subst hk2
      have HBB := Lib.hid (show Blk wr w.heap.size 193 (l'.flatMap XNode.cs) from HB.out.of_eq (by rw [Nat.sub_self]; simp))
      have HC2 := Lib.hid (show l'.map XNode.c = l.map XNode.c by rw [HCC.out, List.take_of_length_le (by rw [HL.out]; exact Nat.le_refl _)])
      go_wp2_with fail
      go_ret
      exact ⟨l', rfl, HBB.out, HC2.out, HO.out, HP.out, hE⟩
set_option maxHeartbeats 2000000 in
theorem eqTreeNodeS_same (A A' : Option Addr) (n cp cp' : Nat) (l l' : List XNode) (w : World) (hl : l.length = n) (hll : l.map XNode.c = l'.map XNode.c) (hn : n ≤ 1099511627776) (hx : ∀ x ∈ l, x.ks.length ≤ 1099511627776 ∧ x.ds.length ≤ 1099511627776) (hr : NsR w A l) (hr' : NsR w A' l') :
    Calls Try.prog 125 #[.slice A n cp, .slice A' n cp'] w fun e w' => e = .returned (.bool true) ∧ Ext w w' := by
  have hl' : l'.length = n := by have := congrArg List.length hll; simp at this; omega
  have HL := Lib.hid hl
  have HL' := Lib.hid hl'
  have HLL := Lib.hid hll
  have HX := Lib.hid hx
  have HR := Lib.hid hr
  have HR' := Lib.hid hr'
  clear hl hl' hll hx hr hr'
  go_enter Try.func125, Try.ntmps125
  go_wp2_with fail
  go_loopw [5] (fun i wr => ∃ k : Nat, k ≤ n ∧ i = .int .i64 k ∧ Ext w wr) (fun i _ => n - (intOf i).toNat)
  case atStart => exact ⟨0, Nat.zero_le _, rfl, Ext.refl _⟩
  case round =>
    obtain ⟨k, hk, rfl, hE⟩ := hrel
    by_cases hlt : k < n
    · have hkl : k < l.length := by rw [HL.out]; exact hlt
      have hkl' : k < l'.length := by rw [HL'.out]; exact hlt
      obtain ⟨b, o, rfl, hc⟩ := (HR.out.1.ext hE).flat XNode.len (by decide) hkl
      have c0 : wr.cell? ⟨b, o + k * 3, none⟩ = some (.bool l[k].lf) := by exact hc 0 _ rfl
      have c1 : wr.cell? ⟨b, o + k * 3 + 1, none⟩ = some (.slice l[k].Ak l[k].ks.length l[k].pk) := by rw [Nat.add_assoc]; exact hc 1 _ rfl
      have c2 : wr.cell? ⟨b, o + k * 3 + 2, none⟩ = some (.slice l[k].Ai l[k].ds.length l[k].pi) := by rw [Nat.add_assoc]; exact hc 2 _ rfl
      obtain ⟨b', o', rfl, hc'⟩ := (HR'.out.1.ext hE).flat XNode.len (by decide) hkl'
      have d0 : wr.cell? ⟨b', o' + k * 3, none⟩ = some (.bool l'[k].lf) := by exact hc' 0 _ rfl
      have d1 : wr.cell? ⟨b', o' + k * 3 + 1, none⟩ = some (.slice l'[k].Ak l'[k].ks.length l'[k].pk) := by rw [Nat.add_assoc]; exact hc' 1 _ rfl
      have d2 : wr.cell? ⟨b', o' + k * 3 + 2, none⟩ = some (.slice l'[k].Ai l'[k].ds.length l'[k].pi) := by rw [Nat.add_assoc]; exact hc' 2 _ rfl
      have hm := HX.out _ (List.getElem_mem hkl)
      have hok := (HR.out.2 _ (List.getElem_mem hkl)).ext hE
      have hok' := (HR'.out.2 _ (List.getElem_mem hkl')).ext hE
      have hcc : l[k].c = l'[k].c := by
        have h := HLL.out
        have h2 : (l.map XNode.c)[k]? = (l'.map XNode.c)[k]? := by rw [h]
        rw [List.getElem?_map, List.getElem?_map, List.getElem?_eq_getElem hkl, List.getElem?_eq_getElem hkl'] at h2
        exact Option.some.inj h2
      clear hc hc'
      generalize l[k] = x at c0 c1 c2 hm hok hcc
      generalize l'[k] = y at d0 d1 d2 hok' hcc
      obtain ⟨lf, ks, ds, Ak, pk, Ai, pi⟩ := x
      obtain ⟨lf', ks', ds', Ak', pk', Ai', pi'⟩ := y
      obtain ⟨rfl, rfl, rfl⟩ := XNode.c_eq hcc
      dsimp only at c0 c1 c2 d0 d1 d2 hm
      have HZ := Lib.hid (fun W (E : Ext wr W) => eqTreeNode_same lf Ak Ak' ks.length pk pk' Ai Ai' ds.length pi pi' ks ds W rfl rfl hm.1 hm.2 (hok.1.ext E) (hok.2.ext E) (hok'.1.ext E) (hok'.2.ext E))
      clear hm hok hok' hcc
      have hlt2 : (k : Int) < (n : Int) := by omega
      have C0 := Gr.cell c0
      have C1 := Gr.cell c1
      have C2 := Gr.cell c2
      have D0 := Gr.cell d0
      have D1 := Gr.cell d1
      have D2 := Gr.cell d2
      go_wp2_with fail
      (refine wp_region_gr (by kernel_rfl) (by kernel_rfl) ?_; (repeat (first | go_big_quiet_skip | (go_big_quiet_want; go_big_quiet_op; first | go_big_quiet_on | (apply Exists.intro; refine ⟨fun _ => ?_, ?_⟩; (focus ((go_at_call 166; exact Calls.gr (HZ.out _ (Gr.ext _))))); go_big_quiet_on)))); refine wpQuiet_nil ?_)
      rintro ⟨w1, E1⟩
      clear C0 C1 C2 D0 D1 D2 c0 c1 c2 d0 d1 d2
      go_wp2_with fail
      go_roundw
      case rel => exact ⟨k + 1, by omega, by go_num, (by repeat (first | exact Ext.refl _ | assumption | refine Ext.alloc ?_ _ | refine Ext.drewN ?_ _ | refine Ext.drew ?_ | refine Ext.set ?_ (by dsimp only; omega) _ | refine Ext.trans ?_ (by assumption)))⟩
      case measure => simp [intOf]; omega
    · have hlt2 : ¬ (k : Int) < (n : Int) := by omega
      go_wp2_with fail
      go_ret
      exact ⟨rfl, hE⟩
end Go.Proofs.Ytnbfjkebakaigaa
