/- TreeFind: both sides. -/
import Derived.Test.YtnbfjkebakaigaaTreeQ
import Derived.Test.YtnbfjkebakaigaaIsLong
import Derived.Shelf.Lay
import Derived.Shelf.Spec.SearchS
import Derived.Ground.Names2Prog
import Derived.Sort.Walk0
import Derived.Test.YtnbfjkebakaigaaShF
namespace Go.Proofs.Ytnbfjkebakaigaa
open Go.RowKit Go.Deep
set_option linter.unusedVariables false
set_option maxRecDepth 100000
abbrev lsB (x y : ByteArray) : Bool := Op.bytesLess x.toList y.toList
theorem lsB_trans {x y z : ByteArray} (h : lsB x y = true) (h2 : lsB y z = true) : lsB x z = true := by
  unfold lsB at *
  rw [bytesLess_eq, decide_eq_true_eq] at *
  exact List.lt_trans h h2
theorem lsB_irrefl (x : ByteArray) : lsB x x = false := by
  unfold lsB
  rw [bytesLess_eq, decide_eq_false_iff_not]
  exact List.lt_irrefl _
/-- how many keys at the beginning are less -/
def lessN (q : List ByteArray) (ky : ByteArray) : Nat := (q.takeWhile fun x => lsB x ky).length
theorem lessN_yes {x ky : ByteArray} {r : List ByteArray} (h : lsB x ky = true) : lessN (x :: r) ky = lessN r ky + 1 := by unfold lessN; rw [List.takeWhile_cons]; simp [h]
theorem lessN_no {x ky : ByteArray} {r : List ByteArray} (h : lsB x ky = false) : lessN (x :: r) ky = 0 := by unfold lessN; rw [List.takeWhile_cons]; simp [h]
theorem lessN_le (q : List ByteArray) (ky : ByteArray) : lessN q ky ≤ q.length := by
  induction q with
  | nil => exact Nat.le_refl _
  | cons x r ih =>
    rcases h : lsB x ky with _ | _
    · rw [lessN_no h]; omega
    · rw [lessN_yes h, List.length_cons]; omega
def hasKey (q : List ByteArray) (ky : ByteArray) : Bool := match q[lessN q ky]? with | none => false | some x => x.toList == ky.toList
theorem hasKey_at {q : List ByteArray} {ky x : ByteArray} (h : q[lessN q ky]? = some x) : hasKey q ky = (x.toList == ky.toList) := by unfold hasKey; rw [h]
theorem hasKey_end {q : List ByteArray} {ky : ByteArray} (h : q.length ≤ lessN q ky) : hasKey q ky = false := by unfold hasKey; rw [List.getElem?_eq_none h]
theorem less_h1 {ky : ByteArray} : ∀ (q : List ByteArray) (t : Nat), t < lessN q ky → lsB (q.getD t ky) ky = true
  | [], t, h => absurd h (Nat.not_lt_zero _)
  | x :: r, t, h => by
    rcases hx : lsB x ky with _ | _
    · rw [lessN_no hx] at h; exact absurd h (Nat.not_lt_zero _)
    · rw [lessN_yes hx] at h
      rcases t with _ | t
      · exact hx
      · exact less_h1 r t (by omega)
theorem less_h2 {ky : ByteArray} : ∀ (q : List ByteArray) (t : Nat), q.Pairwise (fun a b => lsB a b = true) → lessN q ky ≤ t → lsB (q.getD t ky) ky = false
  | [], t, _, _ => lsB_irrefl ky
  | x :: r, t, hp, h => by
    rw [List.pairwise_cons] at hp
    rcases hx : lsB x ky with _ | _
    · rcases t with _ | t
      · exact hx
      · rcases Nat.lt_or_ge t r.length with hl | hl
        · have e : (x :: r).getD (t + 1) ky = r[t] := by simp [List.getD, List.getElem?_eq_getElem hl]
          rw [e]
          rcases hy : lsB r[t] ky with _ | _
          · rfl
          · have := lsB_trans (hp.1 _ (List.getElem_mem hl)) hy
            rw [hx] at this; cases this
        · have e : (x :: r).getD (t + 1) ky = ky := by simp [List.getD, List.getElem?_eq_none hl]
          rw [e]; exact lsB_irrefl ky
    · rw [lessN_yes hx] at h
      rcases t with _ | t
      · omega
      · exact less_h2 r t hp.2 (by omega)
theorem keysUp_at {q : List ByteArray} {n i : Nat} (h : keysUp q n = true) (hi : i < n) : keyAt q i = true := by
  unfold keysUp at h
  rw [List.all_eq_true] at h
  exact h i (List.mem_range.2 hi)
theorem keysUp_pair {q : List ByteArray} (h : keysUp q q.length = true) : q.Pairwise (fun a b => lsB a b = true) := by
  rw [List.pairwise_iff_getElem]
  have step : ∀ (i : Nat) (h1 : i < q.length) (h2 : i + 1 < q.length), lsB q[i] q[i + 1] = true := fun i h1 h2 => by
    have h3 := keysUp_at h h2
    unfold keyAt at h3
    rw [List.getElem?_eq_getElem h2] at h3
    dsimp only at h3
    rw [Nat.add_sub_cancel, List.getElem?_eq_getElem h1] at h3
    rw [Bool.and_eq_true] at h3
    have h4 := h3.2
    simp at h4
    exact h4
  intro i j hi hj hij
  obtain ⟨k, rfl⟩ : ∃ k, j = i + 1 + k := ⟨j - (i + 1), by omega⟩
  clear hij
  induction k with
  | zero => exact step i hi hj
  | succ k ih =>
    have h1 := ih (by omega)
    exact lsB_trans h1 (step (i + 1 + k) (by omega) hj)
theorem treeV_keys {N : List CNode} {rt : Int} {d : Nat} {q : List ByteArray} (h : treeV N rt = some (d, q)) : q.length ≤ 60 ∧ keysUp q q.length = true := by
  unfold treeV at h
  split at h
  · cases h
  · rcases hv : visit N 201 true rt (List.replicate N.length false) [] with _ | ⟨d1, s1, q1⟩
    · rw [hv] at h; cases h
    · rw [hv] at h
      dsimp only at h
      split at h
      · next hc =>
        injection h with h
        injection h with h1 h2
        subst h2
        rw [Bool.and_eq_true, Bool.and_eq_true, decide_eq_true_eq] at hc
        exact hc.2
      · cases h
theorem bs_less {q : List ByteArray} {ky : ByteArray} (h : q.Pairwise (fun a b => lsB a b = true)) : Lib.bsGo (fun t => Op.bytesLess (q.getD t ky).toList ky.toList) q.length 0 q.length = lessN q ky :=
  Lib.bsGo_spec _ (lessN q ky) (fun t ht => less_h1 q t ht) (fun t ht => less_h2 q t h ht) _ _ _ (Nat.le_refl _) (Nat.zero_le _) (lessN_le q ky)
theorem list_eq_of {x y : ByteArray} : (x.toList == y.toList) = decide (x = y) := by
  rw [Bool.eq_iff_iff, beq_iff_eq, decide_eq_true_eq]
  refine ⟨fun h => ?_, fun h => by rw [h]⟩
  rw [Lib.toList_data, Lib.toList_data] at h
  cases x; cases y
  exact congrArg ByteArray.mk (Array.toList_inj.1 h)
theorem bs_has {q : List ByteArray} {ky : ByteArray} : decide (lessN q ky < q.length ∧ q.getD (lessN q ky) ky = ky) = hasKey q ky := by
  rcases Nat.lt_or_ge (lessN q ky) q.length with h | h
  · rw [hasKey_at (List.getElem?_eq_getElem h), list_eq_of]
    have e : q.getD (lessN q ky) ky = q[lessN q ky] := by simp [List.getD, List.getElem?_eq_getElem h]
    rw [e]
    simp [h]
  · rw [hasKey_end h, decide_eq_false]
    omega
/-- the code of what is asked of a tree -/
def akC (N : List CNode) (rt : Int) (ky : ByteArray) : Int := if 65536 < ky.size then 2 else match treeV N rt with | none => 1 | some _ => if inB (ky.size : Int) 1 30 then 0 else 4
theorem akC_long {N : List CNode} {rt : Int} {ky : ByteArray} (h : 65536 < ky.size) : akC N rt ky = 2 := by unfold akC; rw [if_pos h]
theorem akC_bad {N : List CNode} {rt : Int} {ky : ByteArray} (h : ¬ 65536 < ky.size) (hv : treeV N rt = none) : akC N rt ky = 1 := by unfold akC; rw [if_neg h, hv]
theorem akC_key {N : List CNode} {rt : Int} {ky : ByteArray} {x : Nat × List ByteArray} (h : ¬ 65536 < ky.size) (hv : treeV N rt = some x) : akC N rt ky = if inB (ky.size : Int) 1 30 then 0 else 4 := by unfold akC; rw [if_neg h, hv]
def fdC (N : List CNode) (rt : Int) (ky : ByteArray) : Int := akC N rt ky
def fdV (N : List CNode) (rt : Int) (ky : ByteArray) : Bool := if akC N rt ky = 0 then match treeV N rt with | none => false | some (_, q) => hasKey q ky else false
theorem fdV_bad {N : List CNode} {rt : Int} {ky : ByteArray} (h : akC N rt ky ≠ 0) : fdV N rt ky = false := by unfold fdV; rw [if_neg h]
theorem fdV_good {N : List CNode} {rt : Int} {ky : ByteArray} {d : Nat} {q : List ByteArray} (h : akC N rt ky = 0) (hv : treeV N rt = some (d, q)) : fdV N rt ky = hasKey q ky := by unfold fdV; rw [if_pos h, hv]
theorem akC_pos (N : List CNode) (rt : Int) (ky : ByteArray) : akC N rt ky = 2 ∨ akC N rt ky = 1 ∨ akC N rt ky = 0 ∨ akC N rt ky = 4 := by
  unfold akC
  split
  · exact .inl rfl
  · split
    · exact .inr (.inl rfl)
    · split
      · exact .inr (.inr (.inl rfl))
      · exact .inr (.inr (.inr rfl))
theorem own_strs {w : World} {B : Nat} {T : TypeId} {q : List ByteArray} {v : Value} (h : w.ownsRow B T 1 v q.length (q.map fun c => Value.string c)) {j : Nat} {x : ByteArray} (hj : q[j]? = some x) : ∃ g cap, v = .slice (some ⟨g, 0, none⟩) q.length cap ∧ w.cell? ⟨g, j, none⟩ = some (.string x) := by
  obtain ⟨hl, rfl⟩ := List.getElem?_eq_some_iff.1 hj
  obtain ⟨g, cap, cs, rfl, hg, h1, h2, hb, h3, h4⟩ := own_form h (by omega)
  refine ⟨g, cap, rfl, ?_⟩
  obtain ⟨b', o', e', hx⟩ := (Rd.take_ hb h4) (by intro e; have h0 := congrArg List.length e; rw [List.length_map, List.length_nil] at h0; omega)
  injection e' with e'
  injection e' with e1 e2 _
  subst e1; subst e2
  have := hx j (.string q[j]) (by simp [List.getElem?_map, List.getElem?_eq_getElem hl])
  rwa [Nat.zero_add] at this
/-- what is asked of a tree answers -/
def AkPost (w : World) (T : TypeId) (N : List CNode) (rt : Int) (ky : ByteArray) (e : Ending) (w' : World) : Prop :=
  ∃ (v : Value) (q : List ByteArray), e = .returned (.tuple #[v, .int .i64 (akC N rt ky)]) ∧ Ext w w' ∧ w'.ownsRow w.heap.size T 1 v q.length (q.map fun c => Value.string c) ∧ (akC N rt ky = 0 → ∃ d, treeV N rt = some (d, q))
/-- what TreeFind answers -/
def FdPost (w : World) (V : Bool) (C : Int) (e : Ending) (w' : World) : Prop := e = .returned (.tuple #[.bool V, .int .i64 C]) ∧ Ext w w'
set_option maxHeartbeats 2000000 in
theorem spec_l09At (ky : ByteArray) (q : List ByteArray) (n B : Nat) (v : Value) (w : World) (hn : q.length = n) (hl : n ≤ 60) (ho : w.ownsRow B 9 1 v n (q.map fun c => Value.string c)) :
    Calls Try.prog 121 #[v, .string ky] w fun e w' => e = .returned (.int .i64 (lessN q ky : Nat)) ∧ Ext w w' := by
  obtain ⟨A, cp, rfl⟩ := own_slice ho
  have HO := Lib.hid ho
  have HN := Lib.hid hn
  clear ho hn
  generalize hL : lessN q ky = L
  have HL := Lib.hid hL
  clear hL
  go_enter Try.func121, Try.ntmps121
  go_wp2_with fail
  go_loopw [5] (fun kv wr => ∃ k : Nat, k ≤ n ∧ kv = .int .i64 k ∧ lessN (q.drop k) ky + k = L ∧ Ext w wr) (fun kv _ => n - (intOf kv).toNat)
  case atStart => exact ⟨0, Nat.zero_le _, rfl, by rw [List.drop_zero, HL.out]; rfl, Ext.refl _⟩
  case round =>
    obtain ⟨k, hk, rfl, hkl, hE⟩ := hrel
    have HK := Lib.hid hkl
    clear hkl
    by_cases hin : k < n
    · have hinI : (k : Int) < (n : Int) := by omega
      have hkq : k < q.length := by rw [HN.out]; exact hin
      obtain ⟨x, hx⟩ : ∃ x, q[k]? = some x := ⟨_, List.getElem?_eq_getElem hkq⟩
      have HDR := Lib.hid (show q.drop k = x :: q.drop (k + 1) by
        rw [List.drop_eq_getElem_cons hkq]
        obtain ⟨_, e⟩ := List.getElem?_eq_some_iff.1 hx
        rw [e])
      obtain ⟨g, cg, hv, hcx⟩ := own_strs (HN.out ▸ HO.out) hx
      injection hv with hv1 hv2 hv3
      subst hv1; subst hv3
      have hcx2 := hE.cell hcx
      clear hv2 hx hcx
      rcases hlt : Op.bytesLess x.toList ky.toList with _ | _
      · have HE := Lib.hid (show k = L by have h := HK.out; rw [HDR.out, lessN_no hlt] at h; omega)
        go_wp2_with fail
        go_ret
        exact ⟨by (rw [← HE.out]; try rfl), hE⟩
      · have HE := Lib.hid (show lessN (q.drop (k + 1)) ky + (k + 1) = L by have h := HK.out; rw [HDR.out, lessN_yes hlt] at h; omega)
        go_wp2_with fail
        go_roundw
        case rel => exact ⟨k + 1, hin, by go_num, HE.out, hE⟩
        case measure => simp [intOf]; omega
    · obtain rfl : n = k := by omega
      have hin0 : ¬ (n : Int) < (n : Int) := by omega
      have HE := Lib.hid (show n = L by have h := HK.out; rw [List.drop_of_length_le (by rw [HN.out]; exact Nat.le_refl _)] at h; have h2 : lessN [] ky = 0 := rfl; omega)
      clear hin
      go_wp2_with fail
      go_ret
      exact ⟨by (rw [← HE.out]; try rfl), hE⟩
set_option maxHeartbeats 2000000 in
theorem spec_l09Ask (rt : Int) (An : Option Addr) (nn pn : Nat) (l : List XNode) (N : List CNode) (ky : ByteArray) (w : World) (hl : l.length = nn) (hN : l.map XNode.c = N) (hns : nn ≤ 1099511627776) (hx : XSm l) (hk : ky.size ≤ 9223372036854775807) (hr : NsR w An l) :
    Calls Try.prog 120 #[.agg #[.int .i64 rt, .slice An nn pn], .string ky] w (AkPost w 9 N rt ky) := by
  have hE0 : Ext w (w.alloc (.cells #[.int .i64 rt, .slice An nn pn] 89)) := (by repeat (first | exact Ext.refl _ | assumption | refine Ext.alloc ?_ _ | refine Ext.drewN ?_ _ | refine Ext.drew ?_ | refine Ext.set ?_ (by dsimp only; omega) _ | refine Ext.trans ?_ (by assumption)))
  have HC := Lib.hid (spec_l09Walk rt An nn pn l N _ hl hN hns hx (hr.ext hE0))
  have HE0 := Lib.hid hE0
  have HNEW := Lib.hid (fun (W : World) (E : Ext w W) => World.ownsRow_lit (base := w.heap.size) (e := 9) (size := 1) W #[] 0 E.le (by unfold maxLen; omega) rfl)
  clear hl hN hx hr hE0
  by_cases hb : 65536 < ky.size
  · have hbI : (65536 : Int) < (ky.size : Int) := by omega
    have HA := Lib.hid (akC_long (N := N) (rt := rt) hb)
    clear hb
    go_enter Try.func120, Try.ntmps120
    go_wp2_with fail
    go_ret2
    have ho := HNEW.out _ HE0.out
    rw [World.size_alloc] at ho
    exact ⟨_, [], by (rw [HA.out]; try rfl), HE0.out.alloc _, ho, fun h => by rw [HA.out] at h; cases h⟩
  have hbI : ¬ (65536 : Int) < (ky.size : Int) := by omega
  have HB := Lib.hid hb
  clear hb
  go_enter Try.func120, Try.ntmps120
  go_wp2_with fail
  refine HC.out.mono ?_
  rintro e w1 ⟨d, v, q, ok, rfl, ho, hE, hq, -, -, hP⟩
  obtain ⟨A1, c1, rfl⟩ := own_slice ho
  have HO := Lib.hid (own_base ho HE0.out.le)
  have HE1 := Lib.hid (HE0.out.trans hE)
  clear ho hE
  rcases hP with ⟨rfl, h⟩ | ⟨rfl, h⟩
  rotate_left
  · have HA := Lib.hid (akC_bad HB.out h)
    clear h
    go_wp2_with fail
    go_ret2
    exact ⟨_, [], by (rw [HA.out]; try rfl), HE1.out.alloc _, HNEW.out _ HE1.out, fun h => by rw [HA.out] at h; cases h⟩
  have HV := Lib.hid h
  have HKEY := Lib.hid (fun W => spec_l09Key ky W)
  clear h
  rcases hkb : inB (ky.size : Int) 1 30 with _ | _
  · have HA := Lib.hid ((akC_key HB.out HV.out).trans (by rw [hkb]; try rfl))
    rw [hkb] at HKEY
    clear hkb
    go_wp2_with fail
    refine (HKEY.out _).mono ?_
    rintro e w2 ⟨rfl, rfl⟩
    go_wp2_with fail
    go_ret2
    exact ⟨_, [], by (rw [HA.out]; try rfl), HE1.out.alloc _, HNEW.out _ HE1.out, fun h => by rw [HA.out] at h; cases h⟩
  · have HA := Lib.hid ((akC_key HB.out HV.out).trans (by rw [hkb]; try rfl))
    rw [hkb] at HKEY
    clear hkb
    go_wp2_with fail
    refine (HKEY.out _).mono ?_
    rintro e w2 ⟨rfl, rfl⟩
    go_wp2_with fail
    go_ret2
    exact ⟨_, q, by (rw [HA.out]; try rfl), HE1.out, HO.out, fun _ => ⟨_, HV.out⟩⟩
set_option maxHeartbeats 2000000 in
theorem spec_TreeFind (rt : Int) (An : Option Addr) (nn pn : Nat) (l : List XNode) (N : List CNode) (ky : ByteArray) (w : World) (hl : l.length = nn) (hN : l.map XNode.c = N) (hns : nn ≤ 1099511627776) (hx : XSm l) (hk : ky.size ≤ 9223372036854775807) (hr : NsR w An l) :
    Calls Try.prog 54 #[.agg #[.int .i64 rt, .slice An nn pn], .string ky] w (FdPost w (fdV N rt ky) (fdC N rt ky)) := by
  have hE0 : Ext w (w.alloc (.cells #[.int .i64 rt, .slice An nn pn] 89)) := (by repeat (first | exact Ext.refl _ | assumption | refine Ext.alloc ?_ _ | refine Ext.drewN ?_ _ | refine Ext.drew ?_ | refine Ext.set ?_ (by dsimp only; omega) _ | refine Ext.trans ?_ (by assumption)))
  have HC := Lib.hid (spec_l09Ask rt An nn pn l N ky _ hl hN hns hx hk (hr.ext hE0))
  have HE0 := Lib.hid hE0
  clear hl hN hx hr hE0
  unfold fdC
  by_cases hb : 65536 < ky.size
  · have hbI : (65536 : Int) < (ky.size : Int) := by omega
    have HA := Lib.hid (akC_long (N := N) (rt := rt) hb)
    clear hb
    go_enter Try.func54, Try.ntmps54
    go_wp2_with fail
    go_ret2
    exact ⟨by (rw [HA.out, fdV_bad (by rw [HA.out]; decide)]; try rfl), HE0.out⟩
  have hbI : ¬ (65536 : Int) < (ky.size : Int) := by omega
  clear hb
  have hcases := akC_pos N rt ky
  have HFB := Lib.hid (fdV_bad (N := N) (rt := rt) (ky := ky))
  have HFG := Lib.hid (fun d q => fdV_good (N := N) (rt := rt) (ky := ky) (d := d) (q := q))
  go_enter Try.func54, Try.ntmps54
  go_wp2_with fail
  refine HC.out.mono ?_
  rintro e w1 ⟨v, q, rfl, hE, ho, hP⟩
  obtain ⟨A1, c1, rfl⟩ := own_slice ho
  have HE1 := Lib.hid (HE0.out.trans hE)
  have HO := Lib.hid ho
  have HP := Lib.hid hP
  clear hE ho hP
  by_cases hz : akC N rt ky = 0
  rotate_left
  · have hzb : (akC N rt ky != 0) = true := by rw [bne_iff_ne]; exact hz
    have HF := Lib.hid (HFB.out hz)
    clear hz hcases
    go_wp2_with fail
    go_ret2
    exact ⟨by (rw [HF.out]; try rfl), HE1.out⟩
  obtain ⟨d, hv⟩ := HP.out hz
  have HF := Lib.hid (HFG.out d q hz hv)
  have hq60 := (treeV_keys hv).1
  have HAT := Lib.hid (spec_l09At ky q q.length _ _ w1 rfl hq60 HO.out)
  have HZ := Lib.hid hz
  rw [hz]
  clear hv hcases
  go_wp2_with fail
  refine HAT.out.mono ?_
  rintro e w2 ⟨rfl, hE2⟩
  have HE2 := Lib.hid (HE1.out.trans hE2)
  have hle := lessN_le q ky
  rcases Nat.lt_or_ge (lessN q ky) q.length with hl2 | hl2
  · obtain ⟨x, hx⟩ : ∃ x, q[lessN q ky]? = some x := ⟨_, List.getElem?_eq_getElem hl2⟩
    obtain ⟨g, cg, hv, hcx⟩ := own_strs HO.out hx
    injection hv with hv1 hv2 hv3
    subst hv1; subst hv3
    have hcx2 := hE2.cell hcx
    have HH := Lib.hid (HF.out.trans (hasKey_at hx))
    generalize lessN q ky = L at hcx2 hl2 hle ⊢
    have hlI : (L : Int) < (q.length : Int) := by omega
    clear hv2 hcx hx hz
    go_wp2_with fail
    go_ret2
    exact ⟨by (rw [HH.out, HZ.out]; try rfl), HE2.out⟩
  · have HH := Lib.hid (HF.out.trans (hasKey_end hl2))
    generalize lessN q ky = L at hl2 hle ⊢
    have hlI : ¬ (L : Int) < (q.length : Int) := by omega
    clear hz
    go_wp2_with fail
    go_ret2
    exact ⟨by (rw [HH.out, HZ.out]; try rfl), HE2.out⟩
set_option maxHeartbeats 2000000 in
theorem impl_treeAsked (rt : Int) (An : Option Addr) (nn pn : Nat) (l : List XNode) (N : List CNode) (ky : ByteArray) (w : World) (hl : l.length = nn) (hN : l.map XNode.c = N) (hns : nn ≤ 1099511627776) (hx : XSm l) (hk : ky.size ≤ 9223372036854775807) (hr : NsR w An l) :
    Calls Try.prog 123 #[.agg #[.int .i64 rt, .slice An nn pn], .string ky] w (AkPost w 9 N rt ky) := by
  have hE0 : Ext w ((w.alloc (.cells #[.int .i64 rt, .slice An nn pn] 89)).alloc (.cells #[.string ky] 9)) := (by repeat (first | exact Ext.refl _ | assumption | refine Ext.alloc ?_ _ | refine Ext.drewN ?_ _ | refine Ext.drew ?_ | refine Ext.set ?_ (by dsimp only; omega) _ | refine Ext.trans ?_ (by assumption)))
  have hB := Blk.new (w.alloc (.cells #[.int .i64 rt, .slice An nn pn] 89)) 9 [.string ky]
  rw [World.size_alloc] at hB
  have HL1 := Lib.hid (impl_isLong (some ⟨w.heap.size + 1, 0, none⟩) 1 1 [ky] ((w.alloc (.cells #[.int .i64 rt, .slice An nn pn] 89)).alloc (.cells #[.string ky] 9)) rfl (by omega) hB.rd)
  have HC := Lib.hid (impl_keys rt An nn pn l N _ hl hN hns hx (hr.ext hE0))
  have HE0 := Lib.hid hE0
  clear hl hN hx hr hE0 hB
  have hany : ([ky].any fun s => decide (65536 < s.size)) = decide (65536 < ky.size) := by simp
  rw [hany] at HL1
  clear hany
  by_cases hb : 65536 < ky.size
  · have HA := Lib.hid (akC_long (N := N) (rt := rt) hb)
    rw [decide_eq_true hb] at HL1
    clear hb
    go_enter Try.func123, Try.ntmps123
    go_wp2_with fail
    refine HL1.out.mono ?_
    rintro e w1 ⟨rfl, rfl⟩
    go_wp2_with fail
    go_ret2
    exact ⟨_, [], by (rw [HA.out]; try rfl), HE0.out, World.ownsRow_nil _ _ _ _, fun h => by rw [HA.out] at h; cases h⟩
  have HB := Lib.hid hb
  rw [decide_eq_false hb] at HL1
  clear hb
  go_enter Try.func123, Try.ntmps123
  go_wp2_with fail
  refine HL1.out.mono ?_
  rintro e w1 ⟨rfl, rfl⟩
  go_wp2_with fail
  refine HC.out.mono ?_
  rintro e w1 ⟨v, ok, q, rfl, ho, hE, hq, hP⟩
  obtain ⟨A1, c1, rfl⟩ := own_slice ho
  have HO := Lib.hid (own_base ho HE0.out.le)
  have HE1 := Lib.hid (HE0.out.trans hE)
  clear ho hE
  rcases hP with ⟨rfl, d, h⟩ | ⟨rfl, h⟩
  rotate_left
  · have HA := Lib.hid (akC_bad HB.out h)
    clear h
    go_wp2_with fail
    go_ret2
    exact ⟨_, [], by (rw [HA.out]; try rfl), HE1.out, World.ownsRow_nil _ _ _ _, fun h => by rw [HA.out] at h; cases h⟩
  have HV := Lib.hid h
  have HKEY := Lib.hid (fun W => tree_isKey ky W)
  clear h
  rcases hkb : inB (ky.size : Int) 1 30 with _ | _
  · have HA := Lib.hid ((akC_key HB.out HV.out).trans (by rw [hkb]; try rfl))
    rw [hkb] at HKEY
    clear hkb
    go_wp2_with fail
    refine (HKEY.out _).mono ?_
    rintro e w2 ⟨rfl, rfl⟩
    go_wp2_with fail
    go_ret2
    exact ⟨_, [], by (rw [HA.out]; try rfl), HE1.out, World.ownsRow_nil _ _ _ _, fun h => by rw [HA.out] at h; cases h⟩
  · have HA := Lib.hid ((akC_key HB.out HV.out).trans (by rw [hkb]; try rfl))
    rw [hkb] at HKEY
    clear hkb
    go_wp2_with fail
    refine (HKEY.out _).mono ?_
    rintro e w2 ⟨rfl, rfl⟩
    go_wp2_with fail
    go_ret2
    exact ⟨_, q, by (rw [HA.out]; try rfl), HE1.out, HO.out, fun _ => ⟨_, HV.out⟩⟩
theorem tree_search (q : List ByteArray) (ky : ByteArray) (v : Value) (B : Nat) (w : World) (hq : q.length ≤ 60) (hp : q.Pairwise (fun a b => lsB a b = true)) (ho : w.ownsRow B 9 1 v q.length (q.map fun c => Value.string c)) :
    Calls Try.prog 124 #[v, .string ky] w fun e w' => e = .returned (.tuple #[.int .i64 (lessN q ky : Nat), .bool (hasKey q ky)]) ∧ Ext w w' := by
  rcases Nat.eq_zero_or_pos q.length with h0 | h0
  · have hq0 := List.eq_nil_of_length_eq_zero h0
    subst hq0
    obtain ⟨A1, c1, rfl⟩ := own_slice ho
    refine Calls.mono (Any2.slices_BinarySearch_string_empty Try.laysBs A1 c1 ky w) ?_
    rintro e w' ⟨rfl, rfl⟩
    exact ⟨rfl, Ext.refl _⟩
  · obtain ⟨g, cap, hv, -⟩ := own_strs ho (List.getElem?_eq_getElem h0)
    subst hv
    refine Calls.mono (Any2.slices_BinarySearch_string Try.laysBs g 0 q.length cap (fun t => q.getD t ky) ky w (by omega) ?_) ?_
    · intro j hj
      obtain ⟨g2, cap2, hv2, hc⟩ := own_strs ho (List.getElem?_eq_getElem hj)
      injection hv2 with hv2
      injection hv2 with hv2
      injection hv2 with hv2
      subst hv2
      rw [Nat.zero_add, hc]
      simp [List.getD, List.getElem?_eq_getElem hj]
    · rintro e w' ⟨rfl, k, rfl⟩
      rw [bs_less hp, bs_has]
      exact ⟨rfl, (Ext.refl _).drewN k⟩
set_option maxHeartbeats 2000000 in
theorem impl_TreeFind (rt : Int) (An : Option Addr) (nn pn : Nat) (l : List XNode) (N : List CNode) (ky : ByteArray) (w : World) (hl : l.length = nn) (hN : l.map XNode.c = N) (hns : nn ≤ 1099511627776) (hx : XSm l) (hk : ky.size ≤ 9223372036854775807) (hr : NsR w An l) :
    Calls Try.prog 56 #[.agg #[.int .i64 rt, .slice An nn pn], .string ky] w (FdPost w (fdV N rt ky) (fdC N rt ky)) := by
  have hE0 : Ext w (w.alloc (.cells #[.int .i64 rt, .slice An nn pn] 89)) := (by repeat (first | exact Ext.refl _ | assumption | refine Ext.alloc ?_ _ | refine Ext.drewN ?_ _ | refine Ext.drew ?_ | refine Ext.set ?_ (by dsimp only; omega) _ | refine Ext.trans ?_ (by assumption)))
  have HC := Lib.hid (impl_treeAsked rt An nn pn l N ky _ hl hN hns hx hk (hr.ext hE0))
  have HE0 := Lib.hid hE0
  clear hl hN hx hr hE0
  unfold fdC
  have hcases := akC_pos N rt ky
  have HFB := Lib.hid (fdV_bad (N := N) (rt := rt) (ky := ky))
  have HFG := Lib.hid (fun d q => fdV_good (N := N) (rt := rt) (ky := ky) (d := d) (q := q))
  go_enter Try.func56, Try.ntmps56
  go_wp2_with fail
  refine HC.out.mono ?_
  rintro e w1 ⟨v, q, rfl, hE, ho, hP⟩
  obtain ⟨A1, c1, rfl⟩ := own_slice ho
  have HE1 := Lib.hid (HE0.out.trans hE)
  have HO := Lib.hid ho
  have HP := Lib.hid hP
  clear hE ho hP
  by_cases hz : akC N rt ky = 0
  rotate_left
  · have hzb : (akC N rt ky != 0) = true := by rw [bne_iff_ne]; exact hz
    have HF := Lib.hid (HFB.out hz)
    clear hz hcases
    go_wp2_with fail
    go_ret2
    exact ⟨by (rw [HF.out]; try rfl), HE1.out⟩
  obtain ⟨d, hv⟩ := HP.out hz
  have HF := Lib.hid (HFG.out d q hz hv)
  have hkk := treeV_keys hv
  have HAT := Lib.hid (tree_search q ky _ _ w1 hkk.1 (keysUp_pair hkk.2) HO.out)
  have HZ := Lib.hid hz
  rw [hz]
  clear hv hcases hz hkk
  go_wp2_with fail
  refine HAT.out.mono ?_
  rintro e w2 ⟨rfl, hE2⟩
  have HE2 := Lib.hid (HE1.out.trans hE2)
  generalize hasKey q ky = r at HF ⊢
  generalize lessN q ky = L
  go_wp2_with fail
  go_ret2
  exact ⟨by (rw [HF.out, HZ.out]; try rfl), HE2.out⟩
end Go.Proofs.Ytnbfjkebakaigaa
