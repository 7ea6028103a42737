/- TreeRange: both sides. -/
import Derived.Test.YtnbfjkebakaigaaTreeF
import Derived.Shelf.SlicesE.DeleteFunc
import Derived.Ground.SlgfProg
import Derived.Lib.OwnBridge
import Derived.Sort.Grow
import Derived.Test.YtnbfjkebakaigaaShR
namespace Go.Proofs.Ytnbfjkebakaigaa
open Go.RowKit Go.Deep
set_option linter.unusedVariables false
set_option maxRecDepth 100000
/-- is a key in a range -/
def inR (a b x : ByteArray) : Bool := !lsB x a && lsB x b
def rgC (N : List CNode) (rt : Int) (a b : ByteArray) : Int := if 65536 < a.size ∨ 65536 < b.size then 2 else match treeV N rt with | none => 1 | some _ => 0
def rgL (N : List CNode) (rt : Int) (a b : ByteArray) : List ByteArray := if 65536 < a.size ∨ 65536 < b.size then [] else match treeV N rt with | none => [] | some (_, q) => q.filter (inR a b)
theorem rg_long {N : List CNode} {rt : Int} {a b : ByteArray} (h : 65536 < a.size ∨ 65536 < b.size) : rgC N rt a b = 2 ∧ rgL N rt a b = [] := by unfold rgC rgL; rw [if_pos h, if_pos h]; exact ⟨rfl, rfl⟩
theorem rg_none {N : List CNode} {rt : Int} {a b : ByteArray} (h : ¬ (65536 < a.size ∨ 65536 < b.size)) (hv : treeV N rt = none) : rgC N rt a b = 1 ∧ rgL N rt a b = [] := by unfold rgC rgL; rw [if_neg h, if_neg h, hv]; exact ⟨rfl, rfl⟩
theorem rg_some {N : List CNode} {rt : Int} {a b : ByteArray} {d : Nat} {q : List ByteArray} (h : ¬ (65536 < a.size ∨ 65536 < b.size)) (hv : treeV N rt = some (d, q)) : rgC N rt a b = 0 ∧ rgL N rt a b = q.filter (inR a b) := by unfold rgC rgL; rw [if_neg h, if_neg h, hv]; exact ⟨rfl, rfl⟩
theorem rgL_len (N : List CNode) (rt : Int) (a b : ByteArray) : (rgL N rt a b).length ≤ 60 := by
  by_cases h : 65536 < a.size ∨ 65536 < b.size
  · rw [(rg_long h).2]; simp
  · rcases hv : treeV N rt with _ | ⟨d, q⟩
    · rw [(rg_none h hv).2]; simp
    · rw [(rg_some h hv).2]
      exact Nat.le_trans (List.length_filter_le _ _) (treeV_keys hv).1
theorem filter_step {q : List ByteArray} {k : Nat} {x : ByteArray} {p : ByteArray → Bool} (hx : q[k]? = some x) : (q.take (k + 1)).filter p = (q.take k).filter p ++ (if p x then [x] else []) := by
  obtain ⟨hl, rfl⟩ := List.getElem?_eq_some_iff.1 hx
  rw [List.take_succ_eq_append_getElem hl, List.filter_append]
  congr 1
  rcases h : p q[k] with _ | _ <;> simp [h]
theorem filter_take_len {q : List ByteArray} {k : Nat} {p : ByteArray → Bool} : ((q.take k).filter p).length ≤ k := Nat.le_trans (List.length_filter_le _ _) (by rw [List.length_take]; omega)
/-- what TreeRange answers -/
def RgPost (w : World) (T : TypeId) (L : List ByteArray) (C : Int) (e : Ending) (w' : World) : Prop :=
  ∃ v, e = .returned (.tuple #[v, .int .i64 C]) ∧ w'.ownsRow w.heap.size T 1 v L.length (L.map fun c => Value.string c) ∧ Ext w w'
theorem RgPost.of {w w' : World} {T : TypeId} {L L' : List ByteArray} {C c : Int} {v : Value} (hc : C = c) (hl : L = L') (ho : w'.ownsRow w.heap.size T 1 v L'.length (L'.map fun c => Value.string c)) (E : Ext w w') : RgPost w T L C (.returned (.tuple #[v, .int .i64 c])) w' := by
  subst hc; subst hl; exact ⟨v, rfl, ho, E⟩
set_option maxHeartbeats 4000000 in
theorem spec_TreeRange (rt : Int) (An : Option Addr) (nn pn : Nat) (l : List XNode) (N : List CNode) (a b : ByteArray) (w : World) (hl : l.length = nn) (hN : l.map XNode.c = N) (hns : nn ≤ 1099511627776) (hx : XSm l) (ha : a.size ≤ 9223372036854775807) (hb : b.size ≤ 9223372036854775807) (hr : NsR w An l) :
    Calls Try.prog 58 #[.agg #[.int .i64 rt, .slice An nn pn], .string a, .string b] w (RgPost w 9 (rgL N rt a b) (rgC N rt a b)) := by
  have hE0 : Ext w (w.alloc (.cells #[.int .i64 rt, .slice An nn pn] 89)) := (by repeat (first | exact Ext.refl _ | assumption | refine Ext.alloc ?_ _ | refine Ext.drewN ?_ _ | refine Ext.drew ?_ | refine Ext.set ?_ (by dsimp only; omega) _ | refine Ext.trans ?_ (by assumption)))
  have HC := Lib.hid (spec_l09Walk rt An nn pn l N _ hl hN hns hx (hr.ext hE0))
  have HE0 := Lib.hid hE0
  have HNEW := Lib.hid (fun (W : World) (E : Ext w W) => World.ownsRow_lit (base := w.heap.size) (e := 9) (size := 1) W #[] 0 E.le (by unfold maxLen; omega) rfl)
  clear hl hN hx hr hE0
  have HLG := Lib.hid (fun h => rg_long (N := N) (rt := rt) (a := a) (b := b) h)
  have HNO := Lib.hid (fun h1 h2 => rg_none (N := N) (rt := rt) (a := a) (b := b) h1 h2)
  have HSO := Lib.hid (fun d q h1 h2 => rg_some (N := N) (rt := rt) (a := a) (b := b) (d := d) (q := q) h1 h2)
  by_cases hla : 65536 < a.size
  · have hI : (65536 : Int) < (a.size : Int) := by omega
    have HA := Lib.hid (HLG.out (.inl hla))
    clear hla
    go_enter Try.func58, Try.ntmps58
    go_wp2_with fail
    go_ret2
    have ho := HNEW.out _ HE0.out
    rw [World.size_alloc] at ho
    exact RgPost.of HA.out.1 HA.out.2 ho (HE0.out.alloc _)
  have hIa : decide ((65536 : Int) < (a.size : Int)) = false := decide_eq_false (by omega)
  by_cases hlb : 65536 < b.size
  · have hIb : decide ((65536 : Int) < (b.size : Int)) = true := decide_eq_true (by omega)
    have HA := Lib.hid (HLG.out (.inr hlb))
    clear hlb hla
    go_enter Try.func58, Try.ntmps58
    go_wp2_with fail
    go_ret2
    have ho := HNEW.out _ HE0.out
    rw [World.size_alloc] at ho
    exact RgPost.of HA.out.1 HA.out.2 ho (HE0.out.alloc _)
  have hIb : decide ((65536 : Int) < (b.size : Int)) = false := decide_eq_false (by omega)
  have HOR := Lib.hid (show ¬ (65536 < a.size ∨ 65536 < b.size) by omega)
  clear hla hlb
  go_enter Try.func58, Try.ntmps58
  go_wp2_with fail
  refine HC.out.mono ?_
  rintro e w1 ⟨d, v, q, ok, rfl, ho, hE, hq, -, -, hP⟩
  obtain ⟨A1, c1, rfl⟩ := own_slice ho
  have HO := Lib.hid (own_base ho HE0.out.le)
  have HE1 := Lib.hid (HE0.out.trans hE)
  clear ho hE
  rcases hP with ⟨rfl, h⟩ | ⟨rfl, h⟩
  rotate_left
  · have HA := Lib.hid (HNO.out HOR.out h)
    clear h
    go_wp2_with fail
    go_ret2
    exact RgPost.of HA.out.1 HA.out.2 (HNEW.out _ HE1.out) (HE1.out.alloc _)
  have HA := Lib.hid (HSO.out _ _ HOR.out h)
  have hq60 := (treeV_keys h).1
  obtain ⟨i0, hi, hz0, hz1, hz2⟩ := info_parts info_StringS
  clear h hq
  go_wp2_with fail
  have HI := Lib.hid (World.ownsRow_lit (base := w1.heap.size) (e := 9) (size := 1) w1 #[] 0 (Nat.le_refl _) (by unfold maxLen; omega) rfl)
  go_loopw [11, 12] (fun v iv wr => ∃ k : Nat, k ≤ q.length ∧ iv = .int .i64 k ∧ wr.ownsRow w1.heap.size 9 1 v ((q.take k).filter (inR a b)).length (((q.take k).filter (inR a b)).map fun c => Value.string c) ∧ Ext w1 wr) (fun _ iv _ => q.length - (intOf iv).toNat)
  case atStart => exact ⟨0, Nat.zero_le _, rfl, by simpa using HI.out, (Ext.refl _).alloc _⟩
  case round =>
    obtain ⟨k, hk, rfl, ho, hE⟩ := hrel
    obtain ⟨Av, cv, rfl⟩ := own_slice ho
    have HOr := Lib.hid ho
    have HFL := Lib.hid (filter_take_len (q := q) (k := k) (p := inR a b))
    clear ho
    by_cases hin : k < q.length
    · have hinI : (k : Int) < (q.length : Int) := by omega
      obtain ⟨x, hx⟩ : ∃ x, q[k]? = some x := ⟨_, List.getElem?_eq_getElem hin⟩
      obtain ⟨g, cg, hv, hcx⟩ := own_strs HO.out hx
      injection hv with hv1 hv2 hv3
      subst hv1; subst hv3
      have hcx2 := hE.cell hcx
      have HX := Lib.hid hx
      clear hv2 hcx hx
      rcases h1 : Op.bytesLess x.toList a.toList with _ | _
      rotate_left
      · have h1n : (!Op.bytesLess x.toList a.toList) = false := by rw [h1]; rfl
        have HF := Lib.hid (show (q.take (k + 1)).filter (inR a b) = (q.take k).filter (inR a b) by rw [filter_step HX.out, show inR a b x = false by unfold inR lsB; rw [h1]; rfl]; simp)
        go_wp2_with fail
        go_roundw
        case rel => exact ⟨k + 1, hin, by go_num, by rw [HF.out]; exact HOr.out, hE⟩
        case measure => simp [intOf]; omega
      have h1n : (!Op.bytesLess x.toList a.toList) = true := by rw [h1]; rfl
      rcases h2 : Op.bytesLess x.toList b.toList with _ | _
      · have HF := Lib.hid (show (q.take (k + 1)).filter (inR a b) = (q.take k).filter (inR a b) by rw [filter_step HX.out, show inR a b x = false by unfold inR lsB; rw [h1, h2]; rfl]; simp)
        go_wp2_with fail
        go_roundw
        case rel => exact ⟨k + 1, hin, by go_num, by rw [HF.out]; exact HOr.out, hE⟩
        case measure => simp [intOf]; omega
      have HF := Lib.hid (show (q.take (k + 1)).filter (inR a b) = (q.take k).filter (inR a b) ++ [x] by rw [filter_step HX.out, show inR a b x = true by unfold inR lsB; rw [h1, h2]; rfl]; simp)
      go_wp2_with (at_builtin; refine wpList_append_own _ rfl (.tmp 52) (.tmp 57) 22 rfl w1.heap.size 9 i0 (.string ByteArray.empty) 1 16 Try.underlying22 hi hz0 hz1 hz2 rfl (by decide) _ ((q.take k).filter (inR a b)).length _ rfl (own_ext HOr.out ((Ext.refl _).alloc _)) ⟨wr.heap.size, 0, none⟩ 1 1 [Value.string x] rfl rfl (rd_add (Blk.new wr _ _).rd) (by intro u hu; simp at hu; subst hu; rfl) (by have := HFL.out; unfold maxLen; omega) (by have := HFL.out; omega) (by rw [World.size_alloc]; have := hE.le; omega) ?_)
      intro v' w2 ho hg _
      go_wp2_with fail
      go_roundw
      case rel => exact ⟨k + 1, hin, by go_num, by rw [HF.out, List.length_append, List.map_append]; exact ho, (hE.alloc _).grown hg (own_blk HOr.out)⟩
      case measure => simp [intOf]; omega
    · obtain rfl : k = q.length := by omega
      have hin0 : ¬ (q.length : Int) < (q.length : Int) := by omega
      have ho2 := HOr.out
      rw [List.take_length] at ho2
      have HOq := Lib.hid ho2
      clear ho2
      clear hin hk
      go_wp2_with fail
      go_ret2
      exact RgPost.of HA.out.1 HA.out.2 (own_base HOq.out HE1.out.le) (HE1.out.trans hE)
theorem range_key (a b x : ByteArray) (B4 B5 : Nat) (W : World) (h4 : W.cell? ⟨B4, 0, none⟩ = some (.string a)) (h5 : W.cell? ⟨B5, 0, none⟩ = some (.string b)) :
    FnGives Try.prog 130 #[.pointer (some ⟨B4, 0, none⟩), .pointer (some ⟨B5, 0, none⟩)] #[.string x] (.bool (!inR a b x)) W := by
  show Calls Try.prog 130 #[.string x, .pointer (some ⟨B4, 0, none⟩), .pointer (some ⟨B5, 0, none⟩)] W _
  have hV : (!inR a b x) = (lsB x a || !lsB x b) := by unfold inR; rcases lsB x a <;> rcases lsB x b <;> rfl
  rw [hV]
  clear hV
  unfold lsB
  rcases h1 : Op.bytesLess x.toList a.toList with _ | _
  · go_enter Try.func130, Try.ntmps130
    go_wp2_with fail
    go_ret
    exact ⟨by rfl, 0, rfl⟩
  · go_enter Try.func130, Try.ntmps130
    go_wp2_with fail
    go_ret
    exact ⟨by rfl, 0, rfl⟩
theorem delete_none (A : Option Addr) (c : Nat) (fv : Value) (w : World) :
    Calls Try.prog 129 #[.slice A 0 c, fv] w fun e w' => e = .returned (.slice A 0 c) ∧ w = w' := by
  have L := Try.laysDelS
  have HI := Lib.hid (AnyE.slices_IndexFunc_empty { L with } A c fv w)
  go_enter Try.func129, Try.ntmps129
  go_wp2_with fail
  refine Calls.mono HI.out ?_
  rintro e w' ⟨rfl, rfl⟩
  go_wp2_with fail
  go_ret
  exact ⟨rfl, rfl⟩
theorem call_rangeKey (args : Array Value) (W : World) : (callFunc 130 args).run Try.prog W = .ok (.enter 130 args) W := by kernel_rfl
theorem zero_string (w : World) : (zeroValue 9).run Try.prog w = .ok (Value.string ByteArray.empty) w := by kernel_rfl
theorem delete_keys (a b : ByteArray) (B4 B5 : Nat) (q : List ByteArray) (v : Value) (w0 w : World) (hq : q.length ≤ 60) (h4 : w.cell? ⟨B4, 0, none⟩ = some (.string a)) (h5 : w.cell? ⟨B5, 0, none⟩ = some (.string b)) (hb4 : B4 < w0.heap.size) (hb5 : B5 < w0.heap.size)
    (ho : w.ownsRow w0.heap.size 9 1 v q.length (q.map fun c => Value.string c)) (E : Ext w0 w) :
    Calls Try.prog 129 #[v, .func (.func 130) #[] #[.pointer (some ⟨B4, 0, none⟩), .pointer (some ⟨B5, 0, none⟩)]] w fun e w' => ∃ v', e = .returned v' ∧ w'.ownsRow w0.heap.size 9 1 v' (q.filter (inR a b)).length ((q.filter (inR a b)).map fun c => Value.string c) ∧ Ext w0 w' := by
  rcases Nat.eq_zero_or_pos q.length with h0 | h0
  · have hq0 := List.eq_nil_of_length_eq_zero h0
    subst hq0
    obtain ⟨A1, c1, rfl⟩ := own_slice ho
    refine (delete_none A1 c1 _ w).mono ?_
    rintro e w' ⟨rfl, rfl⟩
    exact ⟨_, rfl, by simpa using ho, E⟩
  · have hvn : v ≠ .slice none 0 0 := by
      obtain ⟨g, cap, rfl, -⟩ := own_strs ho (List.getElem?_eq_getElem h0)
      intro e; cases e
    obtain ⟨g, cap, rfl, hbg, hgl, hncap, hcm, hlen, hH⟩ := Lib.holds_of_ownsRow ho hvn
    have hw4 : B4 < w.heap.size := Nat.lt_of_lt_of_le hb4 E.le
    have hw5 : B5 < w.heap.size := Nat.lt_of_lt_of_le hb5 E.le
    have hc := AnyE.slices_DeleteFunc Try.laysDelS Value.string (fun _ => rfl) (fun x => !inR a b x) 130 #[.pointer (some ⟨B4, 0, none⟩), .pointer (some ⟨B5, 0, none⟩)] call_rangeKey ByteArray.empty zero_string g 0 cap q.toArray w
      (fun W x hb => range_key a b x B4 B5 W ((hb.cell (p := ⟨B4, 0, none⟩) hw4).trans h4) ((hb.cell (p := ⟨B5, 0, none⟩) hw5).trans h5))
      (fun n os dk x _ => range_key a b x B4 B5 _ (by
        unfold Go.Proofs.sortWorld
        rw [Sort.cell?_grow _ _ _ (by show B4 < (Sort.putRow _ _ _ _ _).heap.size; rw [Sort.size_putRow]; exact hw4), Sort.cell?_putRow_other _ _ g 0 _ _ (Or.inl (by show B4 ≠ g; omega))]
        exact h4) (by
        unfold Go.Proofs.sortWorld
        rw [Sort.cell?_grow _ _ _ (by show B5 < (Sort.putRow _ _ _ _ _).heap.size; rw [Sort.size_putRow]; exact hw5), Sort.cell?_putRow_other _ _ g 0 _ _ (Or.inl (by show B5 ≠ g; omega))]
        exact h5)) hH (by simp; omega) (by simpa using hncap)
    rw [show (q.toArray.toList.filter fun x => !(!inR a b x)) = q.filter (inR a b) by simp] at hc
    refine Calls.mono hc ?_
    rintro e w' ⟨rfl, k, rfl⟩
    have hfl : (q.filter (inR a b)).length ≤ q.length := List.length_filter_le _ _
    have hp := Lib.ownsRow_putRow (q := k) (k := (q.filter (inR a b)).length) (ys := q.filter (inR a b) ++ List.replicate (q.toArray.size - (q.filter (inR a b)).length) ByteArray.empty) ho (by simp; omega) hfl
    rw [List.take_left] at hp
    exact ⟨_, rfl, hp, Lib.below_putRow E hbg⟩
set_option maxHeartbeats 4000000 in
theorem impl_TreeRange (rt : Int) (An : Option Addr) (nn pn : Nat) (l : List XNode) (N : List CNode) (a b : ByteArray) (w : World) (hl : l.length = nn) (hN : l.map XNode.c = N) (hns : nn ≤ 1099511627776) (hx : XSm l) (ha : a.size ≤ 9223372036854775807) (hb : b.size ≤ 9223372036854775807) (hr : NsR w An l) :
    Calls Try.prog 59 #[.agg #[.int .i64 rt, .slice An nn pn], .string a, .string b] w (RgPost w 9 (rgL N rt a b) (rgC N rt a b)) := by
  have hE0 : Ext w ((((w.alloc (.cells #[.int .i64 rt, .slice An nn pn] 89)).alloc (.cells #[.string a] 9)).alloc (.cells #[.string b] 9)).alloc (.cells #[.string a, .string b] 9)) := (by repeat (first | exact Ext.refl _ | assumption | refine Ext.alloc ?_ _ | refine Ext.drewN ?_ _ | refine Ext.drew ?_ | refine Ext.set ?_ (by dsimp only; omega) _ | refine Ext.trans ?_ (by assumption)))
  have hB := Blk.new (((w.alloc (.cells #[.int .i64 rt, .slice An nn pn] 89)).alloc (.cells #[.string a] 9)).alloc (.cells #[.string b] 9)) 9 [.string a, .string b]
  rw [World.size_alloc, World.size_alloc, World.size_alloc] at hB
  have hBa := ((Blk.new (w.alloc (.cells #[.int .i64 rt, .slice An nn pn] 89)) 9 [.string a]).alloc (.cells #[.string b] 9)).alloc (.cells #[.string a, .string b] 9)
  rw [World.size_alloc] at hBa
  have hBb := (Blk.new ((w.alloc (.cells #[.int .i64 rt, .slice An nn pn] 89)).alloc (.cells #[.string a] 9)) 9 [.string b]).alloc (.cells #[.string a, .string b] 9)
  rw [World.size_alloc, World.size_alloc] at hBb
  have HL1 := Lib.hid (impl_isLong (some ⟨w.heap.size + 1 + 1 + 1, 0, none⟩) 2 2 [a, b] ((((w.alloc (.cells #[.int .i64 rt, .slice An nn pn] 89)).alloc (.cells #[.string a] 9)).alloc (.cells #[.string b] 9)).alloc (.cells #[.string a, .string b] 9)) rfl (by omega) hB.rd)
  have HC := Lib.hid (impl_keys rt An nn pn l N ((((w.alloc (.cells #[.int .i64 rt, .slice An nn pn] 89)).alloc (.cells #[.string a] 9)).alloc (.cells #[.string b] 9)).alloc (.cells #[.string a, .string b] 9)) hl hN hns hx (hr.ext hE0))
  have HE0 := Lib.hid hE0
  have HBa := Lib.hid hBa
  have HBb := Lib.hid hBb
  clear hl hN hx hr hE0 hB hBa hBb
  have HLG := Lib.hid (fun h => rg_long (N := N) (rt := rt) (a := a) (b := b) h)
  have HNO := Lib.hid (fun h1 h2 => rg_none (N := N) (rt := rt) (a := a) (b := b) h1 h2)
  have HSO := Lib.hid (fun d q h1 h2 => rg_some (N := N) (rt := rt) (a := a) (b := b) (d := d) (q := q) h1 h2)
  by_cases hlg : 65536 < a.size ∨ 65536 < b.size
  · have hany : ([a, b].any fun s => decide (65536 < s.size)) = true := by simpa using hlg
    rw [hany] at HL1
    have HA := Lib.hid (HLG.out hlg)
    clear hlg hany
    go_enter Try.func59, Try.ntmps59
    go_wp2_with fail
    refine HL1.out.mono ?_
    rintro e w1 ⟨rfl, rfl⟩
    go_wp2_with fail
    go_ret2
    exact RgPost.of HA.out.1 HA.out.2 (World.ownsRow_nil _ _ _ _) HE0.out
  have hany : ([a, b].any fun s => decide (65536 < s.size)) = false := by simp; omega
  rw [hany] at HL1
  have HOR := Lib.hid hlg
  clear hlg hany
  go_enter Try.func59, Try.ntmps59
  go_wp2_with fail
  refine HL1.out.mono ?_
  rintro e w1 ⟨rfl, rfl⟩
  go_wp2_with fail
  generalize ((((w.alloc (.cells #[.int .i64 rt, .slice An nn pn] 89)).alloc (.cells #[.string a] 9)).alloc (.cells #[.string b] 9)).alloc (.cells #[.string a, .string b] 9)) = w4 at HC HE0 HBa HBb HL1 ⊢
  refine HC.out.mono ?_
  rintro e w5 ⟨v, ok, q, rfl, ho, hE, hq, hP⟩
  obtain ⟨A1, c1, rfl⟩ := own_slice ho
  rcases hP with ⟨rfl, d, h⟩ | ⟨rfl, h⟩
  rotate_left
  · have HA := Lib.hid (HNO.out HOR.out h)
    clear h ho
    go_wp2_with fail
    go_ret2
    exact RgPost.of HA.out.1 HA.out.2 (World.ownsRow_nil _ _ _ _) (HE0.out.trans hE)
  have HA := Lib.hid (HSO.out _ _ HOR.out h)
  have HD := Lib.hid (delete_keys a b (w.heap.size + 1) (w.heap.size + 1 + 1) q _ w4 w5 hq ((HBa.out.ext hE).cell (i := 0) (by simp)) ((HBb.out.ext hE).cell (i := 0) (by simp)) HBa.out.lt HBb.out.lt ho hE)
  clear h ho
  go_wp2_with fail
  refine HD.out.mono ?_
  rintro e w6 ⟨v6, rfl, ho6, hE6⟩
  have HO6 := Lib.hid ho6
  clear ho6
  go_wp2_with fail
  go_ret2
  exact RgPost.of HA.out.1 HA.out.2 (own_base HO6.out HE0.out.le) (HE0.out.trans hE6)
end Go.Proofs.Ytnbfjkebakaigaa
