/- The walks of the reference's ReadFields. -/
import Derived.Test.YteaefjicpefgnaaReadFields
import Derived.Test.YteaefjicpefgnaaReadHeader
namespace Go.Proofs.Yteaefjicpefgnaa
open Go.RowKit Go.Deep
set_option linter.unusedVariables false
set_option maxRecDepth 100000
theorem ba_eq {a b : ByteArray} (h : a.data.toList = b.data.toList) : a = b := by
  obtain ⟨a⟩ := a; obtain ⟨b⟩ := b
  simp at h; rw [h]
theorem extract_list (s : ByteArray) (a b : Nat) : (s.extract a b).data.toList = (s.data.toList.drop a).take (b - a) := by
  rw [ByteArray.data_extract]; simp [List.take_drop]
theorem drop_at (s : ByteArray) (k : Nat) (h : k < s.size) : s.data.toList.drop k = s[k] :: s.data.toList.drop (k + 1) := by
  have hk : k < s.data.toList.length := by simpa using h
  rw [List.drop_eq_getElem_cons hk]
  simp only [Array.getElem_toList]; rfl
/-- what is read from a place on -/
theorem rdF_end {s : ByteArray} {k at_ : Nat} (h : s.size ≤ at_) : rdF (k + 1) (s.data.toList.drop at_) = none := by
  have : s.data.toList.drop at_ = [] := List.drop_eq_nil_of_le (by simpa using h)
  rw [this]; rfl
theorem rdF_over {s : ByteArray} {k at_ : Nat} (h : at_ < s.size) (h2 : ¬ at_ + 1 + s[at_].toNat ≤ s.size) : rdF (k + 1) (s.data.toList.drop at_) = none := by
  rw [drop_at s at_ h]
  simp only [rdF]
  rw [if_neg]
  simp only [List.length_drop, Array.length_toList]
  show ¬ _ ≤ s.size - _
  omega
theorem rdF_go {s : ByteArray} {k at_ : Nat} (h : at_ < s.size) (h2 : at_ + 1 + s[at_].toNat ≤ s.size) : rdF (k + 1) (s.data.toList.drop at_) = (rdF k (s.data.toList.drop (at_ + (1 + s[at_].toNat)))).map (s.extract (at_ + 1) (at_ + 1 + s[at_].toNat) :: ·) := by
  rw [drop_at s at_ h]
  simp only [rdF]
  rw [if_pos, List.drop_drop]
  · have e1 : at_ + 1 + s[at_].toNat = at_ + (1 + s[at_].toNat) := by omega
    have e2 : (⟨((s.data.toList.drop (at_ + 1)).take s[at_].toNat).toArray⟩ : ByteArray) = s.extract (at_ + 1) (at_ + 1 + s[at_].toNat) := by
      apply ba_eq
      rw [extract_list]
      simp [Nat.add_sub_cancel_left]
    rw [e2, e1]
  · simp only [List.length_drop, Array.length_toList]
    show _ ≤ s.size - _
    omega
theorem rdF_zero {s : ByteArray} {at_ : Nat} (h : at_ ≤ s.size) : rdF 0 (s.data.toList.drop at_) = if at_ = s.size then some [] else none := by
  unfold rdF
  have : (s.data.toList.drop at_ = []) ↔ (at_ = s.size) := by
    rw [List.drop_eq_nil_iff]; simp; omega
  simp only [this]
theorem rfO_first {s : ByteArray} (h : 0 < s.size) (h2 : s[0].toNat ≤ 100) : rfO s.data.toList = rdF s[0].toNat (s.data.toList.drop 1) := by
  have := drop_at s 0 h
  rw [List.drop_zero] at this
  rw [this]
  simp only [rfO, if_pos h2]; rfl
theorem rfO_many {s : ByteArray} (h : 0 < s.size) (h2 : ¬ s[0].toNat ≤ 100) : rfO s.data.toList = none := by
  have := drop_at s 0 h
  rw [List.drop_zero] at this
  rw [this]
  simp only [rfO, if_neg h2]
theorem rfO_nil {s : ByteArray} (h : s.size = 0) : rfO s.data.toList = none := by
  have : s.data.toList = [] := List.eq_nil_of_length_eq_zero (by simpa using h)
  rw [this]; rfl
/-- what l01Read hands back -/
def RdPost (w : World) (T : TypeId) (o : Option (List ByteArray)) (e : Ending) (w' : World) : Prop :=
  ∃ v, e = .returned (.tuple #[v, .bool o.isSome]) ∧ w'.ownsRow w.heap.size T 1 v (o.getD []).length ((o.getD []).map fun c => Value.string c) ∧ Ext w w'
theorem RdPost.no {w w' : World} {T : TypeId} {o : Option (List ByteArray)} {v : Value} (ho : o = none) (h : w'.ownsRow w.heap.size T 1 v 0 []) (E : Ext w w') : RdPost w T o (.returned (.tuple #[v, .bool false])) w' := by
  subst ho; exact ⟨v, rfl, h, E⟩
theorem RdPost.yes {w w' : World} {T : TypeId} {o : Option (List ByteArray)} {l : List ByteArray} {v : Value} (ho : o = some l) (h : w'.ownsRow w.heap.size T 1 v l.length (l.map fun c => Value.string c)) (E : Ext w w') : RdPost w T o (.returned (.tuple #[v, .bool true])) w' := by
  subst ho; exact ⟨v, rfl, h, E⟩
set_option maxHeartbeats 2000000 in
theorem spec_l01Read (s : ByteArray) (w : World) (hs : s.size ≤ 1000000) :
    Calls Try.prog 66 #[.string s] w (RdPost w 9 (rfO s.data.toList)) := by
  have hinit := World.ownsRow_lit (base := w.heap.size) (e := 9) (size := 1) w #[] 0 (Nat.le_refl _) (by unfold maxLen; omega) rfl
  have HI := Lib.hid hinit
  clear hinit
  obtain ⟨i0, hi, hz0, hz1, hz2⟩ := info_parts info_StringS
  by_cases h0 : s.size = 0
  · have hb := str_nil h0
    have HV := Lib.hid (rfO_nil h0)
    clear h0
    go_enter Try.func66, Try.ntmps66
    go_wp2_with fail
    go_ret2
    exact .no HV.out HI.out (by repeat (first | exact Ext.refl _ | assumption | refine Ext.alloc ?_ _ | refine Ext.drewN ?_ _ | refine Ext.drew ?_ | refine Ext.set ?_ (by dsimp only; omega) _ | refine Ext.trans ?_ (by assumption)))
  have hb := str_some h0
  have hp : 0 < s.size := by omega
  have h8 : s[0].toNat < 256 := s[0].toNat_lt
  by_cases hm : s[0].toNat ≤ 100
  · have HV := Lib.hid (rfO_first hp hm)
    have hmI : ¬ (100 : Int) < (s[0].toNat : Int) := by omega
    generalize hO : rfO s.data.toList = O at HV ⊢
    clear hO h0
    go_enter Try.func66, Try.ntmps66
    go_wp2_with fail
    go_loopw [6, 5, 4, 7] (fun i a v u wr => ∃ (k q : Nat) (acc : List ByteArray), i = .int .i64 k ∧ a = .int .i64 q ∧ q ≤ s.size ∧ acc.length + k ≤ 100 ∧ (rdF k (s.data.toList.drop q)).map (acc ++ ·) = O ∧ wr.ownsRow w.heap.size 9 1 v acc.length (acc.map fun c => Value.string c) ∧ Ext w wr) (fun i _ _ _ _ => (intOf i).toNat)
    case atStart => exact ⟨s[0].toNat, 1, [], rfl, rfl, by omega, by simp; omega, by rw [HV.out]; simp, HI.out, (by repeat (first | exact Ext.refl _ | assumption | refine Ext.alloc ?_ _ | refine Ext.drewN ?_ _ | refine Ext.drew ?_ | refine Ext.set ?_ (by dsimp only; omega) _ | refine Ext.trans ?_ (by assumption)))⟩
    case round =>
      obtain ⟨k, q, acc, rfl, rfl, hq, hak, hf, ho, hE⟩ := hrel
      have HF := Lib.hid hf
      have HO := Lib.hid ho
      clear hf ho
      by_cases hk : k = 0
      · subst hk
        have HF2 := Lib.hid (show (if q = s.size then some acc else none) = O by
          have := HF.out
          rw [rdF_zero hq] at this
          rw [← this]
          by_cases e : q = s.size
          · rw [if_pos e, if_pos e]; simp
          · rw [if_neg e, if_neg e]; rfl)
        by_cases hqs : q = s.size
        · have hqI : ((q : Int) != (s.size : Int)) = false := by rw [hqs]; simp
          have HF3 := Lib.hid (show O = some acc by rw [← HF2.out, if_pos hqs])
          clear hqs
          go_wp2_with fail
          go_ret2
          exact .yes HF3.out HO.out hE
        · have hqI : ((q : Int) != (s.size : Int)) = true := by rw [bne_iff_ne]; omega
          have HF3 := Lib.hid (show O = none by rw [← HF2.out, if_neg hqs])
          have hnew := World.ownsRow_lit (base := w.heap.size) (e := 9) (size := 1) wr #[] 0 hE.le (by unfold maxLen; omega) rfl
          have HN := Lib.hid hnew
          clear hqs hnew
          go_wp2_with fail
          go_ret2
          exact .no HF3.out HN.out (hE.alloc _)
      obtain ⟨j, rfl⟩ : ∃ j, k = j + 1 := ⟨k - 1, by omega⟩
      have hkI : (0 : Int) < ((j + 1 : Nat) : Int) := by omega
      have hnew := World.ownsRow_lit (base := w.heap.size) (e := 9) (size := 1) wr #[] 0 hE.le (by unfold maxLen; omega) rfl
      have HN := Lib.hid hnew
      clear hnew hk
      by_cases hqs : s.size ≤ q
      · have hqI : (s.size : Int) ≤ (q : Int) := by omega
        have HF3 := Lib.hid (show O = none by rw [← HF.out, rdF_end hqs]; rfl)
        go_wp2_with fail
        go_ret2
        exact .no HF3.out HN.out (hE.alloc _)
      have hqI : ¬ (s.size : Int) ≤ (q : Int) := by omega
      have hq2 : q < s.size := by omega
      have hq3 : (q : Int) < (s.size : Int) := by omega
      have h8 : s[q].toNat < 256 := s[q].toNat_lt
      by_cases hov : q + 1 + s[q].toNat ≤ s.size
      · have hovI : ¬ (s.size : Int) < (q : Int) + 1 + (s[q].toNat : Int) := by omega
        have HF3 := Lib.hid (show (rdF j (s.data.toList.drop (q + (1 + s[q].toNat)))).map ((acc ++ [s.extract (q + 1) (q + 1 + s[q].toNat)]) ++ ·) = O by
          rw [← HF.out, rdF_go hq2 hov, Option.map_map]
          congr 1
          funext x; simp)
        have hs1 : (q : Int) + 1 ≤ (q : Int) + 1 + (s[q].toNat : Int) := by omega
        have hs2 : (q : Int) + 1 + (s[q].toNat : Int) ≤ (s.size : Int) := by omega
        have hs0 : (0 : Int) ≤ (q : Int) + 1 := by omega
        have hs4 : (0 : Int) ≤ (q : Int) + 1 + (s[q].toNat : Int) := by omega
        have t1 : ((q : Int) + 1).toNat = q + 1 := by omega
        have t2 : ((q : Int) + 1 + (s[q].toNat : Int)).toNat = q + 1 + s[q].toNat := by omega
        generalize hX : s.extract (q + 1) (q + 1 + s[q].toNat) = X at HF3
        have hle := hE.le
        have hrow := own_ext HO.out ((Ext.refl wr).alloc (.cells #[.string X] 9))
        have hall : acc.length + 1 + j ≤ 100 := by omega
        clear HN hqs hak
        go_wp2_with (at_builtin; refine wpList_append_own _ rfl (.tmp 45) (.tmp 54) 32 rfl w.heap.size 9 i0 (.string ByteArray.empty) 1 16 Try.underlying32 hi hz0 hz1 hz2 rfl (by decide) _ acc.length _ rfl hrow ⟨wr.heap.size, 0, none⟩ 1 1 [.string X] rfl rfl (rd_add (Blk.new wr _ _).rd) (by intro u hu; simp at hu; subst hu; rfl) (by unfold maxLen; omega) (by omega) (by simp; omega) ?_)
        intro v4 w4 ho4 hg4 _
        have HO4 := Lib.hid ho4
        have E4 : Ext w w4 := (hE.alloc _).grown hg4 (own_blk hrow)
        have HX := Lib.hid hX
        clear ho4 hg4 hrow hX
        go_wp2_with fail
        go_roundw
        case rel => exact ⟨j, q + (1 + s[q].toNat), acc ++ [X], by go_num, by go_num, by omega, by rw [List.length_append]; exact hall, HF3.out, by rw [List.length_append, List.map_append]; exact HO4.out, E4⟩
        case measure => simp [intOf]
      · have hovI : (s.size : Int) < (q : Int) + 1 + (s[q].toNat : Int) := by omega
        have HF3 := Lib.hid (show O = none by rw [← HF.out, rdF_over hq2 hov]; rfl)
        go_wp2_with fail
        go_ret2
        exact .no HF3.out HN.out (hE.alloc _)
  · have hmI : (100 : Int) < (s[0].toNat : Int) := by omega
    have HV := Lib.hid (rfO_many hp hm)
    clear h0
    go_enter Try.func66, Try.ntmps66
    go_wp2_with fail
    go_ret2
    exact .no HV.out HI.out (by repeat (first | exact Ext.refl _ | assumption | refine Ext.alloc ?_ _ | refine Ext.drewN ?_ _ | refine Ext.drew ?_ | refine Ext.set ?_ (by dsimp only; omega) _ | refine Ext.trans ?_ (by assumption)))
set_option maxHeartbeats 1000000 in
theorem spec_ReadFields (A : Option Addr) (n cp : Nat) (l : List UInt8) (w : World) (hl : l.length = n) (hn : n ≤ 1099511627776) (hr : Rd w A (l.map fun c => Value.int .u8 (c.toNat : Int))) :
    Calls Try.prog 23 #[.slice A n cp] w fun e w' => ∃ v, e = .returned (.tuple #[v, .int .i64 (rfC l)]) ∧ w'.ownsRow w.heap.size 9 1 v (rfL l).length ((rfL l).map fun c => Value.string c) ∧ Ext w w' := by
  by_cases h1 : 65536 < n
  · have HV := Lib.hid (rf_long (l := l) (by omega))
    have h1I : (65536 : Int) < (n : Int) := by omega
    have HI := Lib.hid (World.ownsRow_lit (base := w.heap.size) (e := 9) (size := 1) w #[] 0 (Nat.le_refl _) (by unfold maxLen; omega) rfl)
    clear hl hr
    go_enter Try.func23, Try.ntmps23
    go_wp2_with fail
    go_ret2
    rw [HV.out.1, HV.out.2]
    exact ⟨_, rfl, HI.out, (by repeat (first | exact Ext.refl _ | assumption | refine Ext.alloc ?_ _ | refine Ext.drewN ?_ _ | refine Ext.drew ?_ | refine Ext.set ?_ (by dsimp only; omega) _ | refine Ext.trans ?_ (by assumption)))⟩
  have h1I : ¬ (65536 : Int) < (n : Int) := by omega
  have h1' : ¬ 65536 < l.length := by omega
  have hcv := run_text (P := Try.prog) (src := 22) (dst := 9) Try.underlying22 Try.underlying5 Try.underlying9 w A n cp l hl hr
  have hE := spec_l01Read (⟨l.toArray⟩ : ByteArray) w (by show l.toArray.size ≤ 1000000; simp; omega)
  have e2 : (⟨l.toArray⟩ : ByteArray).data.toList = l := by simp
  rw [e2] at hE
  generalize (⟨l.toArray⟩ : ByteArray) = s at hcv hE
  clear e2 h1
  unfold RdPost at hE
  rcases ho : rfO l with _ | o
  · have HV := Lib.hid (rf_none h1' ho)
    rw [ho] at hE
    have HE := Lib.hid hE
    clear hl hE h1' hr ho
    go_enter Try.func23, Try.ntmps23
    go_wp2_with fail
    refine (HE.out).mono ?_
    rintro e w1 ⟨v, rfl, O1, E1⟩
    have HI := Lib.hid (World.ownsRow_lit (base := w.heap.size) (e := 9) (size := 1) w1 #[] 0 E1.le (by unfold maxLen; omega) rfl)
    clear O1
    go_wp2_with fail
    go_ret2
    rw [HV.out.1, HV.out.2]
    exact ⟨_, rfl, HI.out, E1.alloc _⟩
  · have HV := Lib.hid (rf_some h1' ho)
    rw [ho] at hE
    have HE := Lib.hid hE
    clear hl hE h1' hr ho
    go_enter Try.func23, Try.ntmps23
    go_wp2_with fail
    refine (HE.out).mono ?_
    rintro e w1 ⟨v, rfl, O1, E1⟩
    have HO := Lib.hid O1
    clear O1
    go_wp2_with fail
    go_ret2
    rw [HV.out.1, HV.out.2]
    exact ⟨_, rfl, HO.out, E1⟩
end Go.Proofs.Yteaefjicpefgnaa
