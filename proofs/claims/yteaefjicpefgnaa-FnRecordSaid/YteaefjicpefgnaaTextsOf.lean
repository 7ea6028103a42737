/- The walks of FnFields: drawn texts, two lists alike; fields are read back (plain). -/
import Derived.Test.YteaefjicpefgnaaSrc2
import Derived.Test.YteaefjicpefgnaaFieldsB
import Derived.Test.YteaefjicpefgnaaLawReadFields
namespace Go.Proofs.Yteaefjicpefgnaa
open Go.RowKit Go.Deep
set_option linter.unusedVariables false
set_option maxRecDepth 100000
theorem rdF_back (ts : List ByteArray) (h : ∀ t ∈ ts, t.size ≤ 255) : rdF ts.length (ts.flatMap oneF) = some ts := by
  induction ts with
  | nil => rfl
  | cons t r ih =>
    have ht := h t (by simp)
    have e1 : (UInt8.ofNat t.size).toNat = t.size := by rw [UInt8.toNat_ofNat']; omega
    have e2 : (t :: r).flatMap oneF = UInt8.ofNat t.size :: (t.data.toList ++ r.flatMap oneF) := by rw [List.flatMap_cons]; rfl
    have e3 : t.data.toList.length = t.size := by simp
    rw [e2, List.length_cons]
    unfold rdF
    rw [e1, if_pos (by rw [List.length_append]; omega), List.drop_left' e3, List.take_left' e3, ih (fun x hx => h x (by simp [hx]))]
    simp
theorem rfO_back (ts : List ByteArray) (hn : ts.length ≤ 100) (h : longF ts = false) : rfO (fieldsB ts) = some ts := by
  have e1 : (UInt8.ofNat ts.length).toNat = ts.length := by rw [UInt8.toNat_ofNat']; omega
  show (if (UInt8.ofNat ts.length).toNat ≤ 100 then rdF (UInt8.ofNat ts.length).toNat (ts.flatMap oneF) else none) = some ts
  rw [e1, if_pos hn]
  exact rdF_back ts (longF_mem h)
theorem rdF_forth (k : Nat) : ∀ (l : List UInt8) (o : List ByteArray), rdF k l = some o → o.flatMap oneF = l ∧ ∀ t ∈ o, t.size ≤ 255 := by
  induction k with
  | zero =>
    intro l o h
    unfold rdF at h
    by_cases hl : l = []
    · rw [if_pos hl] at h; injection h with h; subst h; exact ⟨hl.symm, by simp⟩
    · rw [if_neg hl] at h; cases h
  | succ k ih =>
    intro l o h
    cases l with
    | nil => cases h
    | cons c r =>
      unfold rdF at h
      by_cases hc : c.toNat ≤ r.length
      · rw [if_pos hc] at h
        rcases hq : rdF k (r.drop c.toNat) with _ | q
        · rw [hq] at h; cases h
        · rw [hq] at h
          injection h with h
          subst h
          obtain ⟨h1, h2⟩ := ih _ _ hq
          have hsz : (⟨(r.take c.toNat).toArray⟩ : ByteArray).size = c.toNat := by show (r.take c.toNat).toArray.size = _; simp; omega
          refine ⟨?_, ?_⟩
          · rw [List.flatMap_cons, h1]
            unfold oneF
            rw [hsz]
            simp
          · intro t ht
            rcases List.mem_cons.1 ht with rfl | ht
            · rw [hsz]; have := c.toNat_lt; omega
            · exact h2 t ht
      · rw [if_neg hc] at h; cases h
theorem rfO_forth {l : List UInt8} {o : List ByteArray} (h : rfO l = some o) : fieldsB o = l ∧ o.length ≤ 100 ∧ longF o = false := by
  cases l with
  | nil => cases h
  | cons c r =>
    have h0 : (if c.toNat ≤ 100 then rdF c.toNat r else none) = some o := h
    by_cases hc : c.toNat ≤ 100
    · rw [if_pos hc] at h0
      have hl := rdF_len _ _ _ h0
      obtain ⟨h1, h2⟩ := rdF_forth _ _ _ h0
      refine ⟨?_, by omega, ?_⟩
      · show UInt8.ofNat o.length :: o.flatMap oneF = c :: r
        rw [h1, hl]; simp
      · unfold longF
        rw [List.any_eq_false]
        intro t ht
        have := h2 t ht
        simp; omega
    · rw [if_neg hc] at h0; cases h0
theorem own_full {w : World} {B n m cap : Nat} {e : TypeId} {A : Option Addr} {xs : List Value} (h : w.ownsRow B e 1 (.slice A m cap) n xs) : n ≤ cap ∧ cap ≤ maxLen ∧ Stay w w A e := by
  obtain ⟨_, h⟩ := h
  rcases h with ⟨h, h2⟩ | ⟨g, cap', cur, h, hb, hh, h1, h2, _⟩
  · injection h with ha hb hc
    subst hc; subst h2
    exact ⟨Nat.le_refl _, by unfold maxLen; omega, fun a hA => by rw [ha] at hA; cases hA⟩
  · injection h with ha hb hc
    subst hc
    refine ⟨h1, h2, fun a hA => ?_⟩
    rw [ha] at hA
    injection hA with hA
    subst hA
    exact ⟨rfl, _, _, hh⟩
set_option maxHeartbeats 1000000 in
theorem spec_TextsOf (A : Option Addr) (n cp : Nat) (l : List UInt8) (w : World) (hl : l.length = n) (hn : n ≤ 1048576) (hr : Rd w A (l.map fun c => Value.int .u8 (c.toNat : Int))) :
    Calls Try.prog 32 #[.slice A n cp] w (TxPost w w 9) := by
  have hsrc : Calls Try.prog 74 #[.slice A n cp] w fun e w' => e = .returned (.pointer (some ⟨w.heap.size, 0, none⟩)) ∧ Src w w' w.heap.size 123 0 ∧ w.heap.size ≤ w'.heap.size := by
    have es : (n : Int).tmod 1000 = ((n % 1000 : Nat) : Int) := by rw [Int.tmod_eq_emod_of_nonneg (by omega)]; omega
    have hB := Blk.new w 123 [.slice A n cp, .int .i64 0, .int .i64 (((n % 1000 : Nat)) : Int)]
    have hlt : n % 1000 < 1000 := Nat.mod_lt _ (by omega)
    have HS := Lib.hid (show Src w (w.alloc (.cells #[.slice A n cp, .int .i64 0, .int .i64 (((n % 1000 : Nat)) : Int)] 123)) w.heap.size 123 0 from ⟨Nat.le_refl _, (by repeat (first | exact Ext.refl _ | assumption | refine Ext.alloc ?_ _ | refine Ext.drewN ?_ _ | refine Ext.drew ?_ | refine Ext.set ?_ (by dsimp only; omega) _ | refine Ext.trans ?_ (by assumption))), A, n, cp, l, 0, n % 1000, hB, hl, hn, hr, Nat.le_refl _, by omega⟩)
    have HL := Lib.hid (show w.heap.size ≤ (w.alloc (.cells #[.slice A n cp, .int .i64 0, .int .i64 (((n % 1000 : Nat)) : Int)] 123)).heap.size by simp)
    clear hl hr hB hlt es
    go_enter Try.func74, Try.ntmps74
    go_wp2_with fail
    go_ret
    exact ⟨rfl, HS.out, HL.out⟩
  have HC := Lib.hid hsrc
  clear hsrc hl hr
  go_enter Try.func32, Try.ntmps32
  go_wp2_with fail
  refine HC.out.mono ?_
  rintro e w1 ⟨rfl, hS1, hle⟩
  have HT := Lib.hid (src_texts w w1 w.heap.size 0 hle hS1 (by omega))
  have hle1 := Lib.hid hle
  clear hS1 hle HC
  go_wp2_with fail
  refine HT.out.mono ?_
  rintro e w2 ⟨v, L, rfl, h1, h2, h3, h4⟩
  have H3 := Lib.hid h3
  have H2 := Lib.hid h2
  clear h3 h2 HT
  go_wp2_with fail
  go_ret
  exact ⟨_, L, rfl, h1, H2.out, own_base H3.out hle1.out, h4⟩
set_option maxHeartbeats 2000000 in
theorem sameTexts_same (A A2 : Option Addr) (n cp cp2 : Nat) (l : List ByteArray) (w : World) (hl : l.length = n) (hn : n ≤ 1000000) (hr : Rd w A (l.map fun c => Value.string c)) (hr2 : Rd w A2 (l.map fun c => Value.string c)) :
    Calls Try.prog 33 #[.slice A n cp, .slice A2 n cp2] w fun e w' => e = .returned (.bool true) ∧ Ext w w' := by
  have HR := Lib.hid hr
  have HR2 := Lib.hid hr2
  have HL := Lib.hid hl
  clear hr hr2 hl
  go_enter Try.func33, Try.ntmps33
  go_wp2_with fail
  go_loopw [5] (fun i wr => ∃ j : Nat, i = .int .i64 j ∧ j ≤ n ∧ Ext w wr) (fun i _ => n - (intOf i).toNat)
  case atStart => exact ⟨0, rfl, by omega, Ext.refl _⟩
  case round =>
    obtain ⟨j, rfl, hj, hE⟩ := hrel
    by_cases hjn : j = n
    · subst hjn
      go_wp2_with fail
      go_ret
      exact ⟨rfl, hE⟩
    have hjl : j < l.length := by rw [HL.out]; omega
    have hjI : (j : Int) < (n : Int) := by omega
    have hjN : j < n := by omega
    have hne : (l.map fun c => Value.string c) ≠ [] := by intro e; rw [List.map_eq_nil_iff.1 e] at hjl; simp at hjl
    obtain ⟨b1, o1, hA1, -⟩ := HR.out hne
    obtain ⟨b2, o2, hA2, -⟩ := HR2.out hne
    subst hA1; subst hA2
    obtain ⟨x, hx⟩ : ∃ x, l[j]? = some x := ⟨_, List.getElem?_eq_getElem hjl⟩
    have HX := Lib.hid hx

    clear hx hne hjl hjn
    go_wp2_with fail
    refine rg_startS (fun W => Rd W (some ⟨b1, o1, none⟩) (l.map fun c => Value.string c) ∧ Rd W (some ⟨b2, o2, none⟩) (l.map fun c => Value.string c)) (by kernel_rfl) ⟨(HR.out.ext hE).ext (Ext.refl wr).drew, (HR2.out.ext hE).ext (Ext.refl wr).drew⟩ (fun hS0 => ?_)
    (refine rg_take (v := ?_) 0 rfl (by kernel_rfl) (by kernel_rfl) (by kernel_rfl) (fun _ _ _ h => h) (by rfl) (by assumption) (fun W hW => ?_) ?_; rotate_left; (focus (go_simp; try with_reducible rfl)); (try simp only [List.setIfInBounds_toArray, List.set_cons_succ, List.set_cons_zero]))
    (refine rg_take (v := ?_) 1 rfl (by kernel_rfl) (by kernel_rfl) (by kernel_rfl) (fun _ _ _ h => h) (by rfl) (by assumption) (fun W hW => ?_) ?_; rotate_left; (focus (go_simp; try with_reducible rfl)); (try simp only [List.setIfInBounds_toArray, List.set_cons_succ, List.set_cons_zero]))
    (refine rg_take (v := ?_) 2 rfl (by kernel_rfl) (by kernel_rfl) (by kernel_rfl) (fun _ _ _ h => h) (by rfl) (by assumption) (fun W hW => ?_) ?_; rotate_left; (focus (go_simp; try with_reducible rfl)); (try simp only [List.setIfInBounds_toArray, List.set_cons_succ, List.set_cons_zero]))
    (refine rg_take (v := ?_) 3 rfl (by kernel_rfl) (by kernel_rfl) (by kernel_rfl) (fun _ _ _ h => h) (by rfl) (by assumption) (fun W hW => ?_) ?_; rotate_left; (focus (have q0 := rd_text hW.1 HX.out; go_simp; try with_reducible rfl)); (try simp only [List.setIfInBounds_toArray, List.set_cons_succ, List.set_cons_zero]))
    (refine rg_take (v := ?_) 4 rfl (by kernel_rfl) (by kernel_rfl) (by kernel_rfl) (fun _ _ _ h => h) (by rfl) (by assumption) (fun W hW => ?_) ?_; rotate_left; (focus (go_simp; try with_reducible rfl)); (try simp only [List.setIfInBounds_toArray, List.set_cons_succ, List.set_cons_zero]))
    (refine rg_take (v := ?_) 5 rfl (by kernel_rfl) (by kernel_rfl) (by kernel_rfl) (fun _ _ _ h => h) (by rfl) (by assumption) (fun W hW => ?_) ?_; rotate_left; (focus (go_simp; try with_reducible rfl)); (try simp only [List.setIfInBounds_toArray, List.set_cons_succ, List.set_cons_zero]))
    (refine rg_take (v := ?_) 6 rfl (by kernel_rfl) (by kernel_rfl) (by kernel_rfl) (fun _ _ _ h => h) (by rfl) (by assumption) (fun W hW => ?_) ?_; rotate_left; (focus (go_simp; try with_reducible rfl)); (try simp only [List.setIfInBounds_toArray, List.set_cons_succ, List.set_cons_zero]))
    (refine rg_take (v := ?_) 7 rfl (by kernel_rfl) (by kernel_rfl) (by kernel_rfl) (fun _ _ _ h => h) (by rfl) (by assumption) (fun W hW => ?_) ?_; rotate_left; (focus (have q0 := rd_text hW.2 HX.out; go_simp; try with_reducible rfl)); (try simp only [List.setIfInBounds_toArray, List.set_cons_succ, List.set_cons_zero]))
    (refine rg_take (v := ?_) 8 rfl (by kernel_rfl) (by kernel_rfl) (by kernel_rfl) (fun _ _ _ h => h) (by rfl) (by assumption) (fun W hW => ?_) ?_; rotate_left; (focus (go_simp; try with_reducible rfl)); (try simp only [List.setIfInBounds_toArray, List.set_cons_succ, List.set_cons_zero]))
    refine rg_done (by kernel_rfl) ?_
    clear hS0
    go_wp2_with fail
    go_roundw
    case rel => exact ⟨j + 1, by go_num, by omega, hE.drew⟩
    case measure => simp [intOf]; omega
end Go.Proofs.Yteaefjicpefgnaa
