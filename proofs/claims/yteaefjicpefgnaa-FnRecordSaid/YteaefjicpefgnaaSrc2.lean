/- The walks of the source of choices: picks, texts. -/
import Derived.Test.YteaefjicpefgnaaSrc
import Derived.Test.YteaefjicpefgnaaCheck2
import Derived.Test.YteaefjicpefgnaaReadFields2
namespace Go.Proofs.Yteaefjicpefgnaa
open Go.RowKit Go.Deep
set_option linter.unusedVariables false
set_option maxRecDepth 100000
theorem Src.blk {w0 w : World} {b K : Nat} {T : TypeId} (h : Src w0 w b T K) : ∃ A n cp x y, Blk w b T [.slice A n cp, .int .i64 x, .int .i64 y] := by
  obtain ⟨h0, h1, A, n, cp, l, a, s, hB, r⟩ := h
  exact ⟨A, n, cp, a, s, hB⟩
theorem Src.row {w0 w w' : World} {b K : Nat} {T : TypeId} {row : Option Nat} (h : Src w0 w b T K) (hg : w.grownBy w' row) (hr : ∀ c, row = some c → w0.heap.size ≤ c ∧ b ≠ c) : Src w0 w' b T K := by
  cases row with
  | none => exact h.ext ((Ext.refl w).grown hg (fun k hk => by cases hk))
  | some c => exact h.far hg (hr c rfl).1 (hr c rfl).2
theorem Src.rd {w0 w w' : World} {b K : Nat} {T : TypeId} {A : Option Addr} {xs : List ByteArray} (h : Src w0 w b T K) (hr : Rd w A (xs.map fun c => Value.string c)) (hg : w.grownBy w' (some b)) : Rd w' A (xs.map fun c => Value.string c) := by
  obtain ⟨B, n, cp, x, y, hB⟩ := h.blk
  exact rd_stays hr hB (fun x hx => by
    obtain ⟨c, -, rfl⟩ := List.mem_map.1 hx
    simp) hg
theorem rd_text {W : World} {bA o i : Nat} {l : List ByteArray} {x : ByteArray} (h : Rd W (some ⟨bA, o, none⟩) (l.map fun c => Value.string c)) (hi : l[i]? = some x) : W.cell? ⟨bA, o + i, none⟩ = some (.string x) := by
  have hne : (l.map fun c => Value.string c) ≠ [] := by
    intro e
    rw [List.map_eq_nil_iff.1 e] at hi; simp at hi
  obtain ⟨b', o', e, hx⟩ := h hne
  injection e with e
  injection e with e1 e2 _
  subst e1; subst e2
  exact hx i (.string x) (by rw [List.getElem?_map, hi]; rfl)
set_option maxHeartbeats 1000000 in
theorem src_pick (w0 w : World) (b K : Nat) (A : Option Addr) (n cp : Nat) (l : List ByteArray) (hS : Src w0 w b 123 K) (hK : K ≤ 1000000000) (hl : l.length = n) (h1 : 2 ≤ n) (h2 : n ≤ 256) (hr : Rd w A (l.map fun c => Value.string c)) :
    Calls Try.prog 106 #[.pointer (some ⟨b, 0, none⟩), .slice A n cp] w fun e w' => (∃ x, e = .returned (.string x) ∧ x ∈ l) ∧ Src w0 w' b 123 (K + 1) ∧ w.grownBy w' (some b) := by
  have HN := Lib.hid (src_next w0 w b K n hS hK h1 h2)
  obtain ⟨bA, o, rfl, -⟩ := hr (by intro e; rw [List.map_eq_nil_iff.1 e] at hl; simp at hl; omega)
  have HS := Lib.hid hS
  have hr0 := Lib.hid hr
  have hnI : ((n : Int) == 0) = false := by simp; omega
  have hnI2 : (n : Int) ≠ 0 := by omega
  clear hS hr
  go_enter Try.func106, Try.ntmps106
  go_wp2_with fail
  refine HN.out.mono ?_
  rintro e w1 ⟨⟨v, rfl, hv⟩, hS1, hG⟩
  have hr1 := HS.out.rd hr0.out hG
  have HS1 := Lib.hid hS1
  have HG1 := Lib.hid hG
  have hvl : v < l.length := by omega
  have hvI : (v : Int) < (n : Int) := by omega
  have hk := rd_text hr1 (List.getElem?_eq_getElem hvl)
  have hmem : l[v] ∈ l := List.getElem_mem hvl
  generalize l[v] = x at hk hmem
  clear hS1 hG HN hr1 hl hvl
  go_wp2_with fail
  go_ret
  exact ⟨⟨x, rfl, hmem⟩, HS1.out, HG1.out⟩
def TxPost (w0 w : World) (T : TypeId) (e : Ending) (w' : World) : Prop := ∃ (v : Value) (L : List ByteArray), e = .returned v ∧ L.length ≤ 5 ∧ (∀ x ∈ L, x.size ≤ 4) ∧ w'.ownsRow w.heap.size T 1 v L.length (L.map fun c => Value.string c) ∧ Ext w0 w'
def srcTexts : List ByteArray := [⟨#[]⟩, ⟨#[97]⟩, ⟨#[116, 101, 120, 116]⟩, ⟨#[0, 1]⟩]
theorem srcTexts_small : ∀ x ∈ srcTexts, x.size ≤ 4 := by
  intro x hx
  simp only [srcTexts, List.mem_cons, List.not_mem_nil, or_false] at hx
  rcases hx with rfl | rfl | rfl | rfl <;> decide
set_option maxHeartbeats 2000000 in
theorem src_texts (w0 w : World) (b K : Nat) (hww : w0.heap.size ≤ w.heap.size) (hS : Src w0 w b 123 K) (hK : K ≤ 1000000) :
    Calls Try.prog 75 #[.pointer (some ⟨b, 0, none⟩)] w (TxPost w0 w 9) := by
  have hinit := World.ownsRow_lit (base := w.heap.size) (e := 9) (size := 1) w #[] 0 (Nat.le_refl _) (by unfold maxLen; omega) rfl
  have HI := Lib.hid hinit
  have E0 : Ext w (w.alloc (.cells #[] 9)) := (by repeat (first | exact Ext.refl _ | assumption | refine Ext.alloc ?_ _ | refine Ext.drewN ?_ _ | refine Ext.drew ?_ | refine Ext.set ?_ (by dsimp only; omega) _ | refine Ext.trans ?_ (by assumption)))
  have HN := Lib.hid (src_next w0 _ b K 6 (hS.ext E0) (by omega) (by omega) (by omega))
  obtain ⟨i0, hi, hz0, hz1, hz2⟩ := info_parts info_StringS
  have hbw := hS.lt
  clear hinit hS E0
  go_enter Try.func75, Try.ntmps75
  go_wp2_with fail
  refine HN.out.mono ?_
  rintro e w1 ⟨⟨k, rfl, hk⟩, hS1, hG1⟩
  have h0 := hS1.1
  have hown := own_far HI.out hG1 (fun e => by have := own_blk HI.out _ e; omega)
  have HOW := Lib.hid hown
  have hle1 : w.heap.size ≤ w1.heap.size := by have := hG1.size; simp at this; omega
  have HS1 := Lib.hid hS1
  clear hS1 hG1 hown HI HN
  go_wp2_with fail
  go_loopw [4, 3] (fun i v wr => ∃ (j q : Nat) (L : List ByteArray), i = .int .i64 j ∧ L.length + j ≤ 5 ∧ (∀ x ∈ L, x.size ≤ 4) ∧ q + j ≤ K + 6 ∧ wr.ownsRow w.heap.size 9 1 v L.length (L.map fun c => Value.string c) ∧ Src w0 wr b 123 q ∧ w.heap.size ≤ wr.heap.size) (fun i _ _ => (intOf i).toNat)
  case atStart => exact ⟨k, K + 1, [], rfl, by simp; omega, by simp, by omega, HOW.out, HS1.out, hle1⟩
  case round =>
    obtain ⟨j, q, L, rfl, hLj, hsm, hq, ho, hS, hle⟩ := hrel
    have HO := Lib.hid ho
    have HS := Lib.hid hS
    have HSM := Lib.hid hsm
    clear ho hS hsm HOW HS1
    by_cases hj : j = 0
    · subst hj
      go_wp2_with fail
      go_ret
      exact ⟨_, L, rfl, by omega, HSM.out, HO.out, HS.out.2.1⟩
    obtain ⟨i, rfl⟩ : ∃ i, j = i + 1 := ⟨j - 1, by omega⟩
    have hjI : (0 : Int) < ((i + 1 : Nat) : Int) := by omega
    have E1 : Ext wr (wr.alloc (.cells #[.string ⟨#[]⟩, .string ⟨#[97]⟩, .string ⟨#[116, 101, 120, 116]⟩, .string ⟨#[0, 1]⟩] 9)) := (by repeat (first | exact Ext.refl _ | assumption | refine Ext.alloc ?_ _ | refine Ext.drewN ?_ _ | refine Ext.drew ?_ | refine Ext.set ?_ (by dsimp only; omega) _ | refine Ext.trans ?_ (by assumption)))
    have HP := Lib.hid (src_pick w0 _ b q (some ⟨wr.heap.size, 0, none⟩) 4 4 srcTexts (HS.out.ext E1) (by omega) rfl (by omega) (by omega) (show Rd _ _ [.string ⟨#[]⟩, .string ⟨#[97]⟩, .string ⟨#[116, 101, 120, 116]⟩, .string ⟨#[0, 1]⟩] from (Blk.new wr 9 [.string ⟨#[]⟩, .string ⟨#[97]⟩, .string ⟨#[116, 101, 120, 116]⟩, .string ⟨#[0, 1]⟩]).rd))
    have HO1 := Lib.hid (own_ext HO.out E1)
    obtain ⟨_, _, _, _, _, hB1⟩ := (HS.out.ext E1).blk
    have hap := own_apart HO1.out hB1 (by decide)
    clear HO HS hB1 hj
    go_wp2_with fail
    generalize hgw : wr.alloc (.cells #[.string ⟨#[]⟩, .string ⟨#[97]⟩, .string ⟨#[116, 101, 120, 116]⟩, .string ⟨#[0, 1]⟩] 9) = w2 at HP HO1 E1 ⊢
    have hle2 := E1.le
    clear hgw E1
    refine HP.out.mono ?_
    rintro e w3 ⟨⟨x, rfl, hx⟩, hS3, hG3⟩
    have hO3 := own_far HO1.out hG3 (fun e => hap e.symm)
    have hle3 : w.heap.size ≤ w3.heap.size := by have := hG3.size; omega
    have hrow := own_ext hO3 ((Ext.refl w3).alloc (.cells #[.string x] 9))
    have hS4 := hS3.ext ((Ext.refl w3).alloc (.cells #[.string x] 9))
    have HX := Lib.hid (srcTexts_small x hx)
    have HS4 := Lib.hid hS4
    clear hS3 hG3 hO3 HP HO1 hx hS4
    go_wp2_with (at_builtin; refine wpList_append_own _ rfl (.tmp 12) (.tmp 16) 32 rfl w.heap.size 9 i0 (.string ByteArray.empty) 1 16 Try.underlying32 hi hz0 hz1 hz2 rfl (by decide) _ L.length _ rfl hrow ⟨w3.heap.size, 0, none⟩ 1 1 [.string x] rfl rfl (rd_add (Blk.new w3 _ _).rd) (by intro u hu; simp at hu; subst hu; rfl) (by unfold maxLen; omega) (by omega) (by simp; omega) ?_)
    intro v4 w4 ho4 hg4 _
    have HO4 := Lib.hid ho4
    have HS5 := Lib.hid (HS4.out.row hg4 (fun c hc => ⟨by have := own_blk hrow c hc; omega, fun e => hap (by rw [e, hc])⟩))
    have hle4 : w.heap.size ≤ w4.heap.size := by have := hg4.size; simp at this; omega
    clear ho4 hg4 hrow HS4
    go_wp2_with fail
    go_roundw
    case rel => exact ⟨i, q + 1, L ++ [x], by go_num, by rw [List.length_append]; simp; omega, by
      intro y hy
      rcases List.mem_append.1 hy with hy | hy
      · exact HSM.out y hy
      · rw [List.mem_singleton.1 hy]; exact HX.out, by omega, by rw [List.length_append, List.map_append]; exact HO4.out, HS5.out, hle4⟩
    case measure => simp [intOf]
end Go.Proofs.Yteaefjicpefgnaa
