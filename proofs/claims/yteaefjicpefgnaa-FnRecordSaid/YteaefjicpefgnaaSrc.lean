/- The walks of the source of choices. -/
import Derived.Test.YteaefjicpefgnaaReader
import Derived.Test.YteaefjicpefgnaaRgX
namespace Go.Proofs.Yteaefjicpefgnaa
open Go.RowKit Go.Deep
set_option linter.unusedVariables false
set_option maxRecDepth 100000
/-- a source of choices in block b, over bytes that base holds -/
def Src (w0 w : World) (b : Nat) (T : TypeId) (K : Nat) : Prop :=
  w0.heap.size ≤ b ∧ Ext w0 w ∧ ∃ (A : Option Addr) (n cp : Nat) (l : List UInt8) (a s : Nat), Blk w b T [.slice A n cp, .int .i64 (a : Int), .int .i64 (s : Int)] ∧ l.length = n ∧ n ≤ 1048576 ∧ Rd w0 A (l.map fun c => Value.int .u8 (c.toNat : Int)) ∧ a ≤ K ∧ s < 2147483648
theorem Src.ext {w0 w w' : World} {b K : Nat} {T : TypeId} (h : Src w0 w b T K) (E : Ext w w') : Src w0 w' b T K := by
  obtain ⟨h0, h1, A, n, cp, l, a, s, hB, r⟩ := h
  exact ⟨h0, h1.trans E, A, n, cp, l, a, s, hB.ext E, r⟩
theorem Src.lt {w0 w : World} {b K : Nat} {T : TypeId} (h : Src w0 w b T K) : b < w.heap.size := by
  obtain ⟨h0, h1, A, n, cp, l, a, s, hB, r⟩ := h
  exact hB.lt
theorem Src.far {w0 w w' : World} {b K c : Nat} {T : TypeId} (h : Src w0 w b T K) (hg : w.grownBy w' (some c)) (hc : w0.heap.size ≤ c) (hne : b ≠ c) : Src w0 w' b T K := by
  obtain ⟨h0, h1, A, n, cp, l, a, s, hB, r⟩ := h
  exact ⟨h0, h1.grownBy hg hc, A, n, cp, l, a, s, hB.grown hg hne, r⟩
theorem Src.more {w0 w : World} {b K K' : Nat} {T : TypeId} (h : Src w0 w b T K) (hK : K ≤ K') : Src w0 w b T K' := by
  obtain ⟨h0, h1, A, n, cp, l, a, s, hB, h2, h3, h4, h5, h6⟩ := h
  exact ⟨h0, h1, A, n, cp, l, a, s, hB, h2, h3, h4, by omega, h6⟩
theorem rd_byte {W : World} {bA o a : Nat} {l : List UInt8} {c : Nat} (h : Rd W (some ⟨bA, o, none⟩) (l.map fun c => Value.int .u8 (c.toNat : Int))) (ha : (l[a]?).map UInt8.toNat = some c) : W.cell? ⟨bA, o + a, none⟩ = some (.int .u8 (c : Int)) := by
  have hne : (l.map fun c => Value.int .u8 (c.toNat : Int)) ≠ [] := by
    intro e
    rw [List.map_eq_nil_iff.1 e] at ha; simp at ha
  obtain ⟨b', o', e, hx⟩ := h hne
  injection e with e
  injection e with e1 e2 _
  subst e1; subst e2
  cases hq : l[a]? with
  | none => rw [hq] at ha; cases ha
  | some x =>
    rw [hq] at ha
    injection ha with ha
    have := hx a (.int .u8 (x.toNat : Int)) (by rw [List.getElem?_map, hq]; rfl)
    rw [ha] at this
    exact this
set_option maxHeartbeats 2000000 in
theorem src_byte (w0 w : World) (b K : Nat) (hS : Src w0 w b 123 K) (hK : K ≤ 1000000000) :
    Calls Try.prog 120 #[.pointer (some ⟨b, 0, none⟩)] w fun e w' => (∃ v : Nat, e = .returned (.int .i64 (v : Int)) ∧ v < 256) ∧ Src w0 w' b 123 (K + 1) ∧ w.grownBy w' (some b) := by
  obtain ⟨h0, hE, A, n, cp, l, a, s, hB, hl, hn, hr, ha, hs⟩ := hS
  obtain ⟨c0, c1, c2⟩ := hB.cells3
  have f1 := hB.frozen 1
  obtain ⟨m, hm⟩ : ∃ m, m = a + 1 := ⟨_, rfl⟩
  have e1 : (a : Int) + 1 = (m : Int) := by omega
  have hmK : m ≤ K + 1 := by omega
  have hm1 : 1 ≤ m := by omega
  have HB1 := Lib.hid (show Blk (w.setCell ⟨b, 1, none⟩ (.int .i64 (m : Int))) b 123 [.slice A n cp, .int .i64 (m : Int), .int .i64 (s : Int)] from hB.set 1 _)
  have HG1 := Lib.hid (grown_one (w := w) (b := b) (i := 1) (u := .int .i64 (m : Int)))
  by_cases hle : m ≤ n
  · have hleI : (m : Int) ≤ (n : Int) := by omega
    have hal : a < l.length := by omega
    have hane : (l.map fun c => Value.int .u8 (c.toNat : Int)) ≠ [] := by intro e; rw [List.map_eq_nil_iff.1 e] at hal; simp at hal
    obtain ⟨bA, o, rfl, -⟩ := hr hane
    obtain ⟨c, hc⟩ : ∃ c, (l[a]?).map UInt8.toNat = some c := by rw [List.getElem?_eq_getElem hal]; exact ⟨_, rfl⟩
    have hc8 : c < 256 := by rw [List.getElem?_eq_getElem hal] at hc; injection hc with hc; rw [← hc]; exact UInt8.toNat_lt _
    have HC := Lib.hid hc
    have haI : (a : Int) < (n : Int) := by omega
    have haN : a < n := by omega
    have es0 : IntKind.i64.wrap ((m : Int) - 1) = (a : Int) := by rw [IntKind.wrap_i64]; omega
    have es1 : IntKind.i64.wrap ((s : Int) * 31) = (s : Int) * 31 := IntWalk.i64_in _ (by omega)
    have es2 : IntKind.i64.wrap ((s : Int) * 31 + (c : Int)) = (s : Int) * 31 + (c : Int) := IntWalk.i64_in _ (by omega)
    have es3 : IntKind.i64.wrap ((s : Int) * 31 + (c : Int) + 7) = (s : Int) * 31 + (c : Int) + 7 := IntWalk.i64_in _ (by omega)
    obtain ⟨s2, hs2, es5⟩ : ∃ s2 : Nat, s2 < 2147483648 ∧ ((s : Int) * 31 + (c : Int) + 7).tmod 2147483648 = (s2 : Int) := ⟨(s * 31 + c + 7) % 2147483648, Nat.mod_lt _ (by omega), by rw [Int.tmod_eq_emod_of_nonneg (by omega)]; omega⟩
    have es4 : IntKind.i64.wrap (c : Int) = (c : Int) := IntWalk.i64_in _ (by omega)
    clear hB hm hc hane hal
    go_enter Try.func120, Try.ntmps120
    go_wp2_with fail
    clear c0 c1 c2 f1
    have HR1 := Lib.hid (hr.ext (hE.grownBy HG1.out h0))
    generalize hgw : w.setCell ⟨b, 1, none⟩ (.int .i64 (m : Int)) = w1 at HB1 HG1 HR1 ⊢
    clear hgw
    refine rg_startS (fun W => Blk W b 123 [.slice (some ⟨bA, o, none⟩) n cp, .int .i64 (m : Int), .int .i64 (s : Int)] ∧ Rd W (some ⟨bA, o, none⟩) (l.map fun c => Value.int .u8 (c.toNat : Int))) (by kernel_rfl) ⟨HB1.out.drew, HR1.out.ext (Ext.refl w1).drew⟩ (fun hS0 => ?_)
    (refine rg_take (v := ?_) 0 rfl (by kernel_rfl) (by kernel_rfl) (by kernel_rfl) (fun _ _ _ h => h) (by rfl) (by assumption) (fun W hW => ?_) ?_; rotate_left; (focus (go_simp; try with_reducible rfl)); (try simp only [List.setIfInBounds_toArray, List.set_cons_succ, List.set_cons_zero]))
    (refine rg_take (v := ?_) 1 rfl (by kernel_rfl) (by kernel_rfl) (by kernel_rfl) (fun _ _ _ h => h) (by rfl) (by assumption) (fun W hW => ?_) ?_; rotate_left; (focus (go_simp; try with_reducible rfl)); (try simp only [List.setIfInBounds_toArray, List.set_cons_succ, List.set_cons_zero]))
    (refine rg_take (v := ?_) 2 rfl (by kernel_rfl) (by kernel_rfl) (by kernel_rfl) (fun _ _ _ h => h) (by rfl) (by assumption) (fun W hW => ?_) ?_; rotate_left; (focus (go_simp; try with_reducible rfl)); (try simp only [List.setIfInBounds_toArray, List.set_cons_succ, List.set_cons_zero]))
    (refine rg_take (v := ?_) 3 rfl (by kernel_rfl) (by kernel_rfl) (by kernel_rfl) (fun _ _ _ h => h) (by rfl) (by assumption) (fun W hW => ?_) ?_; rotate_left; (focus (obtain ⟨p0, p1, p2⟩ := hW.1.cells3; go_simp; try with_reducible rfl)); (try simp only [List.setIfInBounds_toArray, List.set_cons_succ, List.set_cons_zero]))
    (refine rg_take (v := ?_) 4 rfl (by kernel_rfl) (by kernel_rfl) (by kernel_rfl) (fun _ _ _ h => h) (by rfl) (by assumption) (fun W hW => ?_) ?_; rotate_left; (focus (go_simp; try with_reducible rfl)); (try simp only [List.setIfInBounds_toArray, List.set_cons_succ, List.set_cons_zero]))
    (refine rg_take (v := ?_) 5 rfl (by kernel_rfl) (by kernel_rfl) (by kernel_rfl) (fun _ _ _ h => h) (by rfl) (by assumption) (fun W hW => ?_) ?_; rotate_left; (focus (go_simp; try with_reducible rfl)); (try simp only [List.setIfInBounds_toArray, List.set_cons_succ, List.set_cons_zero]))
    (refine rg_take (v := ?_) 6 rfl (by kernel_rfl) (by kernel_rfl) (by kernel_rfl) (fun _ _ _ h => h) (by rfl) (by assumption) (fun W hW => ?_) ?_; rotate_left; (focus (go_simp; try with_reducible rfl)); (try simp only [List.setIfInBounds_toArray, List.set_cons_succ, List.set_cons_zero]))
    (refine rg_take (v := ?_) 7 rfl (by kernel_rfl) (by kernel_rfl) (by kernel_rfl) (fun _ _ _ h => h) (by rfl) (by assumption) (fun W hW => ?_) ?_; rotate_left; (focus (obtain ⟨p0, p1, p2⟩ := hW.1.cells3; go_simp; try with_reducible rfl)); (try simp only [List.setIfInBounds_toArray, List.set_cons_succ, List.set_cons_zero]))
    (refine rg_take (v := ?_) 8 rfl (by kernel_rfl) (by kernel_rfl) (by kernel_rfl) (fun _ _ _ h => h) (by rfl) (by assumption) (fun W hW => ?_) ?_; rotate_left; (focus (go_simp; try with_reducible rfl)); (try simp only [List.setIfInBounds_toArray, List.set_cons_succ, List.set_cons_zero]))
    (refine rg_take (v := ?_) 9 rfl (by kernel_rfl) (by kernel_rfl) (by kernel_rfl) (fun _ _ _ h => h) (by rfl) (by assumption) (fun W hW => ?_) ?_; rotate_left; (focus (go_simp; try with_reducible rfl)); (try simp only [List.setIfInBounds_toArray, List.set_cons_succ, List.set_cons_zero]))
    refine rg_done (by kernel_rfl) ?_
    go_wp2_with fail
    have HB2 := Lib.hid HB1.out.drew
    have HR2 := Lib.hid (HR1.out.ext (Ext.refl w1).drew)
    have HG2 := Lib.hid (grown_trans HG1.out (grown_ext (Ext.refl w1).drew))
    generalize w1.drew = w2 at HB2 HR2 HG2 ⊢
    clear HB1 HG1 HR1 hS0
    refine rx_start (fun W => Blk W b 123 [.slice (some ⟨bA, o, none⟩) n cp, .int .i64 (m : Int), .int .i64 (s : Int)] ∧ Rd W (some ⟨bA, o, none⟩) (l.map fun c => Value.int .u8 (c.toNat : Int))) 23 (by kernel_rfl) ⟨HB2.out.drew, HR2.out.ext (Ext.refl w2).drew⟩ (fun hS0 => ?_)
    (refine rx_take (v := ?_) 0 rfl (by kernel_rfl) (by kernel_rfl) (by kernel_rfl) (by kernel_rfl) (fun _ _ _ h => h) (by rfl) (by assumption) (fun W hW => ?_) ?_; rotate_left; (focus (go_simp; try with_reducible rfl)); (try simp only [List.setIfInBounds_toArray, List.set_cons_succ, List.set_cons_zero]))
    (refine rx_take (v := ?_) 1 rfl (by kernel_rfl) (by kernel_rfl) (by kernel_rfl) (by kernel_rfl) (fun _ _ _ h => h) (by rfl) (by assumption) (fun W hW => ?_) ?_; rotate_left; (focus (go_simp; try with_reducible rfl)); (try simp only [List.setIfInBounds_toArray, List.set_cons_succ, List.set_cons_zero]))
    (refine rx_take (v := ?_) 2 rfl (by kernel_rfl) (by kernel_rfl) (by kernel_rfl) (by kernel_rfl) (fun _ _ _ h => h) (by rfl) (by assumption) (fun W hW => ?_) ?_; rotate_left; (focus (go_simp; try with_reducible rfl)); (try simp only [List.setIfInBounds_toArray, List.set_cons_succ, List.set_cons_zero]))
    (refine rx_take (v := ?_) 3 rfl (by kernel_rfl) (by kernel_rfl) (by kernel_rfl) (by kernel_rfl) (fun _ _ _ h => h) (by rfl) (by assumption) (fun W hW => ?_) ?_; rotate_left; (focus (go_simp; try with_reducible rfl)); (try simp only [List.setIfInBounds_toArray, List.set_cons_succ, List.set_cons_zero]))
    (refine rx_take (v := ?_) 4 rfl (by kernel_rfl) (by kernel_rfl) (by kernel_rfl) (by kernel_rfl) (fun _ _ _ h => h) (by rfl) (by assumption) (fun W hW => ?_) ?_; rotate_left; (focus (obtain ⟨p0, p1, p2⟩ := hW.1.cells3; go_simp; try with_reducible rfl)); (try simp only [List.setIfInBounds_toArray, List.set_cons_succ, List.set_cons_zero]))
    (refine rx_take (v := ?_) 5 rfl (by kernel_rfl) (by kernel_rfl) (by kernel_rfl) (by kernel_rfl) (fun _ _ _ h => h) (by rfl) (by assumption) (fun W hW => ?_) ?_; rotate_left; (focus (go_simp; try with_reducible rfl)); (try simp only [List.setIfInBounds_toArray, List.set_cons_succ, List.set_cons_zero]))
    (refine rx_take (v := ?_) 6 rfl (by kernel_rfl) (by kernel_rfl) (by kernel_rfl) (by kernel_rfl) (fun _ _ _ h => h) (by rfl) (by assumption) (fun W hW => ?_) ?_; rotate_left; (focus (go_simp; try with_reducible rfl)); (try simp only [List.setIfInBounds_toArray, List.set_cons_succ, List.set_cons_zero]))
    (refine rx_take (v := ?_) 7 rfl (by kernel_rfl) (by kernel_rfl) (by kernel_rfl) (by kernel_rfl) (fun _ _ _ h => h) (by rfl) (by assumption) (fun W hW => ?_) ?_; rotate_left; (focus (go_simp; try with_reducible rfl)); (try simp only [List.setIfInBounds_toArray, List.set_cons_succ, List.set_cons_zero]))
    (refine rx_take (v := ?_) 8 rfl (by kernel_rfl) (by kernel_rfl) (by kernel_rfl) (by kernel_rfl) (fun _ _ _ h => h) (by rfl) (by assumption) (fun W hW => ?_) ?_; rotate_left; (focus (go_simp; try with_reducible rfl)); (try simp only [List.setIfInBounds_toArray, List.set_cons_succ, List.set_cons_zero]))
    (refine rx_take (v := ?_) 9 rfl (by kernel_rfl) (by kernel_rfl) (by kernel_rfl) (by kernel_rfl) (fun _ _ _ h => h) (by rfl) (by assumption) (fun W hW => ?_) ?_; rotate_left; (focus (obtain ⟨p0, p1, p2⟩ := hW.1.cells3; go_simp; try with_reducible rfl)); (try simp only [List.setIfInBounds_toArray, List.set_cons_succ, List.set_cons_zero]))
    (refine rx_take (v := ?_) 10 rfl (by kernel_rfl) (by kernel_rfl) (by kernel_rfl) (by kernel_rfl) (fun _ _ _ h => h) (by rfl) (by assumption) (fun W hW => ?_) ?_; rotate_left; (focus (go_simp; try with_reducible rfl)); (try simp only [List.setIfInBounds_toArray, List.set_cons_succ, List.set_cons_zero]))
    (refine rx_take (v := ?_) 11 rfl (by kernel_rfl) (by kernel_rfl) (by kernel_rfl) (by kernel_rfl) (fun _ _ _ h => h) (by rfl) (by assumption) (fun W hW => ?_) ?_; rotate_left; (focus (go_simp; try with_reducible rfl)); (try simp only [List.setIfInBounds_toArray, List.set_cons_succ, List.set_cons_zero]))
    (refine rx_take (v := ?_) 12 rfl (by kernel_rfl) (by kernel_rfl) (by kernel_rfl) (by kernel_rfl) (fun _ _ _ h => h) (by rfl) (by assumption) (fun W hW => ?_) ?_; rotate_left; (focus (go_simp; try with_reducible rfl)); (try simp only [List.setIfInBounds_toArray, List.set_cons_succ, List.set_cons_zero]))
    (refine rx_take (v := ?_) 13 rfl (by kernel_rfl) (by kernel_rfl) (by kernel_rfl) (by kernel_rfl) (fun _ _ _ h => h) (by rfl) (by assumption) (fun W hW => ?_) ?_; rotate_left; (focus (obtain ⟨p0, p1, p2⟩ := hW.1.cells3; go_simp; try with_reducible rfl)); (try simp only [List.setIfInBounds_toArray, List.set_cons_succ, List.set_cons_zero]))
    (refine rx_take (v := ?_) 14 rfl (by kernel_rfl) (by kernel_rfl) (by kernel_rfl) (by kernel_rfl) (fun _ _ _ h => h) (by rfl) (by assumption) (fun W hW => ?_) ?_; rotate_left; (focus (go_simp; try with_reducible rfl)); (try simp only [List.setIfInBounds_toArray, List.set_cons_succ, List.set_cons_zero]))
    (refine rx_take (v := ?_) 15 rfl (by kernel_rfl) (by kernel_rfl) (by kernel_rfl) (by kernel_rfl) (fun _ _ _ h => h) (by rfl) (by assumption) (fun W hW => ?_) ?_; rotate_left; (focus (go_simp; try with_reducible rfl)); (try simp only [List.setIfInBounds_toArray, List.set_cons_succ, List.set_cons_zero]))
    (refine rx_take (v := ?_) 16 rfl (by kernel_rfl) (by kernel_rfl) (by kernel_rfl) (by kernel_rfl) (fun _ _ _ h => h) (by rfl) (by assumption) (fun W hW => ?_) ?_; rotate_left; (focus (have q0 := rd_byte hW.2 HC.out; go_simp; try with_reducible rfl)); (try simp only [List.setIfInBounds_toArray, List.set_cons_succ, List.set_cons_zero]))
    (refine rx_take (v := ?_) 17 rfl (by kernel_rfl) (by kernel_rfl) (by kernel_rfl) (by kernel_rfl) (fun _ _ _ h => h) (by rfl) (by assumption) (fun W hW => ?_) ?_; rotate_left; (focus (go_simp; try with_reducible rfl)); (try simp only [List.setIfInBounds_toArray, List.set_cons_succ, List.set_cons_zero]))
    (refine rx_take (v := ?_) 18 rfl (by kernel_rfl) (by kernel_rfl) (by kernel_rfl) (by kernel_rfl) (fun _ _ _ h => h) (by rfl) (by assumption) (fun W hW => ?_) ?_; rotate_left; (focus (go_simp; try with_reducible rfl)); (try simp only [List.setIfInBounds_toArray, List.set_cons_succ, List.set_cons_zero]))
    (refine rx_take (v := ?_) 19 rfl (by kernel_rfl) (by kernel_rfl) (by kernel_rfl) (by kernel_rfl) (fun _ _ _ h => h) (by rfl) (by assumption) (fun W hW => ?_) ?_; rotate_left; (focus (go_simp; try with_reducible rfl)); (try simp only [List.setIfInBounds_toArray, List.set_cons_succ, List.set_cons_zero]))
    (refine rx_take (v := ?_) 20 rfl (by kernel_rfl) (by kernel_rfl) (by kernel_rfl) (by kernel_rfl) (fun _ _ _ h => h) (by rfl) (by assumption) (fun W hW => ?_) ?_; rotate_left; (focus (go_simp; try with_reducible rfl)); (try simp only [List.setIfInBounds_toArray, List.set_cons_succ, List.set_cons_zero]))
    (refine rx_one 21 (by kernel_rfl) rfl (by rfl) (fun K hK => ?_); go_simp)
    refine hK _ _ (.inr hS0) (fun _ => ?_)
    clear hK K
    try simp only [List.setIfInBounds_toArray, List.set_cons_succ, List.set_cons_zero]
    (refine rx_take (v := ?_) 22 rfl (by kernel_rfl) (by kernel_rfl) (by kernel_rfl) (by kernel_rfl) (fun _ _ _ h => h) (by rfl) (by assumption) (fun W hW => ?_) ?_; rotate_left; (focus (go_simp; try with_reducible rfl)); (try simp only [List.setIfInBounds_toArray, List.set_cons_succ, List.set_cons_zero]))
    obtain ⟨c0, c1, c2⟩ := HB2.out.cells3
    have f2 := HB2.out.frozen 2
    (refine rx_one 23 (by kernel_rfl) rfl (by rfl) (fun K hK => ?_); go_simp)
    have HB3 := Lib.hid (show Blk (w2.setCell ⟨b, 2, none⟩ (.int .i64 (s2 : Int))).drew b 123 [.slice (some ⟨bA, o, none⟩) n cp, .int .i64 (m : Int), .int .i64 (s2 : Int)] from (HB2.out.set 2 (.int .i64 (s2 : Int))).drew)
    have HG3 := Lib.hid (grown_trans (grown_trans HG2.out (grown_one (b := b) (i := 2) (u := .int .i64 (s2 : Int)))) (grown_ext (Ext.refl (w2.setCell ⟨b, 2, none⟩ (.int .i64 (s2 : Int)))).drew))
    have HR3 := Lib.hid (hr.ext (hE.grownBy HG3.out h0))
    refine hK _ _ (.inl rfl) (fun _ => ?_)
    clear hK K
    try simp only [List.setIfInBounds_toArray, List.set_cons_succ, List.set_cons_zero]
    refine rx_done (by kernel_rfl) ?_
    generalize hgw : (w2.setCell ⟨b, 2, none⟩ (.int .i64 (s2 : Int))).drew = w3 at HB3 HG3 HR3 ⊢
    clear hgw c0 c1 c2 f2 hS0 HB2 HG2 HR2
    go_wp2_with fail
    refine rg_startS (fun W => Blk W b 123 [.slice (some ⟨bA, o, none⟩) n cp, .int .i64 (m : Int), .int .i64 (s2 : Int)] ∧ Rd W (some ⟨bA, o, none⟩) (l.map fun c => Value.int .u8 (c.toNat : Int))) (by kernel_rfl) ⟨HB3.out.drew, HR3.out.ext (Ext.refl w3).drew⟩ (fun hS0 => ?_)
    (refine rg_take (v := ?_) 0 rfl (by kernel_rfl) (by kernel_rfl) (by kernel_rfl) (fun _ _ _ h => h) (by rfl) (by assumption) (fun W hW => ?_) ?_; rotate_left; (focus (go_simp; try with_reducible rfl)); (try simp only [List.setIfInBounds_toArray, List.set_cons_succ, List.set_cons_zero]))
    (refine rg_take (v := ?_) 1 rfl (by kernel_rfl) (by kernel_rfl) (by kernel_rfl) (fun _ _ _ h => h) (by rfl) (by assumption) (fun W hW => ?_) ?_; rotate_left; (focus (go_simp; try with_reducible rfl)); (try simp only [List.setIfInBounds_toArray, List.set_cons_succ, List.set_cons_zero]))
    (refine rg_take (v := ?_) 2 rfl (by kernel_rfl) (by kernel_rfl) (by kernel_rfl) (fun _ _ _ h => h) (by rfl) (by assumption) (fun W hW => ?_) ?_; rotate_left; (focus (go_simp; try with_reducible rfl)); (try simp only [List.setIfInBounds_toArray, List.set_cons_succ, List.set_cons_zero]))
    (refine rg_take (v := ?_) 3 rfl (by kernel_rfl) (by kernel_rfl) (by kernel_rfl) (fun _ _ _ h => h) (by rfl) (by assumption) (fun W hW => ?_) ?_; rotate_left; (focus (obtain ⟨p0, p1, p2⟩ := hW.1.cells3; go_simp; try with_reducible rfl)); (try simp only [List.setIfInBounds_toArray, List.set_cons_succ, List.set_cons_zero]))
    (refine rg_take (v := ?_) 4 rfl (by kernel_rfl) (by kernel_rfl) (by kernel_rfl) (fun _ _ _ h => h) (by rfl) (by assumption) (fun W hW => ?_) ?_; rotate_left; (focus (go_simp; try with_reducible rfl)); (try simp only [List.setIfInBounds_toArray, List.set_cons_succ, List.set_cons_zero]))
    (refine rg_take (v := ?_) 5 rfl (by kernel_rfl) (by kernel_rfl) (by kernel_rfl) (fun _ _ _ h => h) (by rfl) (by assumption) (fun W hW => ?_) ?_; rotate_left; (focus (go_simp; try with_reducible rfl)); (try simp only [List.setIfInBounds_toArray, List.set_cons_succ, List.set_cons_zero]))
    (refine rg_take (v := ?_) 6 rfl (by kernel_rfl) (by kernel_rfl) (by kernel_rfl) (fun _ _ _ h => h) (by rfl) (by assumption) (fun W hW => ?_) ?_; rotate_left; (focus (go_simp; try with_reducible rfl)); (try simp only [List.setIfInBounds_toArray, List.set_cons_succ, List.set_cons_zero]))
    (refine rg_take (v := ?_) 7 rfl (by kernel_rfl) (by kernel_rfl) (by kernel_rfl) (fun _ _ _ h => h) (by rfl) (by assumption) (fun W hW => ?_) ?_; rotate_left; (focus (obtain ⟨p0, p1, p2⟩ := hW.1.cells3; go_simp; try with_reducible rfl)); (try simp only [List.setIfInBounds_toArray, List.set_cons_succ, List.set_cons_zero]))
    (refine rg_take (v := ?_) 8 rfl (by kernel_rfl) (by kernel_rfl) (by kernel_rfl) (fun _ _ _ h => h) (by rfl) (by assumption) (fun W hW => ?_) ?_; rotate_left; (focus (go_simp; try with_reducible rfl)); (try simp only [List.setIfInBounds_toArray, List.set_cons_succ, List.set_cons_zero]))
    (refine rg_take (v := ?_) 9 rfl (by kernel_rfl) (by kernel_rfl) (by kernel_rfl) (fun _ _ _ h => h) (by rfl) (by assumption) (fun W hW => ?_) ?_; rotate_left; (focus (go_simp; try with_reducible rfl)); (try simp only [List.setIfInBounds_toArray, List.set_cons_succ, List.set_cons_zero]))
    (refine rg_take (v := ?_) 10 rfl (by kernel_rfl) (by kernel_rfl) (by kernel_rfl) (fun _ _ _ h => h) (by rfl) (by assumption) (fun W hW => ?_) ?_; rotate_left; (focus (have q0 := rd_byte hW.2 HC.out; go_simp; try with_reducible rfl)); (try simp only [List.setIfInBounds_toArray, List.set_cons_succ, List.set_cons_zero]))
    (refine rg_take (v := ?_) 11 rfl (by kernel_rfl) (by kernel_rfl) (by kernel_rfl) (fun _ _ _ h => h) (by rfl) (by assumption) (fun W hW => ?_) ?_; rotate_left; (focus (go_simp; try with_reducible rfl)); (try simp only [List.setIfInBounds_toArray, List.set_cons_succ, List.set_cons_zero]))
    (refine rg_take (v := ?_) 12 rfl (by kernel_rfl) (by kernel_rfl) (by kernel_rfl) (fun _ _ _ h => h) (by rfl) (by assumption) (fun W hW => ?_) ?_; rotate_left; (focus (go_simp; try with_reducible rfl)); (try simp only [List.setIfInBounds_toArray, List.set_cons_succ, List.set_cons_zero]))
    refine rg_done (by kernel_rfl) ?_
    go_wp2_with fail
    go_ret
    have hg := grown_trans HG3.out (grown_ext (Ext.refl w3).drew)
    exact ⟨⟨c, rfl, hc8⟩, ⟨h0, hE.grownBy hg h0, _, n, cp, l, m, s2, HB3.out.drew, hl, hn, hr, hmK, hs2⟩, hg⟩
  · have hleI : ¬ (m : Int) ≤ (n : Int) := by omega
    have hR2 : ∀ (w1 : World), Blk w1 b 123 [.slice A n cp, .int .i64 (m : Int), .int .i64 (s : Int)] → True := fun _ _ => trivial
    obtain ⟨s2, hs2, es5⟩ : ∃ s2 : Nat, s2 < 2147483648 ∧ ((s : Int) * 1103515245 + 12345).tmod 2147483648 = (s2 : Int) := ⟨(s * 1103515245 + 12345) % 2147483648, Nat.mod_lt _ (by omega), by rw [Int.tmod_eq_emod_of_nonneg (by omega)]; omega⟩
    obtain ⟨v, hv, es6⟩ : ∃ v : Nat, v < 256 ∧ (s2 : Int) / 65536 % 256 = (v : Int) := ⟨(s2 / 65536) % 256, Nat.mod_lt _ (by omega), by omega⟩
    by_cases h3 : 3000 < m
    · have h3I : (3000 : Int) < (m : Int) := by omega
      clear hB hm hle h3 hR2
      go_enter Try.func120, Try.ntmps120
      go_wp2_with fail
      clear c0 c1 c2 f1
      generalize hgw : w.setCell ⟨b, 1, none⟩ (.int .i64 (m : Int)) = w1 at HB1 HG1 ⊢
      clear hgw
      refine rg_startS (fun W => Blk W b 123 [.slice A n cp, .int .i64 (m : Int), .int .i64 (s : Int)]) (by kernel_rfl) HB1.out.drew (fun hS0 => ?_)
      (refine rg_take (v := ?_) 0 rfl (by kernel_rfl) (by kernel_rfl) (by kernel_rfl) (fun _ _ _ h => h) (by rfl) (by assumption) (fun W hW => ?_) ?_; rotate_left; (focus (go_simp; try with_reducible rfl)); (try simp only [List.setIfInBounds_toArray, List.set_cons_succ, List.set_cons_zero]))
      (refine rg_take (v := ?_) 1 rfl (by kernel_rfl) (by kernel_rfl) (by kernel_rfl) (fun _ _ _ h => h) (by rfl) (by assumption) (fun W hW => ?_) ?_; rotate_left; (focus (go_simp; try with_reducible rfl)); (try simp only [List.setIfInBounds_toArray, List.set_cons_succ, List.set_cons_zero]))
      (refine rg_take (v := ?_) 2 rfl (by kernel_rfl) (by kernel_rfl) (by kernel_rfl) (fun _ _ _ h => h) (by rfl) (by assumption) (fun W hW => ?_) ?_; rotate_left; (focus (go_simp; try with_reducible rfl)); (try simp only [List.setIfInBounds_toArray, List.set_cons_succ, List.set_cons_zero]))
      (refine rg_take (v := ?_) 3 rfl (by kernel_rfl) (by kernel_rfl) (by kernel_rfl) (fun _ _ _ h => h) (by rfl) (by assumption) (fun W hW => ?_) ?_; rotate_left; (focus (obtain ⟨p0, p1, p2⟩ := hW.cells3; go_simp; try with_reducible rfl)); (try simp only [List.setIfInBounds_toArray, List.set_cons_succ, List.set_cons_zero]))
      (refine rg_take (v := ?_) 4 rfl (by kernel_rfl) (by kernel_rfl) (by kernel_rfl) (fun _ _ _ h => h) (by rfl) (by assumption) (fun W hW => ?_) ?_; rotate_left; (focus (go_simp; try with_reducible rfl)); (try simp only [List.setIfInBounds_toArray, List.set_cons_succ, List.set_cons_zero]))
      (refine rg_take (v := ?_) 5 rfl (by kernel_rfl) (by kernel_rfl) (by kernel_rfl) (fun _ _ _ h => h) (by rfl) (by assumption) (fun W hW => ?_) ?_; rotate_left; (focus (go_simp; try with_reducible rfl)); (try simp only [List.setIfInBounds_toArray, List.set_cons_succ, List.set_cons_zero]))
      (refine rg_take (v := ?_) 6 rfl (by kernel_rfl) (by kernel_rfl) (by kernel_rfl) (fun _ _ _ h => h) (by rfl) (by assumption) (fun W hW => ?_) ?_; rotate_left; (focus (go_simp; try with_reducible rfl)); (try simp only [List.setIfInBounds_toArray, List.set_cons_succ, List.set_cons_zero]))
      (refine rg_take (v := ?_) 7 rfl (by kernel_rfl) (by kernel_rfl) (by kernel_rfl) (fun _ _ _ h => h) (by rfl) (by assumption) (fun W hW => ?_) ?_; rotate_left; (focus (obtain ⟨p0, p1, p2⟩ := hW.cells3; go_simp; try with_reducible rfl)); (try simp only [List.setIfInBounds_toArray, List.set_cons_succ, List.set_cons_zero]))
      (refine rg_take (v := ?_) 8 rfl (by kernel_rfl) (by kernel_rfl) (by kernel_rfl) (fun _ _ _ h => h) (by rfl) (by assumption) (fun W hW => ?_) ?_; rotate_left; (focus (go_simp; try with_reducible rfl)); (try simp only [List.setIfInBounds_toArray, List.set_cons_succ, List.set_cons_zero]))
      (refine rg_take (v := ?_) 9 rfl (by kernel_rfl) (by kernel_rfl) (by kernel_rfl) (fun _ _ _ h => h) (by rfl) (by assumption) (fun W hW => ?_) ?_; rotate_left; (focus (go_simp; try with_reducible rfl)); (try simp only [List.setIfInBounds_toArray, List.set_cons_succ, List.set_cons_zero]))
      refine rg_done (by kernel_rfl) ?_
      obtain ⟨c0, c1, c2⟩ := hS0.cells3
      have hg := grown_trans HG1.out (grown_ext (Ext.refl w1).drew)
      generalize w1.drew = w2 at hS0 hg c0 c1 c2 ⊢
      clear HB1 HG1
      go_wp2_with fail
      go_ret
      exact ⟨⟨0, rfl, by omega⟩, ⟨h0, hE.grownBy hg h0, A, n, cp, l, m, s, hS0, hl, hn, hr, hmK, hs⟩, hg⟩
    · have h3I : ¬ (3000 : Int) < (m : Int) := by omega
      have es0 : IntKind.i64.wrap ((s : Int) * 1103515245) = (s : Int) * 1103515245 := IntWalk.i64_in _ (by omega)
      have es1 : IntKind.i64.wrap ((s : Int) * 1103515245 + 12345) = (s : Int) * 1103515245 + 12345 := IntWalk.i64_in _ (by omega)
      clear hB hm hle h3 hR2
      go_enter Try.func120, Try.ntmps120
      go_wp2_with fail
      clear c0 c1 c2 f1
      generalize hgw : w.setCell ⟨b, 1, none⟩ (.int .i64 (m : Int)) = w1 at HB1 HG1 ⊢
      clear hgw
      refine rg_startS (fun W => Blk W b 123 [.slice A n cp, .int .i64 (m : Int), .int .i64 (s : Int)]) (by kernel_rfl) HB1.out.drew (fun hS0 => ?_)
      (refine rg_take (v := ?_) 0 rfl (by kernel_rfl) (by kernel_rfl) (by kernel_rfl) (fun _ _ _ h => h) (by rfl) (by assumption) (fun W hW => ?_) ?_; rotate_left; (focus (go_simp; try with_reducible rfl)); (try simp only [List.setIfInBounds_toArray, List.set_cons_succ, List.set_cons_zero]))
      (refine rg_take (v := ?_) 1 rfl (by kernel_rfl) (by kernel_rfl) (by kernel_rfl) (fun _ _ _ h => h) (by rfl) (by assumption) (fun W hW => ?_) ?_; rotate_left; (focus (go_simp; try with_reducible rfl)); (try simp only [List.setIfInBounds_toArray, List.set_cons_succ, List.set_cons_zero]))
      (refine rg_take (v := ?_) 2 rfl (by kernel_rfl) (by kernel_rfl) (by kernel_rfl) (fun _ _ _ h => h) (by rfl) (by assumption) (fun W hW => ?_) ?_; rotate_left; (focus (go_simp; try with_reducible rfl)); (try simp only [List.setIfInBounds_toArray, List.set_cons_succ, List.set_cons_zero]))
      (refine rg_take (v := ?_) 3 rfl (by kernel_rfl) (by kernel_rfl) (by kernel_rfl) (fun _ _ _ h => h) (by rfl) (by assumption) (fun W hW => ?_) ?_; rotate_left; (focus (obtain ⟨p0, p1, p2⟩ := hW.cells3; go_simp; try with_reducible rfl)); (try simp only [List.setIfInBounds_toArray, List.set_cons_succ, List.set_cons_zero]))
      (refine rg_take (v := ?_) 4 rfl (by kernel_rfl) (by kernel_rfl) (by kernel_rfl) (fun _ _ _ h => h) (by rfl) (by assumption) (fun W hW => ?_) ?_; rotate_left; (focus (go_simp; try with_reducible rfl)); (try simp only [List.setIfInBounds_toArray, List.set_cons_succ, List.set_cons_zero]))
      (refine rg_take (v := ?_) 5 rfl (by kernel_rfl) (by kernel_rfl) (by kernel_rfl) (fun _ _ _ h => h) (by rfl) (by assumption) (fun W hW => ?_) ?_; rotate_left; (focus (go_simp; try with_reducible rfl)); (try simp only [List.setIfInBounds_toArray, List.set_cons_succ, List.set_cons_zero]))
      (refine rg_take (v := ?_) 6 rfl (by kernel_rfl) (by kernel_rfl) (by kernel_rfl) (fun _ _ _ h => h) (by rfl) (by assumption) (fun W hW => ?_) ?_; rotate_left; (focus (go_simp; try with_reducible rfl)); (try simp only [List.setIfInBounds_toArray, List.set_cons_succ, List.set_cons_zero]))
      (refine rg_take (v := ?_) 7 rfl (by kernel_rfl) (by kernel_rfl) (by kernel_rfl) (fun _ _ _ h => h) (by rfl) (by assumption) (fun W hW => ?_) ?_; rotate_left; (focus (obtain ⟨p0, p1, p2⟩ := hW.cells3; go_simp; try with_reducible rfl)); (try simp only [List.setIfInBounds_toArray, List.set_cons_succ, List.set_cons_zero]))
      (refine rg_take (v := ?_) 8 rfl (by kernel_rfl) (by kernel_rfl) (by kernel_rfl) (fun _ _ _ h => h) (by rfl) (by assumption) (fun W hW => ?_) ?_; rotate_left; (focus (go_simp; try with_reducible rfl)); (try simp only [List.setIfInBounds_toArray, List.set_cons_succ, List.set_cons_zero]))
      (refine rg_take (v := ?_) 9 rfl (by kernel_rfl) (by kernel_rfl) (by kernel_rfl) (fun _ _ _ h => h) (by rfl) (by assumption) (fun W hW => ?_) ?_; rotate_left; (focus (go_simp; try with_reducible rfl)); (try simp only [List.setIfInBounds_toArray, List.set_cons_succ, List.set_cons_zero]))
      refine rg_done (by kernel_rfl) ?_
      obtain ⟨c0, c1, c2⟩ := hS0.cells3
      have f2 := hS0.frozen 2
      have hg := grown_trans HG1.out (grown_ext (Ext.refl w1).drew)
      generalize w1.drew = w2 at hS0 hg c0 c1 c2 f2 ⊢
      clear HB1 HG1
      go_wp2_with fail
      go_ret
      have hg2 := grown_trans hg (grown_one (b := b) (i := 2) (u := .int .i64 (s2 : Int)))
      exact ⟨⟨v, by show Ending.returned (.int .i64 ((s2 : Int) / 65536 % 256)) = _; rw [es6], hv⟩, ⟨h0, hE.grownBy hg2 h0, A, n, cp, l, m, s2, hS0.set 2 _, hl, hn, hr, hmK, hs2⟩, hg2⟩
set_option maxHeartbeats 1000000 in
theorem src_next (w0 w : World) (b K n : Nat) (hS : Src w0 w b 123 K) (hK : K ≤ 1000000000) (h1 : 2 ≤ n) (h2 : n ≤ 256) :
    Calls Try.prog 105 #[.pointer (some ⟨b, 0, none⟩), .int .i64 (n : Int)] w fun e w' => (∃ v : Nat, e = .returned (.int .i64 (v : Int)) ∧ v < n) ∧ Src w0 w' b 123 (K + 1) ∧ w.grownBy w' (some b) := by
  have HB := Lib.hid (src_byte w0 w b K hS hK)
  have h1I : ¬ (n : Int) ≤ 1 := by omega
  have h2I : (n : Int) ≤ 256 := by omega
  have h3I : (n : Int) ≠ 0 := by omega
  clear hS
  go_enter Try.func105, Try.ntmps105
  go_wp2_with fail
  refine HB.out.mono ?_
  rintro e w1 ⟨⟨v, rfl, hv⟩, hS1, hG⟩
  have HS1 := Lib.hid hS1
  have HG1 := Lib.hid hG
  clear hS1 hG HB
  go_wp2_with fail
  go_ret
  exact ⟨⟨v % n, by simp, Nat.mod_lt _ (by omega)⟩, HS1.out, HG1.out⟩
end Go.Proofs.Yteaefjicpefgnaa
