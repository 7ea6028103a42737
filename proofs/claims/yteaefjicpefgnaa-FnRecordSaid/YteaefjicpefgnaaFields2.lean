/- The walk of the reference's bytes of fields. -/
import Derived.Test.YteaefjicpefgnaaFields
namespace Go.Proofs.Yteaefjicpefgnaa
open Go.RowKit Go.Deep
set_option linter.unusedVariables false
set_option maxRecDepth 100000
theorem own_two {w : World} {B n : Nat} {e : TypeId} {v : Value} {x : ByteArray} {F0 F1 : List UInt8} (h : w.ownsRow B e 1 v n (((F0.map fun c => Value.int .u8 (c.toNat : Int)) ++ [Value.int .u8 (IntKind.u8.wrap (x.size : Int))]) ++ Lib.strCells x)) (hF : F1 = F0 ++ [UInt8.ofNat x.size] ++ x.data.toList) (hn : n = F1.length) : w.ownsRow B e 1 v F1.length (F1.map fun c => Value.int .u8 (c.toNat : Int)) := by
  rw [IntKind.wrap_u8, byteN, map_strCells] at h
  rw [← hn, hF, List.map_append, List.map_append]
  exact h
theorem cut_ {p q : Prop} (h : p) (k : p → q) : q := k h
theorem grown_any {w w1 w2 : World} {row : Option Nat} (h : Ext w w1) (hg : w1.grownBy w2 row) (hr : ∀ k, row = some k → w.heap.size ≤ k) : Ext w w2 := h.grown hg hr
theorem drew_rd {w : World} {t : TypeId} {u : Value} : Rd (w.alloc (.cells #[u] t)) (some ⟨w.heap.size, 0, none⟩) [u] := (Blk.new w t [u]).rd
set_option maxHeartbeats 2000000 in
theorem spec_l01Fields (A : Option Addr) (m cp : Nat) (ts : List ByteArray) (w : World) (hm : ts.length = m) (hn : (fieldsB ts).length ≤ 1099511627776) (hmm : m ≤ 1099511627776) 
    (hr : Rd w A (ts.map fun c => Value.string c)) :
    Calls Try.prog 70 #[.slice A m cp] w fun e w' => ∃ v', e = .returned v' ∧ w'.ownsRow w.heap.size 5 1 v' (fieldsB ts).length ((fieldsB ts).map fun c => Value.int .u8 (c.toNat : Int)) ∧ Ext w w' := by
  have HALL := Lib.hid (preF_all [] ts)
  have hlen : ∀ k, k ≤ m → (preF [] m ts k).length ≤ 1099511627776 := by
    intro k hk
    have h1 := preF_len_le [] m ts k (by omega)
    have h2 := HALL.out
    rw [hm] at h1 h2
    rw [h2] at h1
    simp at h1
    omega
  have HL := Lib.hid hlen
  have HM := Lib.hid hm
  obtain ⟨i0, hi, hz0, hz1, hz2⟩ := info_parts info_ByteS
  clear hlen hm hn
  have hinit := World.ownsRow_lit (base := w.heap.size) (e := 5) (size := 1) w #[Value.int .u8 ((m : Int) % 256)] 1 (Nat.le_refl _) (by unfold maxLen; omega) rfl
  have HI := Lib.hid (own_join (x := []) (y := [UInt8.ofNat m]) (z := preF [] m ts 0) (m := (preF [] m ts 0).length) (Y := [Value.int .u8 ((m : Int) % 256)]) hinit (by rw [byteN]; rfl) rfl rfl)
  clear hinit
  go_enter Try.func70, Try.ntmps70
  go_wp2_with fail
  go_loopw [4, 3] (fun i v wr => ∃ k : Nat, k ≤ m ∧ i = .int .i64 k ∧ wr.ownsRow w.heap.size 5 1 v (preF [] m ts k).length ((preF [] m ts k).map fun c => Value.int .u8 (c.toNat : Int)) ∧ Ext w wr) (fun i _ _ => m - (intOf i).toNat)
  case atStart => exact ⟨0, Nat.zero_le _, rfl, HI.out, (Ext.refl _).alloc _⟩
  case round =>
    obtain ⟨k, hk, rfl, hown, hE⟩ := hrel
    have HR := Lib.hid hown
    have hsz := hE.le
    clear hown
    by_cases hlt : k < m
    · have hkl : k < ts.length := by rw [HM.out]; exact hlt
      obtain ⟨b, o, rfl, hc⟩ := (hr.ext hE).map_ hkl
      have hlt2 : (k : Int) < (m : Int) := by omega
      have hl1 := HL.out (k + 1) (by omega)
      have HP := Lib.hid (preF_succ [] m ts k hkl)
      have hls : (preF [] m ts k).length + 1 + ts[k].size = (preF [] m ts (k + 1)).length := by rw [HP.out]; simp; omega
      generalize hF1 : preF [] m ts (k + 1) = F1 at HP hl1 hls
      have HF1 := Lib.hid hF1
      clear hF1
      generalize hx : ts[k] = x at HP hc hls
      have HX := Lib.hid hx
      clear hx
      generalize preF [] m ts k = F0 at HP HR hls
      have hca : ∀ o', (wr.alloc o').cell? ⟨b, o + k, none⟩ = some (.string x) := fun o' => ((Ext.refl wr).alloc o').cell hc
      have hcw : w.cell? ⟨b, o + k, none⟩ = some (.string x) := by
        obtain ⟨b', o', e, h⟩ := hr.map_ hkl
        injection e with e
        injection e with e1 e2 _
        subst e1; subst e2; rw [HX.out] at h; exact h
      go_wp2_with fail
      go_region_law (first | (refine step_append_own rfl (.tmp 15) (.tmp 22) 22 rfl w.heap.size 5 i0 (.int .u8 0) 1 1 Try.underlying22 hi hz0 hz1 hz2 rfl Nat.one_pos _ F0.length _ ?_ (own_ext HR.out ?_) ⟨wr.heap.size, 0, none⟩ 1 1 [Value.int .u8 (IntKind.u8.wrap (x.size : Int))] ?_ rfl ?_ ?_ ?_ ?_ ?_ ?_; (focus ((first | rfl | simp [Act.eval, Act.put]))); (focus ((repeat (first | exact Ext.refl _ | assumption | refine Ext.alloc ?_ _ | refine Ext.drewN ?_ _ | refine Ext.drew ?_)))); (focus ((first | rfl | simp [Act.eval, Act.put]))); (focus (exact rd_add drew_rd)); (focus ((intro u hu; simp at hu; subst hu; rfl))); (focus ((unfold maxLen; omega))); (focus (omega)); (focus ((simp; omega))); intro v2 w2 ho2 hg2; (refine cut_ (p := Ext w w2) ?_ ?_); (focus ((refine grown_any ?_ hg2 (own_blk HR.out); (repeat (first | exact Ext.refl _ | assumption | refine Ext.alloc ?_ _ | refine Ext.drewN ?_ _ | refine Ext.drew ?_))))); intro E2; have hc2 := E2.cell hcw) | (refine step_append_own_string rfl (.tmp 23) (.tmp 27) 22 9 rfl w.heap.size 5 i0 Try.underlying22 Try.underlying9 hi hz0 hz1 hz2 _ (F0.length + 1) _ ?_ (own_ext ho2 ?_) x ?_ ?_ ?_ ?_ ?_; (focus ((first | rfl | simp [Act.eval, Act.put]))); (focus ((repeat (first | exact Ext.refl _ | assumption | refine Ext.alloc ?_ _ | refine Ext.drewN ?_ _ | refine Ext.drew ?_)))); (focus ((first | rfl | simp [Act.eval, Act.put]))); (focus ((unfold maxLen; omega))); (focus (omega)); (focus (exact E2.le)); intro v3 w3 ho3 hg3; (refine cut_ (p := Ext w w3) ?_ ?_); (focus ((refine grown_any ?_ hg3 (own_blk ho2); (repeat (first | exact Ext.refl _ | assumption | refine Ext.alloc ?_ _ | refine Ext.drewN ?_ _ | refine Ext.drew ?_))))); intro E3))
      all_goals
        have HO3 := Lib.hid (own_two ho3 HP.out hls)
        clear ho3 hg3
        go_wp2_with fail
        go_roundw
        case rel => exact ⟨k + 1, by omega, by go_num, by rw [HF1.out]; exact HO3.out, E3⟩
        case measure => simp [intOf]; omega
    · have hk4 : k = m := by omega
      subst hk4
      have hF : preF [] k ts k = fieldsB ts := by have := HALL.out; rw [HM.out] at this; exact this
      have HF := Lib.hid hF
      clear hF
      go_wp2_with fail
      go_ret
      exact ⟨_, rfl, by have := HR.out; rw [HF.out] at this; exact this, hE⟩
end Go.Proofs.Yteaefjicpefgnaa
