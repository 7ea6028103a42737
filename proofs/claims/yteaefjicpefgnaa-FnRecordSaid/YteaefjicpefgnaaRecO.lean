/- The walk of LogRecordOf. -/
import Derived.Test.YteaefjicpefgnaaRecD
namespace Go.Proofs.Yteaefjicpefgnaa
open Go.RowKit Go.Deep
set_option linter.unusedVariables false
set_option maxRecDepth 100000
theorem LrPost.elim {w0 w' : World} {ls : Int} {e : Ending} (h : LrPost w0 ls e w') : ∃ (ep tx k p nx pg sl : Int) (bf af : ByteArray), e = .returned (.agg #[.int .i64 ep, .int .i64 ls, .int .i64 tx, .int .i64 k, .int .i64 p, .int .i64 nx, .int .i64 pg, .int .i64 sl, .string bf, .string af]) ∧ recB ep ls tx k p nx pg sl bf af = true ∧ bf.size ≤ 30 ∧ af.size ≤ 30 ∧ Ext w0 w' := by
  unfold LrPost at h; exact h
set_option maxHeartbeats 1000000 in
theorem ret10L {Q : Ending → World → Prop} {tmps : Array Value} {W : World} (c0 c1 c2 c3 c4 c5 c6 c7 c8 c9 : Value) (R : Nat) {dfs : List Deferred} (h4 : tmps[4]? = some (.pointer (some ⟨R, 0, none⟩))) (hd : dfs = []) (hB : Blk W R 57 [c0, c1, c2, c3, c4, c5, c6, c7, c8, c9]) (hQ : Q (.returned (.agg #[c0, c1, c2, c3, c4, c5, c6, c7, c8, c9])) W) :
    bodyPost Try.prog Try.f52 Q .ret ⟨tmps, dfs⟩ W := by
  obtain ⟨p0, p1, p2, p3, p4, p5, p6, p7, p8, p9⟩ := hB.cells10
  refine bodyPost_ret (v := .agg #[c0, c1, c2, c3, c4, c5, c6, c7, c8, c9]) (by simp [results, Try.results52, go_sem, h4, p0, p1, p2, p3, p4, p5, p6, p7, p8, p9]; try rfl) hd hQ
set_option maxHeartbeats 2000000 in
theorem spec_LogRecordOf (A : Option Addr) (n cp : Nat) (l : List UInt8) (L : Int) (w : World) (hl : l.length = n) (hn : n ≤ 1048576) (h1 : 1 ≤ L) (h2 : L ≤ 60) (hr : Rd w A (l.map fun c => Value.int .u8 (c.toNat : Int))) :
    Calls Try.prog 52 #[.slice A n cp, .int .i64 L] w (LrPost w L) := by
  have hsrc : ∀ W, Ext w W → Calls Try.prog 74 #[.slice A n cp] W fun e w' => ∃ b, e = .returned (.pointer (some ⟨b, 0, none⟩)) ∧ Src W w' b 123 0 := by
    intro W hW
    have es : (n : Int).tmod 1000 = ((n % 1000 : Nat) : Int) := by rw [Int.tmod_eq_emod_of_nonneg (by omega)]; omega
    have hB := Blk.new W 123 [.slice A n cp, .int .i64 0, .int .i64 (((n % 1000 : Nat)) : Int)]
    have hlt : n % 1000 < 1000 := Nat.mod_lt _ (by omega)
    have HS := Lib.hid (show Src W (W.alloc (.cells #[.slice A n cp, .int .i64 0, .int .i64 (((n % 1000 : Nat)) : Int)] 123)) W.heap.size 123 0 from ⟨Nat.le_refl _, (Ext.refl W).alloc _, A, n, cp, l, 0, n % 1000, hB, hl, hn, hr.ext hW, Nat.le_refl _, by omega⟩)
    clear hl hr hB hlt es hW
    go_enter Try.func74, Try.ntmps74
    go_wp2_with fail
    go_ret
    exact ⟨_, rfl, HS.out⟩
  have HC := Lib.hid (hsrc _ ((Ext.refl w).alloc (.cells #[.int .i64 0, .int .i64 0, .int .i64 0, .int .i64 0, .int .i64 0, .int .i64 0, .int .i64 0, .int .i64 0, .string ⟨#[]⟩, .string ⟨#[]⟩] 57)))
  have HR := Lib.hid (Blk.new w 57 [.int .i64 0, .int .i64 0, .int .i64 0, .int .i64 0, .int .i64 0, .int .i64 0, .int .i64 0, .int .i64 0, .string ⟨#[]⟩, .string ⟨#[]⟩])
  clear hsrc hl hr
  go_enter Try.func52, Try.ntmps52
  go_wp2_with fail
  refine HC.out.mono ?_
  rintro e w1 ⟨b, rfl, hS1⟩
  have HEw := Lib.hid ((Ext.refl w).alloc (.cells #[.int .i64 0, .int .i64 0, .int .i64 0, .int .i64 0, .int .i64 0, .int .i64 0, .int .i64 0, .int .i64 0, .string ⟨#[]⟩, .string ⟨#[]⟩] 57))
  generalize w.alloc (.cells #[.int .i64 0, .int .i64 0, .int .i64 0, .int .i64 0, .int .i64 0, .int .i64 0, .int .i64 0, .int .i64 0, .string ⟨#[]⟩, .string ⟨#[]⟩] 57) = W0 at HR HEw hS1 HC
  have HD := Lib.hid (src_logRecord _ w1 _ 0 L h1 h2 hS1 (by omega))
  clear hS1 HC
  go_wp2_with fail
  refine HD.out.mono ?_
  intro e w2 hp
  obtain ⟨ep, tx, k, p, nx, pg, sl, bf, af, rfl, hok, hb, ha, E2⟩ := hp.elim
  have HR2 := Lib.hid (HR.out.ext E2)
  have HE2 := Lib.hid (HEw.out.trans E2)
  clear E2 hp HD HR HEw
  obtain ⟨c0, c1, c2, c3, c4, c5, c6, c7, c8, c9⟩ := HR2.out.cells10
  have g0 := HR2.out.frozen 0
  have g1 := HR2.out.frozen 1
  have g2 := HR2.out.frozen 2
  have g3 := HR2.out.frozen 3
  have g4 := HR2.out.frozen 4
  have g5 := HR2.out.frozen 5
  have g6 := HR2.out.frozen 6
  have g7 := HR2.out.frozen 7
  have g8 := HR2.out.frozen 8
  have g9 := HR2.out.frozen 9
  go_wp2_with fail
  refine ret10L (.int .i64 ep) (.int .i64 L) (.int .i64 tx) (.int .i64 k) (.int .i64 p) (.int .i64 nx) (.int .i64 pg) (.int .i64 sl) (.string bf) (.string af) w.heap.size rfl rfl (((((((((((HR2.out.set 0 (.int .i64 ep)).set 1 (.int .i64 L)).set 2 (.int .i64 tx)).set 3 (.int .i64 k)).set 4 (.int .i64 p)).set 5 (.int .i64 nx)).set 6 (.int .i64 pg)).set 7 (.int .i64 sl)).set 8 (.string bf)).set 9 (.string af))) ?_
  exact .of ep tx k p nx pg sl bf af hok hb ha (Ext.set (Ext.set (Ext.set (Ext.set (Ext.set (Ext.set (Ext.set (Ext.set (Ext.set (Ext.set HE2.out (p := ⟨w.heap.size, 0, none⟩) (Nat.le_refl _) _) (p := ⟨w.heap.size, 1, none⟩) (Nat.le_refl _) _) (p := ⟨w.heap.size, 2, none⟩) (Nat.le_refl _) _) (p := ⟨w.heap.size, 3, none⟩) (Nat.le_refl _) _) (p := ⟨w.heap.size, 4, none⟩) (Nat.le_refl _) _) (p := ⟨w.heap.size, 5, none⟩) (Nat.le_refl _) _) (p := ⟨w.heap.size, 6, none⟩) (Nat.le_refl _) _) (p := ⟨w.heap.size, 7, none⟩) (Nat.le_refl _) _) (p := ⟨w.heap.size, 8, none⟩) (Nat.le_refl _) _) (p := ⟨w.heap.size, 9, none⟩) (Nat.le_refl _) _)
end Go.Proofs.Yteaefjicpefgnaa
