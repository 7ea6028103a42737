/- The walks of ReadKey. -/
import Derived.Test.YthfkfdfcgldbeaaKeyR2
namespace Go.Proofs.Ythfkfdfcgldbeaa
open Go.RowKit Go.Deep
set_option linter.unusedVariables false
set_option maxRecDepth 100000
/-- the values of a key, and whether it is one -/
def KrPost (w : World) (T : TypeId) (o : Option (List CValue)) (e : Ending) (w' : World) : Prop :=
  ∃ v, e = .returned (.tuple #[v, .bool o.isSome]) ∧ (∀ xs, o = some xs → w'.ownsRow w.heap.size T 3 v xs.length (xs.flatMap CValue.cs)) ∧ Ext w w'
theorem rvR_ge {n : Nat} {c : UInt8} {r : List UInt8} (h : (c :: r).length ≤ n + 1) : (rvR c r).length ≤ n := by
  have := rvR_le c r
  simp at h; omega
/-- what ReadKey answers -/
def rkL (l : List UInt8) : List CValue := if 65536 < l.length then [] else match keyO l with
  | none => []
  | some xs => if 4096 < xs.length then [] else xs
def rkC (l : List UInt8) : Int := if 65536 < l.length then 2 else match keyO l with
  | none => 3
  | some xs => if 4096 < xs.length then 6 else 0
theorem rk_long {l : List UInt8} (h : 65536 < l.length) : rkL l = [] ∧ rkC l = 2 := by unfold rkL rkC; rw [if_pos h, if_pos h]; exact ⟨rfl, rfl⟩
theorem rk_none {l : List UInt8} (h : ¬ 65536 < l.length) (h2 : keyO l = none) : rkL l = [] ∧ rkC l = 3 := by unfold rkL rkC; rw [if_neg h, if_neg h, h2]; exact ⟨rfl, rfl⟩
theorem rk_many {l : List UInt8} {o : List CValue} (h : ¬ 65536 < l.length) (h2 : keyO l = some o) (h3 : 4096 < o.length) : rkL l = [] ∧ rkC l = 6 := by unfold rkL rkC; rw [if_neg h, if_neg h, h2]; simp [h3]
theorem rk_some {l : List UInt8} {o : List CValue} (h : ¬ 65536 < l.length) (h2 : keyO l = some o) (h3 : ¬ 4096 < o.length) : rkL l = o ∧ rkC l = 0 := by unfold rkL rkC; rw [if_neg h, if_neg h, h2]; simp; omega
/-- the answer of ReadKey -/
def RkPost (w : World) (T : TypeId) (l : List UInt8) (e : Ending) (w' : World) : Prop :=
  ∃ v, e = .returned (.tuple #[v, .int .i64 (rkC l)]) ∧ w'.ownsRow w.heap.size T 3 v (rkL l).length ((rkL l).flatMap CValue.cs) ∧ Ext w w'
theorem RkPost.no {w w' : World} {T : TypeId} {l : List UInt8} {v : Value} {c : Int} (h : rkL l = [] ∧ rkC l = c) (ho : w'.ownsRow w.heap.size T 3 v 0 []) (E : Ext w w') : RkPost w T l (.returned (.tuple #[v, .int .i64 c])) w' := by
  obtain ⟨h1, h2⟩ := h
  refine ⟨v, by rw [h2], ?_, E⟩
  rw [h1]; exact ho
theorem RkPost.yes {w w' : World} {T : TypeId} {l : List UInt8} {o : List CValue} {v : Value} {c : Int} (h : rkL l = o ∧ rkC l = c) (ho : w'.ownsRow w.heap.size T 3 v o.length (o.flatMap CValue.cs)) (E : Ext w w') : RkPost w T l (.returned (.tuple #[v, .int .i64 c])) w' := by
  obtain ⟨h1, h2⟩ := h
  refine ⟨v, by rw [h2], ?_, E⟩
  rw [h1]; exact ho
theorem own_sliceN {w : World} {B n size : Nat} {e : TypeId} {v : Value} {xs : List Value} (h : w.ownsRow B e size v n xs) : ∃ A cap, v = .slice A n cap := by
  obtain ⟨_, h | ⟨g, cap, cur, h, _⟩⟩ := h
  · exact ⟨none, 0, by rw [h.1, h.2]⟩
  · exact ⟨_, _, h⟩
theorem own_up {w : World} {B B' n size : Nat} {e : TypeId} {v : Value} {xs : List Value} (h : w.ownsRow B e size v n xs) (hB : B' ≤ B) : w.ownsRow B' e size v n xs := own_base h hB
theorem info_ValueK : (Try.prog.info? 30).map (fun i => (i.zero, i.size, i.bytes)) = some (some (Value.agg #[.int .i64 0, .int .i64 0, .string ByteArray.empty]), 3, 32) := by kernel_rfl
theorem rdr_value (b D : Nat) (c : UInt8) (r : List UInt8) (w : World) (hR : Rdr w b 149 D (c :: r) false) (hD : D ≤ w.heap.size) (hrl : r.length ≤ 65536) :
    Calls Try.prog 114 #[.pointer (some ⟨b, 0, none⟩)] w (VlPost w b 149 D (rvV c r) (rvR c r) (rvF c r)) := by
  by_cases h2 : c.toNat = 2
  · exact rdr_value_int b D c r w hR hD h2
  by_cases h3 : c.toNat = 3
  · by_cases h4 : idx0 r < r.length
    · exact rdr_value_text b D c r w hR hD h3 h4 hrl
    · exact rdr_value_lack b D c r w hR hD h3 h4 hrl
  · exact rdr_value_else b D c r w hR hD h2 h3
set_option maxHeartbeats 2000000 in
theorem impl_readKey (A : Option Addr) (n cp : Nat) (l : List UInt8) (w : World) (hl : l.length = n) (hn : n ≤ 65536) (hc : n ≤ cp) (hm : cp ≤ maxLen) (hr : Rd w A (l.map fun c => Value.int .u8 (c.toNat : Int))) :
    Calls Try.prog 70 #[.slice A n cp] w (KrPost w 30 (keyO l)) := by
  have hR : Rdr (w.alloc (.cells #[.slice A n cp, .bool false] 149)) w.heap.size 149 w.heap.size l false := by
    refine ⟨A, n, cp, Blk.new w _ [.slice A n cp, .bool false], hl, hc, hm, hr.ext (by repeat (first | exact Ext.refl _ | assumption | refine Ext.alloc ?_ _ | refine Ext.drewN ?_ _ | refine Ext.drew ?_ | refine Ext.set ?_ (by dsimp only; omega) _ | refine Ext.trans ?_ (by assumption))), fun hne a ha => ?_⟩
    obtain ⟨b', o', e, hx⟩ := hr (by simpa using hne)
    rw [ha] at e; injection e with e; subst e
    cases l with
    | nil => exact absurd rfl hne
    | cons c r => exact lt_of_cell (hx 0 _ rfl)
  have HR := Lib.hid (rdr_alloc hR (.cells #[] 30))
  have HE := Lib.hid (show Ext w ((w.alloc (.cells #[.slice A n cp, .bool false] 149)).alloc (.cells #[] 30)) from (by repeat (first | exact Ext.refl _ | assumption | refine Ext.alloc ?_ _ | refine Ext.drewN ?_ _ | refine Ext.drew ?_ | refine Ext.set ?_ (by dsimp only; omega) _ | refine Ext.trans ?_ (by assumption))))
  have hinit := World.ownsRow_lit (base := w.heap.size + 1) (e := 30) (size := 3) (w.alloc (.cells #[.slice A n cp, .bool false] 149)) #[] 0 (by rw [World.size_alloc]; exact Nat.le_refl _) (by unfold maxLen; omega) rfl
  rw [World.size_alloc] at hinit
  have HI := Lib.hid hinit
  obtain ⟨i0, hi, hz0, hz1, hz2⟩ := info_parts info_ValueK
  have HO0 := Lib.hid (show kR l.length l = keyO l from rfl)
  generalize keyO l = O at HO0 ⊢
  clear hR hinit hr
  go_enter Try.func70, Try.ntmps70
  go_wp2_with fail
  go_loopw [5] (fun v wr => ∃ (l : List UInt8) (f : Bool) (acc : List CValue), (f = false → ∃ j, l.length ≤ j ∧ (kR j l).map (acc ++ ·) = O) ∧ (f = true → O = none) ∧ acc.length + l.length ≤ 65536 ∧ wr.ownsRow (w.heap.size + 1) 30 3 v acc.length (acc.flatMap CValue.cs) ∧ Rdr wr w.heap.size 149 w.heap.size l f ∧ Ext w wr) (fun v wr => rdLen wr w.heap.size)
  case atStart => exact ⟨l, false, [], (fun _ => ⟨l.length, Nat.le_refl _, (by rw [HO0.out]; simp)⟩), (fun h => by cases h), (by simp; omega), HI.out, HR.out, HE.out⟩
  case round =>
    obtain ⟨l1, f, acc, h1, h2, h3, ho, hR, hE⟩ := hrel
    have H1 := Lib.hid h1
    have H2 := Lib.hid h2
    have HO := Lib.hid ho
    have HRr := Lib.hid hR
    have HEr := Lib.hid hE
    have HM := Lib.hid (rdLen_eq hR)
    obtain ⟨RA, Rn, Rcp, RB, hln, hjunk⟩ := hR
    clear hjunk
    obtain ⟨r0, r1⟩ := RB.cells2
    clear h1 h2 ho RB hl HR HE HI HO0
    obtain ⟨Av, capv, rfl⟩ := own_sliceN HO.out
    cases l1 with
    | nil =>
      have hln : Rn = 0 := by rw [← hln]; rfl
      subst hln
      cases f with
      | true =>
        have HN := Lib.hid (H2.out rfl)
        go_wp2_with fail
        refine rg_start (by kernel_rfl) (Ext.refl wr) (fun hE0 => ?_)
        (refine rg_take (v := ?_) 0 rfl (by kernel_rfl) (by kernel_rfl) (by kernel_rfl) (fun _ _ _ h => h) (by rfl) (by assumption) (fun W hW => ?_) ?_; rotate_left; (focus (go_simp; try with_reducible rfl)); (try simp only [List.setIfInBounds_toArray, List.set_cons_succ, List.set_cons_zero]))
        (refine rg_take (v := ?_) 1 rfl (by kernel_rfl) (by kernel_rfl) (by kernel_rfl) (fun _ _ _ h => h) (by rfl) (by assumption) (fun W hW => ?_) ?_; rotate_left; (focus (go_simp; try with_reducible rfl)); (try simp only [List.setIfInBounds_toArray, List.set_cons_succ, List.set_cons_zero]))
        (refine rg_take (v := ?_) 2 rfl (by kernel_rfl) (by kernel_rfl) (by kernel_rfl) (fun _ _ _ h => h) (by rfl) (by assumption) (fun W hW => ?_) ?_; rotate_left; (focus (go_simp; try with_reducible rfl)); (try simp only [List.setIfInBounds_toArray, List.set_cons_succ, List.set_cons_zero]))
        (refine rg_take (v := ?_) 3 rfl (by kernel_rfl) (by kernel_rfl) (by kernel_rfl) (fun _ _ _ h => h) (by rfl) (by assumption) (fun W hW => ?_) ?_; rotate_left; (focus (go_simp; try with_reducible rfl)); (try simp only [List.setIfInBounds_toArray, List.set_cons_succ, List.set_cons_zero]))
        (refine rg_take (v := ?_) 4 rfl (by kernel_rfl) (by kernel_rfl) (by kernel_rfl) (fun _ _ _ h => h) (by rfl) (by assumption) (fun W hW => ?_) ?_; rotate_left; (focus (have k1 := hW.cell r1; go_simp; try with_reducible rfl)); (try simp only [List.setIfInBounds_toArray, List.set_cons_succ, List.set_cons_zero]))
        (refine rg_take (v := ?_) 5 rfl (by kernel_rfl) (by kernel_rfl) (by kernel_rfl) (fun _ _ _ h => h) (by rfl) (by assumption) (fun W hW => ?_) ?_; rotate_left; (focus (go_simp; try with_reducible rfl)); (try simp only [List.setIfInBounds_toArray, List.set_cons_succ, List.set_cons_zero]))
        (refine rg_take (v := ?_) 6 rfl (by kernel_rfl) (by kernel_rfl) (by kernel_rfl) (fun _ _ _ h => h) (by rfl) (by assumption) (fun W hW => ?_) ?_; rotate_left; (focus (go_simp; try with_reducible rfl)); (try simp only [List.setIfInBounds_toArray, List.set_cons_succ, List.set_cons_zero]))
        (refine rg_take (v := ?_) 7 rfl (by kernel_rfl) (by kernel_rfl) (by kernel_rfl) (fun _ _ _ h => h) (by rfl) (by assumption) (fun W hW => ?_) ?_; rotate_left; (focus (go_simp; try with_reducible rfl)); (try simp only [List.setIfInBounds_toArray, List.set_cons_succ, List.set_cons_zero]))
        refine rg_done (by kernel_rfl) ?_
        generalize wr.drew = wz at hE0 ⊢
        go_wp2_with fail
        go_ret2
        rw [HN.out]
        exact ⟨_, rfl, fun xs h => (by cases h), HEr.out.trans hE0⟩
      | false =>
        have HN := Lib.hid (show O = some acc by obtain ⟨j, _, hj⟩ := H1.out rfl; rw [kR_nil] at hj; rw [← hj]; simp)
        go_wp2_with fail
        refine rg_start (by kernel_rfl) (Ext.refl wr) (fun hE0 => ?_)
        (refine rg_take (v := ?_) 0 rfl (by kernel_rfl) (by kernel_rfl) (by kernel_rfl) (fun _ _ _ h => h) (by rfl) (by assumption) (fun W hW => ?_) ?_; rotate_left; (focus (go_simp; try with_reducible rfl)); (try simp only [List.setIfInBounds_toArray, List.set_cons_succ, List.set_cons_zero]))
        (refine rg_take (v := ?_) 1 rfl (by kernel_rfl) (by kernel_rfl) (by kernel_rfl) (fun _ _ _ h => h) (by rfl) (by assumption) (fun W hW => ?_) ?_; rotate_left; (focus (go_simp; try with_reducible rfl)); (try simp only [List.setIfInBounds_toArray, List.set_cons_succ, List.set_cons_zero]))
        (refine rg_take (v := ?_) 2 rfl (by kernel_rfl) (by kernel_rfl) (by kernel_rfl) (fun _ _ _ h => h) (by rfl) (by assumption) (fun W hW => ?_) ?_; rotate_left; (focus (go_simp; try with_reducible rfl)); (try simp only [List.setIfInBounds_toArray, List.set_cons_succ, List.set_cons_zero]))
        (refine rg_take (v := ?_) 3 rfl (by kernel_rfl) (by kernel_rfl) (by kernel_rfl) (fun _ _ _ h => h) (by rfl) (by assumption) (fun W hW => ?_) ?_; rotate_left; (focus (go_simp; try with_reducible rfl)); (try simp only [List.setIfInBounds_toArray, List.set_cons_succ, List.set_cons_zero]))
        (refine rg_take (v := ?_) 4 rfl (by kernel_rfl) (by kernel_rfl) (by kernel_rfl) (fun _ _ _ h => h) (by rfl) (by assumption) (fun W hW => ?_) ?_; rotate_left; (focus (have k1 := hW.cell r1; go_simp; try with_reducible rfl)); (try simp only [List.setIfInBounds_toArray, List.set_cons_succ, List.set_cons_zero]))
        (refine rg_take (v := ?_) 5 rfl (by kernel_rfl) (by kernel_rfl) (by kernel_rfl) (fun _ _ _ h => h) (by rfl) (by assumption) (fun W hW => ?_) ?_; rotate_left; (focus (go_simp; try with_reducible rfl)); (try simp only [List.setIfInBounds_toArray, List.set_cons_succ, List.set_cons_zero]))
        (refine rg_take (v := ?_) 6 rfl (by kernel_rfl) (by kernel_rfl) (by kernel_rfl) (fun _ _ _ h => h) (by rfl) (by assumption) (fun W hW => ?_) ?_; rotate_left; (focus (go_simp; try with_reducible rfl)); (try simp only [List.setIfInBounds_toArray, List.set_cons_succ, List.set_cons_zero]))
        (refine rg_take (v := ?_) 7 rfl (by kernel_rfl) (by kernel_rfl) (by kernel_rfl) (fun _ _ _ h => h) (by rfl) (by assumption) (fun W hW => ?_) ?_; rotate_left; (focus (go_simp; try with_reducible rfl)); (try simp only [List.setIfInBounds_toArray, List.set_cons_succ, List.set_cons_zero]))
        refine rg_done (by kernel_rfl) ?_
        generalize wr.drew = wz at hE0 ⊢
        go_wp2_with fail
        go_ret2
        rw [HN.out]
        exact ⟨_, rfl, fun xs h => (by injection h with h; subst h; exact own_up (own_ext HO.out hE0) (Nat.le_succ _)), HEr.out.trans hE0⟩
    | cons c r =>
      have hln0 : (0 : Int) < (Rn : Int) := by rw [← hln]; simp
      clear hln
      cases f with
      | true =>
        have HN := Lib.hid (H2.out rfl)
        go_wp2_with fail
        refine rg_start (by kernel_rfl) (Ext.refl wr) (fun hE0 => ?_)
        (refine rg_take (v := ?_) 0 rfl (by kernel_rfl) (by kernel_rfl) (by kernel_rfl) (fun _ _ _ h => h) (by rfl) (by assumption) (fun W hW => ?_) ?_; rotate_left; (focus (go_simp; try with_reducible rfl)); (try simp only [List.setIfInBounds_toArray, List.set_cons_succ, List.set_cons_zero]))
        (refine rg_take (v := ?_) 1 rfl (by kernel_rfl) (by kernel_rfl) (by kernel_rfl) (fun _ _ _ h => h) (by rfl) (by assumption) (fun W hW => ?_) ?_; rotate_left; (focus (go_simp; try with_reducible rfl)); (try simp only [List.setIfInBounds_toArray, List.set_cons_succ, List.set_cons_zero]))
        (refine rg_take (v := ?_) 2 rfl (by kernel_rfl) (by kernel_rfl) (by kernel_rfl) (fun _ _ _ h => h) (by rfl) (by assumption) (fun W hW => ?_) ?_; rotate_left; (focus (go_simp; try with_reducible rfl)); (try simp only [List.setIfInBounds_toArray, List.set_cons_succ, List.set_cons_zero]))
        (refine rg_take (v := ?_) 3 rfl (by kernel_rfl) (by kernel_rfl) (by kernel_rfl) (fun _ _ _ h => h) (by rfl) (by assumption) (fun W hW => ?_) ?_; rotate_left; (focus (go_simp; try with_reducible rfl)); (try simp only [List.setIfInBounds_toArray, List.set_cons_succ, List.set_cons_zero]))
        (refine rg_take (v := ?_) 4 rfl (by kernel_rfl) (by kernel_rfl) (by kernel_rfl) (fun _ _ _ h => h) (by rfl) (by assumption) (fun W hW => ?_) ?_; rotate_left; (focus (have k1 := hW.cell r1; go_simp; try with_reducible rfl)); (try simp only [List.setIfInBounds_toArray, List.set_cons_succ, List.set_cons_zero]))
        (refine rg_take (v := ?_) 5 rfl (by kernel_rfl) (by kernel_rfl) (by kernel_rfl) (fun _ _ _ h => h) (by rfl) (by assumption) (fun W hW => ?_) ?_; rotate_left; (focus (go_simp; try with_reducible rfl)); (try simp only [List.setIfInBounds_toArray, List.set_cons_succ, List.set_cons_zero]))
        (refine rg_take (v := ?_) 6 rfl (by kernel_rfl) (by kernel_rfl) (by kernel_rfl) (fun _ _ _ h => h) (by rfl) (by assumption) (fun W hW => ?_) ?_; rotate_left; (focus (go_simp; try with_reducible rfl)); (try simp only [List.setIfInBounds_toArray, List.set_cons_succ, List.set_cons_zero]))
        (refine rg_take (v := ?_) 7 rfl (by kernel_rfl) (by kernel_rfl) (by kernel_rfl) (fun _ _ _ h => h) (by rfl) (by assumption) (fun W hW => ?_) ?_; rotate_left; (focus (go_simp; try with_reducible rfl)); (try simp only [List.setIfInBounds_toArray, List.set_cons_succ, List.set_cons_zero]))
        refine rg_done (by kernel_rfl) ?_
        generalize wr.drew = wz at hE0 ⊢
        go_wp2_with fail
        go_ret2
        rw [HN.out]
        exact ⟨_, rfl, fun xs h => (by cases h), HEr.out.trans hE0⟩
      | false =>
        obtain ⟨j, hj1, hj2⟩ := H1.out rfl
        obtain ⟨j, rfl⟩ : ∃ i, j = i + 1 := ⟨j - 1, by simp at hj1; omega⟩
        rw [kR_cons] at hj2
        have hrl : r.length ≤ 65536 := by simp at h3; omega
        have hle := rvR_le c r
        have HJ1 := Lib.hid (rvR_ge hj1)
        have HJ2 := Lib.hid hj2
        have hsz : w.heap.size ≤ wr.heap.size := HEr.out.le
        have HVL := Lib.hid (rdr_value w.heap.size w.heap.size c r wr HRr.out hsz hrl)
        have H3 := Lib.hid (show acc.length + 1 + (rvR c r).length ≤ 65536 by simp at h3; omega)
        have HM2 := Lib.hid (show (rvR c r).length < rdLen wr w.heap.size by rw [HM.out]; simp; omega)
        have hk : acc.length + 1 ≤ 65536 := by have := H3.out; omega
        clear hj1 hj2 H1 H2 h3 hle hE HM
        generalize rvV c r = x at HVL HJ2
        generalize rvR c r = r2 at HVL HJ1 HJ2 H3 HM2
        generalize rvF c r = f2 at HVL HJ2
        obtain ⟨xa, xb, xc⟩ := x
        go_wp2_with fail
        refine HVL.out.mono ?_
        rintro e w2 ⟨rfl, hR2, hg2⟩
        have HO2 := Lib.hid (own_far HO.out hg2 (by intro e; have := own_blk HO.out _ e; omega))
        have HE2 := Lib.hid (HEr.out.grown hg2 (by intro k hk; injection hk with hk; omega))
        have HR2 := Lib.hid hR2
        have hsz2 : w.heap.size + 1 ≤ w2.heap.size := by
          have := hR2.lt
          omega
        clear hR2 hg2 HO HVL HRr
        have hrow := own_ext HO2.out ((Ext.refl w2).alloc (.cells #[.int .i64 xa, .int .i64 xb, .string xc] 30))
        go_wp2_with (at_builtin; refine wpList_append_own _ rfl (.tmp 23) (.tmp 26) 42 rfl (w.heap.size + 1) 30 i0 (Value.agg #[.int .i64 0, .int .i64 0, .string ByteArray.empty]) 3 32 Try.underlying42 hi hz0 hz1 hz2 rfl (by decide) _ acc.length _ rfl hrow ⟨w2.heap.size, 0, none⟩ 1 1 [.int .i64 xa, .int .i64 xb, .string xc] rfl rfl (rd_add (Blk.new w2 _ _).rd) (by intro u hu; simp at hu; rcases hu with rfl | rfl | rfl <;> rfl) (by unfold maxLen; omega) (by omega) (by simp; omega) ?_)
        intro v4 w4 ho4 hg4 _
        have HO4 := Lib.hid ho4
        have hbk := own_blk hrow
        have HR4 := Lib.hid ((HR2.out.ext ((Ext.refl w2).alloc (.cells #[.int .i64 xa, .int .i64 xb, .string xc] 30))).far hg4 (fun i e => by have := hbk _ e; omega))
        have HE4 := Lib.hid ((HE2.out.alloc (.cells #[.int .i64 xa, .int .i64 xb, .string xc] 30)).grown hg4 (fun k e => by have := hbk k e; omega))
        clear hrow ho4 hg4 HO2 HR2 HE2 hbk
        go_wp2_with fail
        go_roundw
        case rel =>
          refine ⟨r2, f2, acc ++ [⟨xa, xb, xc⟩], ?_, ?_, by rw [List.length_append]; exact H3.out, by rw [List.length_append, List.flatMap_append]; exact HO4.out, HR4.out, HE4.out⟩
          · intro hf
            refine ⟨j, HJ1.out, ?_⟩
            rw [← HJ2.out, hf]
            simp
            rfl
          · intro hf
            rw [← HJ2.out, hf]
            rfl
        case measure =>
          rw [rdLen_eq HR4.out]
          exact HM2.out
set_option maxHeartbeats 2000000 in
theorem impl_ReadKey (A : Option Addr) (n cp : Nat) (l : List UInt8) (w : World) (hl : l.length = n) (hc : n ≤ cp) (hm : cp ≤ maxLen) (hr : Rd w A (l.map fun c => Value.int .u8 (c.toNat : Int))) :
    Calls Try.prog 26 #[.slice A n cp] w (RkPost w 30 l) := by
  have hnil : ∀ W : World, W.ownsRow w.heap.size 30 3 (.slice none 0 0) 0 [] := fun W => World.ownsRow_nil _ _ _ _
  by_cases h1 : 65536 < n
  · have HV := Lib.hid (rk_long (l := l) (by omega))
    have h1I : (65536 : Int) < (n : Int) := by omega
    clear hl hr
    go_enter Try.func26, Try.ntmps26
    go_wp2_with fail
    go_ret2
    exact .no HV.out (hnil _) (Ext.refl _)
  have h1I : ¬ (65536 : Int) < (n : Int) := by omega
  have h1' : ¬ 65536 < l.length := by omega
  have hK := impl_readKey A n cp l w hl (by omega) hc hm hr
  unfold KrPost at hK
  rcases ho : keyO l with _ | o
  · have HV := Lib.hid (rk_none h1' ho)
    rw [ho] at hK
    have HK := Lib.hid hK
    clear hl hr hK h1' ho h1
    go_enter Try.func26, Try.ntmps26
    go_wp2_with fail
    refine HK.out.mono ?_
    rintro e w1 ⟨v, rfl, O1, E1⟩
    clear O1
    go_wp2_with fail
    go_ret2
    exact .no HV.out (hnil _) E1
  rw [ho] at hK
  by_cases h4 : 4096 < o.length
  · have HV := Lib.hid (rk_many h1' ho h4)
    have HK := Lib.hid hK
    have h4I : (4096 : Int) < (o.length : Int) := by omega
    clear hl hr hK h1' ho h1
    go_enter Try.func26, Try.ntmps26
    go_wp2_with fail
    refine HK.out.mono ?_
    rintro e w1 ⟨v, rfl, O1, E1⟩
    obtain ⟨A1, cap1, rfl⟩ := own_sliceN (O1 o rfl)
    clear O1
    go_wp2_with fail
    go_ret2
    exact .no HV.out (hnil _) E1
  · have HV := Lib.hid (rk_some h1' ho h4)
    have HK := Lib.hid hK
    have h4I : ¬ (4096 : Int) < (o.length : Int) := by omega
    clear hl hr hK h1' ho h1
    go_enter Try.func26, Try.ntmps26
    go_wp2_with fail
    refine HK.out.mono ?_
    rintro e w1 ⟨v, rfl, O1, E1⟩
    have HO := Lib.hid (O1 o rfl)
    obtain ⟨A1, cap1, rfl⟩ := own_sliceN HO.out
    clear O1
    go_wp2_with fail
    go_ret2
    exact .yes HV.out HO.out E1
end Go.Proofs.Ythfkfdfcgldbeaa
