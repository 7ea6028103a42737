/- The walk of FnExactBinaryValue (printed by gen_bin6.py). -/
import Derived.Test.YthfkfdfcgldbeaaBin6
import Derived.Test.YthfkfdfcgldbeaaRg
import Derived.Test.YthfkfdfcgldbeaaFlatValue
namespace Go.Proofs.Ythfkfdfcgldbeaa
open Go.RowKit Go.Deep
set_option linter.unusedVariables false
set_option maxRecDepth 100000
set_option maxHeartbeats 16000000 in
theorem walk_FnExactBinaryValue (w : World) (op : Int) (wop : (Lit.int .i64 op).wf = true) (k i : Int) (s : ByteArray) (wk : (Lit.int .i64 k).wf = true) (wi : (Lit.int .i64 i).wf = true) (ws : s.size ≤ maxLen)
    (k' i' : Int) (s' : ByteArray) (wk' : (Lit.int .i64 k').wf = true) (wi' : (Lit.int .i64 i').wf = true) (ws' : s'.size ≤ maxLen) :
    Calls Try.prog 7 #[.int .i64 op, .agg #[.int .i64 k, .int .i64 i, .string s], .agg #[.int .i64 k', .int .i64 i', .string s']] w fun e w' => e = .returned (.bool true) ∧ Ext w w' := by
  clear wop wk wi wk' wi'
  obtain ⟨a, rfl, rfl, rfl⟩ : ∃ a : CValue, k = a.a ∧ i = a.b ∧ s = a.c := ⟨⟨k, i, s⟩, rfl, rfl, rfl⟩
  obtain ⟨b, rfl, rfl, rfl⟩ : ∃ b : CValue, k' = b.a ∧ i' = b.b ∧ s' = b.c := ⟨⟨k', i', s'⟩, rfl, rfl, rfl⟩
  have hI := fun W => impl_BinaryValue op a b W ws ws'
  have hS := fun W => spec_BinaryValue op a b W ws ws'
  generalize bvV op a b = x at hI hS
  generalize bvC op a b = c at hI hS
  have HI := Lib.hid hI
  have HS := Lib.hid hS
  clear hI hS
  have hcc : (c != c) = false := by simp
  have hZ := szValue_any a.a a.b 1048576 a.c
  have HXa0 := Lib.hid ((Blk.new w 23 [.int .i64 a.a, .int .i64 a.b, .string a.c]).alloc (.cells #[.int .i64 b.a, .int .i64 b.b, .string b.c] 23))
  have hB2 := Blk.new (w.alloc (.cells #[.int .i64 a.a, .int .i64 a.b, .string a.c] 23)) 23 [.int .i64 b.a, .int .i64 b.b, .string b.c]
  rw [World.size_alloc] at hB2
  have HXb0 := Lib.hid hB2
  have HEw := Lib.hid (show Ext w ((w.alloc (.cells #[.int .i64 a.a, .int .i64 a.b, .string a.c] 23)).alloc (.cells #[.int .i64 b.a, .int .i64 b.b, .string b.c] 23)) from (by repeat (first | exact Ext.refl _ | assumption | refine Ext.alloc ?_ _ | refine Ext.drewN ?_ _ | refine Ext.drew ?_ | refine Ext.set ?_ (by dsimp only; omega) _ | refine Ext.trans ?_ (by assumption))))
  clear hB2
  by_cases hbig : (1048576 : Int) < (a.c.size : Int)
  · rw [if_pos hbig] at hZ
    have HZ := Lib.hid hZ
    clear hZ
    go_enter Try.func7, Try.ntmps7
    go_wp2_with fail
    refine (HZ.out _ ws (by omega) (by omega)).mono ?_
    rintro e w1 ⟨rfl, E1⟩
    go_wp2_with fail
    go_ret
    exact ⟨rfl, HEw.out.trans E1⟩
  rw [if_neg hbig] at hZ
  have h0 : 0 ≤ (1048576 : Int) - (a.c.size : Int) := by omega
  have h1 : (1048576 : Int) - (a.c.size : Int) ≤ 1048576 := by omega
  generalize (1048576 : Int) - (a.c.size : Int) = left at hZ h0 h1
  have HZ := Lib.hid hZ
  clear hZ hbig
  have hZ := szValue_any b.a b.b left b.c
  by_cases hbig : left < (b.c.size : Int)
  · rw [if_pos hbig] at hZ
    have HZ2 := Lib.hid hZ
    clear hZ
    go_enter Try.func7, Try.ntmps7
    go_wp2_with fail
    refine (HZ.out _ ws (by omega) (by omega)).mono ?_
    rintro e w1 ⟨rfl, E1⟩
    obtain ⟨c0, c1, c2⟩ := (HXb0.out.ext E1).cells3
    go_wp2_with fail
    refine (HZ2.out _ ws' (by omega) (by omega)).mono ?_
    rintro e w2 ⟨rfl, E2⟩
    go_wp2_with fail
    go_ret
    exact ⟨rfl, HEw.out.trans (E1.trans E2)⟩
  rw [if_neg hbig] at hZ
  have g0 : 0 ≤ left - (b.c.size : Int) := by omega
  generalize left - (b.c.size : Int) = left2 at hZ g0
  have HZ2 := Lib.hid hZ
  clear hZ hbig
  go_enter Try.func7, Try.ntmps7
  go_wp2_with fail
  refine (HZ.out _ ws (by omega) (by omega)).mono ?_
  rintro e w1 ⟨rfl, E1⟩
  obtain ⟨c0, c1, c2⟩ := (HXb0.out.ext E1).cells3
  go_wp2_with fail
  refine (HZ2.out _ ws' (by omega) (by omega)).mono ?_
  rintro e w2 ⟨rfl, E2⟩
  have HXa := Lib.hid (HXa0.out.ext (E1.trans E2))
  have HXb := Lib.hid (HXb0.out.ext (E1.trans E2))
  have HEv := Lib.hid (HEw.out.trans (E1.trans E2))
  clear E1 E2 c0 c1 c2 HXa0 HXb0 HEw HZ HZ2
  go_wp2_with fail
  have HE8 := Lib.hid (Ext.refl w2)
  obtain ⟨x80, x81, x82⟩ := (HXa.out.ext HE8.out).cells3
  obtain ⟨y80, y81, y82⟩ := (HXb.out.ext HE8.out).cells3
  refine rg_start (by kernel_rfl) (Ext.refl w2) (fun hE0 => ?_)
  (refine rg_take (v := ?_) 0 rfl (by kernel_rfl) (by kernel_rfl) (by kernel_rfl) (fun _ _ _ h => h) (by rfl) (by assumption) (fun W hW => ?_) ?_; rotate_left; (focus (go_simp; try with_reducible rfl)); (try simp only [List.setIfInBounds_toArray, List.set_cons_succ, List.set_cons_zero]))
  (refine rg_take (v := ?_) 1 rfl (by kernel_rfl) (by kernel_rfl) (by kernel_rfl) (fun _ _ _ h => h) (by rfl) (by assumption) (fun W hW => ?_) ?_; rotate_left; (focus (have k0 := hW.cell x80; have k1 := hW.cell x81; have k2 := hW.cell x82; go_simp; try with_reducible rfl)); (try simp only [List.setIfInBounds_toArray, List.set_cons_succ, List.set_cons_zero]))
  (refine rg_take (v := ?_) 3 rfl (by kernel_rfl) (by kernel_rfl) (by kernel_rfl) (fun _ _ _ h => h) (by rfl) (by assumption) (fun W hW => ?_) ?_; rotate_left; (focus (have k0 := hW.cell y80; have k1 := hW.cell y81; have k2 := hW.cell y82; go_simp; try with_reducible rfl)); (try simp only [List.setIfInBounds_toArray, List.set_cons_succ, List.set_cons_zero]))
  clear x80 x81 x82 y80 y81 y82
  generalize w2.drew = wd8 at hE0 ⊢
  refine rg_two 2 9 (by kernel_rfl) rfl (by rfl) rfl (by rfl) (fun K hK => ?_) (fun K hK => ?_)
  · go_simp
    refine (toValue_any a.a a.b a.c _).mono ?_
    rintro e wb80 ⟨rfl, E⟩
    refine hK _ _ (hE0.trans E) (fun hb80 => ?_)
    clear hK K
    try simp only [List.setIfInBounds_toArray, List.set_cons_succ, List.set_cons_zero]
    clear E
    refine rg_two 4 9 (by kernel_rfl) rfl (by rfl) rfl (by rfl) (fun K hK => ?_) (fun K hK => ?_)
    · go_simp
      refine (toValue_any b.a b.b b.c _).mono ?_
      rintro e wb81 ⟨rfl, E⟩
      refine hK _ _ (hb80.trans E) (fun hb81 => ?_)
      clear hK K
      try simp only [List.setIfInBounds_toArray, List.set_cons_succ, List.set_cons_zero]
      clear E
      refine rg_two 5 9 (by kernel_rfl) rfl (by rfl) rfl (by rfl) (fun K hK => ?_) (fun K hK => ?_)
      · go_simp
        refine (HS.out _).mono ?_
        rintro e wb82 ⟨rfl, E⟩
        refine hK _ _ (hb81.trans E) (fun hb82 => ?_)
        clear hK K
        try simp only [List.setIfInBounds_toArray, List.set_cons_succ, List.set_cons_zero]
        clear E
        (refine rg_take (v := ?_) 6 rfl (by kernel_rfl) (by kernel_rfl) (by kernel_rfl) (fun _ _ _ h => h) (by rfl) (by assumption) (fun W hW => ?_) ?_; rotate_left; (focus (go_simp; try with_reducible rfl)); (try simp only [List.setIfInBounds_toArray, List.set_cons_succ, List.set_cons_zero]))
        (refine rg_take (v := ?_) 7 rfl (by kernel_rfl) (by kernel_rfl) (by kernel_rfl) (fun _ _ _ h => h) (by rfl) (by assumption) (fun W hW => ?_) ?_; rotate_left; (focus (go_simp; try with_reducible rfl)); (try simp only [List.setIfInBounds_toArray, List.set_cons_succ, List.set_cons_zero]))
        (refine rg_take (v := ?_) 8 rfl (by kernel_rfl) (by kernel_rfl) (by kernel_rfl) (fun _ _ _ h => h) (by rfl) (by assumption) (fun W hW => ?_) ?_; rotate_left; (focus (go_simp; try with_reducible rfl)); (try simp only [List.setIfInBounds_toArray, List.set_cons_succ, List.set_cons_zero]))
        (refine rg_one 9 (by kernel_rfl) rfl (by rfl) (fun K hK => ?_); go_simp)
        refine hK _ _ (hb82.alloc _) (fun ha8 => ?_)
        clear hK K
        try simp only [List.setIfInBounds_toArray, List.set_cons_succ, List.set_cons_zero]
        have HZ := Lib.hid (Blk.new wb82 30 [.int .i64 0, .int .i64 0, .string ⟨#[]⟩])
        have hbz : w2.heap.size ≤ wb82.heap.size := hb82.le
        generalize wb82.alloc (.cells #[.int .i64 0, .int .i64 0, .string ⟨#[]⟩] 30) = wz8 at HZ ha8 ⊢
        generalize wb82.heap.size = bz8 at HZ hbz ⊢
        have HZ1 := Lib.hid (show Blk (((wz8.setCell ⟨bz8, 0, none⟩ (.int .i64 x.a)).setCell ⟨bz8, 1, none⟩ (.int .i64 x.b)).setCell ⟨bz8, 2, none⟩ (.string x.c)) bz8 30 [.int .i64 x.a, .int .i64 x.b, .string x.c] from ((HZ.out.set 0 _).set 1 _).set 2 _)
        obtain ⟨z0, z1, z2⟩ := HZ.out.cells3
        have zf0 := HZ.out.frozen 0
        have zf1 := HZ.out.frozen 1
        have zf2 := HZ.out.frozen 2
        (refine rg_one 10 (by kernel_rfl) rfl (by rfl) (fun K hK => ?_); go_simp)
        refine hK _ _ (((ha8.set (by dsimp only; omega) _).set (by dsimp only; omega) _).set (by dsimp only; omega) _) (fun hL8 => ?_)
        clear hK K
        try simp only [List.setIfInBounds_toArray, List.set_cons_succ, List.set_cons_zero]
        (refine rg_take (v := ?_) 11 rfl (by kernel_rfl) (by kernel_rfl) (by kernel_rfl) (fun _ _ _ h => h) (by rfl) (by assumption) (fun W hW => ?_) ?_; rotate_left; (focus (go_simp; try with_reducible rfl)); (try simp only [List.setIfInBounds_toArray, List.set_cons_succ, List.set_cons_zero]))
        refine rg_done (by kernel_rfl) ?_
        clear z0 z1 z2 zf0 zf1 zf2 HZ
        generalize ((wz8.setCell ⟨bz8, 0, none⟩ (.int .i64 x.a)).setCell ⟨bz8, 1, none⟩ (.int .i64 x.b)).setCell ⟨bz8, 2, none⟩ (.string x.c) = wo8 at HZ1 hL8 ⊢
        have HZ8 := Lib.hid HZ1.out
        have HL8 := Lib.hid hL8
        clear HZ1 hL8 ha8 hE0
        go_wp2_with fail
        have HE9 := Lib.hid HL8.out
        obtain ⟨x90, x91, x92⟩ := (HXa.out.ext HE9.out).cells3
        obtain ⟨y90, y91, y92⟩ := (HXb.out.ext HE9.out).cells3
        refine rg_start (by kernel_rfl) (Ext.refl wo8) (fun hE0 => ?_)
        (refine rg_take (v := ?_) 0 rfl (by kernel_rfl) (by kernel_rfl) (by kernel_rfl) (fun _ _ _ h => h) (by rfl) (by assumption) (fun W hW => ?_) ?_; rotate_left; (focus (go_simp; try with_reducible rfl)); (try simp only [List.setIfInBounds_toArray, List.set_cons_succ, List.set_cons_zero]))
        (refine rg_take (v := ?_) 1 rfl (by kernel_rfl) (by kernel_rfl) (by kernel_rfl) (fun _ _ _ h => h) (by rfl) (by assumption) (fun W hW => ?_) ?_; rotate_left; (focus (have k0 := hW.cell x90; have k1 := hW.cell x91; have k2 := hW.cell x92; go_simp; try with_reducible rfl)); (try simp only [List.setIfInBounds_toArray, List.set_cons_succ, List.set_cons_zero]))
        (refine rg_take (v := ?_) 3 rfl (by kernel_rfl) (by kernel_rfl) (by kernel_rfl) (fun _ _ _ h => h) (by rfl) (by assumption) (fun W hW => ?_) ?_; rotate_left; (focus (have k0 := hW.cell y90; have k1 := hW.cell y91; have k2 := hW.cell y92; go_simp; try with_reducible rfl)); (try simp only [List.setIfInBounds_toArray, List.set_cons_succ, List.set_cons_zero]))
        clear x90 x91 x92 y90 y91 y92
        generalize wo8.drew = wd9 at hE0 ⊢
        refine rg_two 2 9 (by kernel_rfl) rfl (by rfl) rfl (by rfl) (fun K hK => ?_) (fun K hK => ?_)
        · go_simp
          refine (toValue_any a.a a.b a.c _).mono ?_
          rintro e wb90 ⟨rfl, E⟩
          refine hK _ _ (hE0.trans E) (fun hb90 => ?_)
          clear hK K
          try simp only [List.setIfInBounds_toArray, List.set_cons_succ, List.set_cons_zero]
          clear E
          refine rg_two 4 9 (by kernel_rfl) rfl (by rfl) rfl (by rfl) (fun K hK => ?_) (fun K hK => ?_)
          · go_simp
            refine (toValue_any b.a b.b b.c _).mono ?_
            rintro e wb91 ⟨rfl, E⟩
            refine hK _ _ (hb90.trans E) (fun hb91 => ?_)
            clear hK K
            try simp only [List.setIfInBounds_toArray, List.set_cons_succ, List.set_cons_zero]
            clear E
            refine rg_two 5 9 (by kernel_rfl) rfl (by rfl) rfl (by rfl) (fun K hK => ?_) (fun K hK => ?_)
            · go_simp
              refine (HI.out _).mono ?_
              rintro e wb92 ⟨rfl, E⟩
              refine hK _ _ (hb91.trans E) (fun hb92 => ?_)
              clear hK K
              try simp only [List.setIfInBounds_toArray, List.set_cons_succ, List.set_cons_zero]
              clear E
              (refine rg_take (v := ?_) 6 rfl (by kernel_rfl) (by kernel_rfl) (by kernel_rfl) (fun _ _ _ h => h) (by rfl) (by assumption) (fun W hW => ?_) ?_; rotate_left; (focus (go_simp; try with_reducible rfl)); (try simp only [List.setIfInBounds_toArray, List.set_cons_succ, List.set_cons_zero]))
              (refine rg_take (v := ?_) 7 rfl (by kernel_rfl) (by kernel_rfl) (by kernel_rfl) (fun _ _ _ h => h) (by rfl) (by assumption) (fun W hW => ?_) ?_; rotate_left; (focus (go_simp; try with_reducible rfl)); (try simp only [List.setIfInBounds_toArray, List.set_cons_succ, List.set_cons_zero]))
              (refine rg_take (v := ?_) 8 rfl (by kernel_rfl) (by kernel_rfl) (by kernel_rfl) (fun _ _ _ h => h) (by rfl) (by assumption) (fun W hW => ?_) ?_; rotate_left; (focus (go_simp; try with_reducible rfl)); (try simp only [List.setIfInBounds_toArray, List.set_cons_succ, List.set_cons_zero]))
              (refine rg_one 9 (by kernel_rfl) rfl (by rfl) (fun K hK => ?_); go_simp)
              refine hK _ _ (hb92.alloc _) (fun ha9 => ?_)
              clear hK K
              try simp only [List.setIfInBounds_toArray, List.set_cons_succ, List.set_cons_zero]
              have HZ := Lib.hid (Blk.new wb92 30 [.int .i64 0, .int .i64 0, .string ⟨#[]⟩])
              have hbz : wo8.heap.size ≤ wb92.heap.size := hb92.le
              generalize wb92.alloc (.cells #[.int .i64 0, .int .i64 0, .string ⟨#[]⟩] 30) = wz9 at HZ ha9 ⊢
              generalize wb92.heap.size = bz9 at HZ hbz ⊢
              have HZ1 := Lib.hid (show Blk (((wz9.setCell ⟨bz9, 0, none⟩ (.int .i64 x.a)).setCell ⟨bz9, 1, none⟩ (.int .i64 x.b)).setCell ⟨bz9, 2, none⟩ (.string x.c)) bz9 30 [.int .i64 x.a, .int .i64 x.b, .string x.c] from ((HZ.out.set 0 _).set 1 _).set 2 _)
              obtain ⟨z0, z1, z2⟩ := HZ.out.cells3
              have zf0 := HZ.out.frozen 0
              have zf1 := HZ.out.frozen 1
              have zf2 := HZ.out.frozen 2
              (refine rg_one 10 (by kernel_rfl) rfl (by rfl) (fun K hK => ?_); go_simp)
              refine hK _ _ (((ha9.set (by dsimp only; omega) _).set (by dsimp only; omega) _).set (by dsimp only; omega) _) (fun hL9 => ?_)
              clear hK K
              try simp only [List.setIfInBounds_toArray, List.set_cons_succ, List.set_cons_zero]
              (refine rg_take (v := ?_) 11 rfl (by kernel_rfl) (by kernel_rfl) (by kernel_rfl) (fun _ _ _ h => h) (by rfl) (by assumption) (fun W hW => ?_) ?_; rotate_left; (focus (go_simp; try with_reducible rfl)); (try simp only [List.setIfInBounds_toArray, List.set_cons_succ, List.set_cons_zero]))
              refine rg_done (by kernel_rfl) ?_
              clear z0 z1 z2 zf0 zf1 zf2 HZ
              generalize ((wz9.setCell ⟨bz9, 0, none⟩ (.int .i64 x.a)).setCell ⟨bz9, 1, none⟩ (.int .i64 x.b)).setCell ⟨bz9, 2, none⟩ (.string x.c) = wo9 at HZ1 hL9 ⊢
              have HZ9 := Lib.hid HZ1.out
              have HL9 := Lib.hid hL9
              clear HZ1 hL9 ha9 hE0
              obtain ⟨p0, p1, p2⟩ := (HZ8.out.ext HL9.out).cells3
              obtain ⟨q0, q1, q2⟩ := HZ9.out.cells3
              go_wp2_with fail
              refine (eqValue_same x.a x.b x.c _).mono ?_
              rintro e w9 ⟨rfl, E9⟩
              go_wp2_with fail
              go_ret
              exact ⟨rfl, HEv.out.trans (HL8.out.trans (HL9.out.trans E9))⟩
            · go_simp
              refine hK _ _ (hb91.alloc _) (fun ha9 => ?_)
              clear hK K
              try simp only [List.setIfInBounds_toArray, List.set_cons_succ, List.set_cons_zero]
              have HZ := Lib.hid (Blk.new wb91 30 [.int .i64 0, .int .i64 0, .string ⟨#[]⟩])
              have hbz : wo8.heap.size ≤ wb91.heap.size := hb91.le
              generalize wb91.alloc (.cells #[.int .i64 0, .int .i64 0, .string ⟨#[]⟩] 30) = wz9 at HZ ha9 ⊢
              generalize wb91.heap.size = bz9 at HZ hbz ⊢
              (refine rg_one 5 (by kernel_rfl) rfl (by rfl) (fun K hK => ?_); go_simp)
              refine (HI.out _).mono ?_
              rintro e wf92 ⟨rfl, E⟩
              refine hK _ _ (ha9.trans E) (fun hf92 => ?_)
              clear hK K
              try simp only [List.setIfInBounds_toArray, List.set_cons_succ, List.set_cons_zero]
              have HZ := Lib.hid (HZ.out.ext E)
              clear E
              (refine rg_take (v := ?_) 6 rfl (by kernel_rfl) (by kernel_rfl) (by kernel_rfl) (fun _ _ _ h => h) (by rfl) (by assumption) (fun W hW => ?_) ?_; rotate_left; (focus (go_simp; try with_reducible rfl)); (try simp only [List.setIfInBounds_toArray, List.set_cons_succ, List.set_cons_zero]))
              (refine rg_take (v := ?_) 7 rfl (by kernel_rfl) (by kernel_rfl) (by kernel_rfl) (fun _ _ _ h => h) (by rfl) (by assumption) (fun W hW => ?_) ?_; rotate_left; (focus (go_simp; try with_reducible rfl)); (try simp only [List.setIfInBounds_toArray, List.set_cons_succ, List.set_cons_zero]))
              (refine rg_take (v := ?_) 8 rfl (by kernel_rfl) (by kernel_rfl) (by kernel_rfl) (fun _ _ _ h => h) (by rfl) (by assumption) (fun W hW => ?_) ?_; rotate_left; (focus (go_simp; try with_reducible rfl)); (try simp only [List.setIfInBounds_toArray, List.set_cons_succ, List.set_cons_zero]))
              have HZ1 := Lib.hid (show Blk (((wf92.setCell ⟨bz9, 0, none⟩ (.int .i64 x.a)).setCell ⟨bz9, 1, none⟩ (.int .i64 x.b)).setCell ⟨bz9, 2, none⟩ (.string x.c)) bz9 30 [.int .i64 x.a, .int .i64 x.b, .string x.c] from ((HZ.out.set 0 _).set 1 _).set 2 _)
              obtain ⟨z0, z1, z2⟩ := HZ.out.cells3
              have zf0 := HZ.out.frozen 0
              have zf1 := HZ.out.frozen 1
              have zf2 := HZ.out.frozen 2
              (refine rg_one 10 (by kernel_rfl) rfl (by rfl) (fun K hK => ?_); go_simp)
              refine hK _ _ (((hf92.set (by dsimp only; omega) _).set (by dsimp only; omega) _).set (by dsimp only; omega) _) (fun hL9 => ?_)
              clear hK K
              try simp only [List.setIfInBounds_toArray, List.set_cons_succ, List.set_cons_zero]
              (refine rg_take (v := ?_) 11 rfl (by kernel_rfl) (by kernel_rfl) (by kernel_rfl) (fun _ _ _ h => h) (by rfl) (by assumption) (fun W hW => ?_) ?_; rotate_left; (focus (go_simp; try with_reducible rfl)); (try simp only [List.setIfInBounds_toArray, List.set_cons_succ, List.set_cons_zero]))
              refine rg_done (by kernel_rfl) ?_
              clear z0 z1 z2 zf0 zf1 zf2 HZ
              generalize ((wf92.setCell ⟨bz9, 0, none⟩ (.int .i64 x.a)).setCell ⟨bz9, 1, none⟩ (.int .i64 x.b)).setCell ⟨bz9, 2, none⟩ (.string x.c) = wo9 at HZ1 hL9 ⊢
              have HZ9 := Lib.hid HZ1.out
              have HL9 := Lib.hid hL9
              clear HZ1 hL9 hf92 hE0
              obtain ⟨p0, p1, p2⟩ := (HZ8.out.ext HL9.out).cells3
              obtain ⟨q0, q1, q2⟩ := HZ9.out.cells3
              go_wp2_with fail
              refine (eqValue_same x.a x.b x.c _).mono ?_
              rintro e w9 ⟨rfl, E9⟩
              go_wp2_with fail
              go_ret
              exact ⟨rfl, HEv.out.trans (HL8.out.trans (HL9.out.trans E9))⟩
          · go_simp
            refine hK _ _ (hb90.alloc _) (fun ha9 => ?_)
            clear hK K
            try simp only [List.setIfInBounds_toArray, List.set_cons_succ, List.set_cons_zero]
            have HZ := Lib.hid (Blk.new wb90 30 [.int .i64 0, .int .i64 0, .string ⟨#[]⟩])
            have hbz : wo8.heap.size ≤ wb90.heap.size := hb90.le
            generalize wb90.alloc (.cells #[.int .i64 0, .int .i64 0, .string ⟨#[]⟩] 30) = wz9 at HZ ha9 ⊢
            generalize wb90.heap.size = bz9 at HZ hbz ⊢
            (refine rg_one 4 (by kernel_rfl) rfl (by rfl) (fun K hK => ?_); go_simp)
            refine (toValue_any b.a b.b b.c _).mono ?_
            rintro e wf91 ⟨rfl, E⟩
            refine hK _ _ (ha9.trans E) (fun hf91 => ?_)
            clear hK K
            try simp only [List.setIfInBounds_toArray, List.set_cons_succ, List.set_cons_zero]
            have HZ := Lib.hid (HZ.out.ext E)
            clear E
            (refine rg_one 5 (by kernel_rfl) rfl (by rfl) (fun K hK => ?_); go_simp)
            refine (HI.out _).mono ?_
            rintro e wf92 ⟨rfl, E⟩
            refine hK _ _ (hf91.trans E) (fun hf92 => ?_)
            clear hK K
            try simp only [List.setIfInBounds_toArray, List.set_cons_succ, List.set_cons_zero]
            have HZ := Lib.hid (HZ.out.ext E)
            clear E
            (refine rg_take (v := ?_) 6 rfl (by kernel_rfl) (by kernel_rfl) (by kernel_rfl) (fun _ _ _ h => h) (by rfl) (by assumption) (fun W hW => ?_) ?_; rotate_left; (focus (go_simp; try with_reducible rfl)); (try simp only [List.setIfInBounds_toArray, List.set_cons_succ, List.set_cons_zero]))
            (refine rg_take (v := ?_) 7 rfl (by kernel_rfl) (by kernel_rfl) (by kernel_rfl) (fun _ _ _ h => h) (by rfl) (by assumption) (fun W hW => ?_) ?_; rotate_left; (focus (go_simp; try with_reducible rfl)); (try simp only [List.setIfInBounds_toArray, List.set_cons_succ, List.set_cons_zero]))
            (refine rg_take (v := ?_) 8 rfl (by kernel_rfl) (by kernel_rfl) (by kernel_rfl) (fun _ _ _ h => h) (by rfl) (by assumption) (fun W hW => ?_) ?_; rotate_left; (focus (go_simp; try with_reducible rfl)); (try simp only [List.setIfInBounds_toArray, List.set_cons_succ, List.set_cons_zero]))
            have HZ1 := Lib.hid (show Blk (((wf92.setCell ⟨bz9, 0, none⟩ (.int .i64 x.a)).setCell ⟨bz9, 1, none⟩ (.int .i64 x.b)).setCell ⟨bz9, 2, none⟩ (.string x.c)) bz9 30 [.int .i64 x.a, .int .i64 x.b, .string x.c] from ((HZ.out.set 0 _).set 1 _).set 2 _)
            obtain ⟨z0, z1, z2⟩ := HZ.out.cells3
            have zf0 := HZ.out.frozen 0
            have zf1 := HZ.out.frozen 1
            have zf2 := HZ.out.frozen 2
            (refine rg_one 10 (by kernel_rfl) rfl (by rfl) (fun K hK => ?_); go_simp)
            refine hK _ _ (((hf92.set (by dsimp only; omega) _).set (by dsimp only; omega) _).set (by dsimp only; omega) _) (fun hL9 => ?_)
            clear hK K
            try simp only [List.setIfInBounds_toArray, List.set_cons_succ, List.set_cons_zero]
            (refine rg_take (v := ?_) 11 rfl (by kernel_rfl) (by kernel_rfl) (by kernel_rfl) (fun _ _ _ h => h) (by rfl) (by assumption) (fun W hW => ?_) ?_; rotate_left; (focus (go_simp; try with_reducible rfl)); (try simp only [List.setIfInBounds_toArray, List.set_cons_succ, List.set_cons_zero]))
            refine rg_done (by kernel_rfl) ?_
            clear z0 z1 z2 zf0 zf1 zf2 HZ
            generalize ((wf92.setCell ⟨bz9, 0, none⟩ (.int .i64 x.a)).setCell ⟨bz9, 1, none⟩ (.int .i64 x.b)).setCell ⟨bz9, 2, none⟩ (.string x.c) = wo9 at HZ1 hL9 ⊢
            have HZ9 := Lib.hid HZ1.out
            have HL9 := Lib.hid hL9
            clear HZ1 hL9 hf92 hE0
            obtain ⟨p0, p1, p2⟩ := (HZ8.out.ext HL9.out).cells3
            obtain ⟨q0, q1, q2⟩ := HZ9.out.cells3
            go_wp2_with fail
            refine (eqValue_same x.a x.b x.c _).mono ?_
            rintro e w9 ⟨rfl, E9⟩
            go_wp2_with fail
            go_ret
            exact ⟨rfl, HEv.out.trans (HL8.out.trans (HL9.out.trans E9))⟩
        · go_simp
          refine hK _ _ (hE0.alloc _) (fun ha9 => ?_)
          clear hK K
          try simp only [List.setIfInBounds_toArray, List.set_cons_succ, List.set_cons_zero]
          have HZ := Lib.hid (Blk.new wd9 30 [.int .i64 0, .int .i64 0, .string ⟨#[]⟩])
          have hbz : wo8.heap.size ≤ wd9.heap.size := hE0.le
          generalize wd9.alloc (.cells #[.int .i64 0, .int .i64 0, .string ⟨#[]⟩] 30) = wz9 at HZ ha9 ⊢
          generalize wd9.heap.size = bz9 at HZ hbz ⊢
          (refine rg_one 2 (by kernel_rfl) rfl (by rfl) (fun K hK => ?_); go_simp)
          refine (toValue_any a.a a.b a.c _).mono ?_
          rintro e wf90 ⟨rfl, E⟩
          refine hK _ _ (ha9.trans E) (fun hf90 => ?_)
          clear hK K
          try simp only [List.setIfInBounds_toArray, List.set_cons_succ, List.set_cons_zero]
          have HZ := Lib.hid (HZ.out.ext E)
          clear E
          (refine rg_one 4 (by kernel_rfl) rfl (by rfl) (fun K hK => ?_); go_simp)
          refine (toValue_any b.a b.b b.c _).mono ?_
          rintro e wf91 ⟨rfl, E⟩
          refine hK _ _ (hf90.trans E) (fun hf91 => ?_)
          clear hK K
          try simp only [List.setIfInBounds_toArray, List.set_cons_succ, List.set_cons_zero]
          have HZ := Lib.hid (HZ.out.ext E)
          clear E
          (refine rg_one 5 (by kernel_rfl) rfl (by rfl) (fun K hK => ?_); go_simp)
          refine (HI.out _).mono ?_
          rintro e wf92 ⟨rfl, E⟩
          refine hK _ _ (hf91.trans E) (fun hf92 => ?_)
          clear hK K
          try simp only [List.setIfInBounds_toArray, List.set_cons_succ, List.set_cons_zero]
          have HZ := Lib.hid (HZ.out.ext E)
          clear E
          (refine rg_take (v := ?_) 6 rfl (by kernel_rfl) (by kernel_rfl) (by kernel_rfl) (fun _ _ _ h => h) (by rfl) (by assumption) (fun W hW => ?_) ?_; rotate_left; (focus (go_simp; try with_reducible rfl)); (try simp only [List.setIfInBounds_toArray, List.set_cons_succ, List.set_cons_zero]))
          (refine rg_take (v := ?_) 7 rfl (by kernel_rfl) (by kernel_rfl) (by kernel_rfl) (fun _ _ _ h => h) (by rfl) (by assumption) (fun W hW => ?_) ?_; rotate_left; (focus (go_simp; try with_reducible rfl)); (try simp only [List.setIfInBounds_toArray, List.set_cons_succ, List.set_cons_zero]))
          (refine rg_take (v := ?_) 8 rfl (by kernel_rfl) (by kernel_rfl) (by kernel_rfl) (fun _ _ _ h => h) (by rfl) (by assumption) (fun W hW => ?_) ?_; rotate_left; (focus (go_simp; try with_reducible rfl)); (try simp only [List.setIfInBounds_toArray, List.set_cons_succ, List.set_cons_zero]))
          have HZ1 := Lib.hid (show Blk (((wf92.setCell ⟨bz9, 0, none⟩ (.int .i64 x.a)).setCell ⟨bz9, 1, none⟩ (.int .i64 x.b)).setCell ⟨bz9, 2, none⟩ (.string x.c)) bz9 30 [.int .i64 x.a, .int .i64 x.b, .string x.c] from ((HZ.out.set 0 _).set 1 _).set 2 _)
          obtain ⟨z0, z1, z2⟩ := HZ.out.cells3
          have zf0 := HZ.out.frozen 0
          have zf1 := HZ.out.frozen 1
          have zf2 := HZ.out.frozen 2
          (refine rg_one 10 (by kernel_rfl) rfl (by rfl) (fun K hK => ?_); go_simp)
          refine hK _ _ (((hf92.set (by dsimp only; omega) _).set (by dsimp only; omega) _).set (by dsimp only; omega) _) (fun hL9 => ?_)
          clear hK K
          try simp only [List.setIfInBounds_toArray, List.set_cons_succ, List.set_cons_zero]
          (refine rg_take (v := ?_) 11 rfl (by kernel_rfl) (by kernel_rfl) (by kernel_rfl) (fun _ _ _ h => h) (by rfl) (by assumption) (fun W hW => ?_) ?_; rotate_left; (focus (go_simp; try with_reducible rfl)); (try simp only [List.setIfInBounds_toArray, List.set_cons_succ, List.set_cons_zero]))
          refine rg_done (by kernel_rfl) ?_
          clear z0 z1 z2 zf0 zf1 zf2 HZ
          generalize ((wf92.setCell ⟨bz9, 0, none⟩ (.int .i64 x.a)).setCell ⟨bz9, 1, none⟩ (.int .i64 x.b)).setCell ⟨bz9, 2, none⟩ (.string x.c) = wo9 at HZ1 hL9 ⊢
          have HZ9 := Lib.hid HZ1.out
          have HL9 := Lib.hid hL9
          clear HZ1 hL9 hf92 hE0
          obtain ⟨p0, p1, p2⟩ := (HZ8.out.ext HL9.out).cells3
          obtain ⟨q0, q1, q2⟩ := HZ9.out.cells3
          go_wp2_with fail
          refine (eqValue_same x.a x.b x.c _).mono ?_
          rintro e w9 ⟨rfl, E9⟩
          go_wp2_with fail
          go_ret
          exact ⟨rfl, HEv.out.trans (HL8.out.trans (HL9.out.trans E9))⟩
      · go_simp
        refine hK _ _ (hb81.alloc _) (fun ha8 => ?_)
        clear hK K
        try simp only [List.setIfInBounds_toArray, List.set_cons_succ, List.set_cons_zero]
        have HZ := Lib.hid (Blk.new wb81 30 [.int .i64 0, .int .i64 0, .string ⟨#[]⟩])
        have hbz : w2.heap.size ≤ wb81.heap.size := hb81.le
        generalize wb81.alloc (.cells #[.int .i64 0, .int .i64 0, .string ⟨#[]⟩] 30) = wz8 at HZ ha8 ⊢
        generalize wb81.heap.size = bz8 at HZ hbz ⊢
        (refine rg_one 5 (by kernel_rfl) rfl (by rfl) (fun K hK => ?_); go_simp)
        refine (HS.out _).mono ?_
        rintro e wf82 ⟨rfl, E⟩
        refine hK _ _ (ha8.trans E) (fun hf82 => ?_)
        clear hK K
        try simp only [List.setIfInBounds_toArray, List.set_cons_succ, List.set_cons_zero]
        have HZ := Lib.hid (HZ.out.ext E)
        clear E
        (refine rg_take (v := ?_) 6 rfl (by kernel_rfl) (by kernel_rfl) (by kernel_rfl) (fun _ _ _ h => h) (by rfl) (by assumption) (fun W hW => ?_) ?_; rotate_left; (focus (go_simp; try with_reducible rfl)); (try simp only [List.setIfInBounds_toArray, List.set_cons_succ, List.set_cons_zero]))
        (refine rg_take (v := ?_) 7 rfl (by kernel_rfl) (by kernel_rfl) (by kernel_rfl) (fun _ _ _ h => h) (by rfl) (by assumption) (fun W hW => ?_) ?_; rotate_left; (focus (go_simp; try with_reducible rfl)); (try simp only [List.setIfInBounds_toArray, List.set_cons_succ, List.set_cons_zero]))
        (refine rg_take (v := ?_) 8 rfl (by kernel_rfl) (by kernel_rfl) (by kernel_rfl) (fun _ _ _ h => h) (by rfl) (by assumption) (fun W hW => ?_) ?_; rotate_left; (focus (go_simp; try with_reducible rfl)); (try simp only [List.setIfInBounds_toArray, List.set_cons_succ, List.set_cons_zero]))
        have HZ1 := Lib.hid (show Blk (((wf82.setCell ⟨bz8, 0, none⟩ (.int .i64 x.a)).setCell ⟨bz8, 1, none⟩ (.int .i64 x.b)).setCell ⟨bz8, 2, none⟩ (.string x.c)) bz8 30 [.int .i64 x.a, .int .i64 x.b, .string x.c] from ((HZ.out.set 0 _).set 1 _).set 2 _)
        obtain ⟨z0, z1, z2⟩ := HZ.out.cells3
        have zf0 := HZ.out.frozen 0
        have zf1 := HZ.out.frozen 1
        have zf2 := HZ.out.frozen 2
        (refine rg_one 10 (by kernel_rfl) rfl (by rfl) (fun K hK => ?_); go_simp)
        refine hK _ _ (((hf82.set (by dsimp only; omega) _).set (by dsimp only; omega) _).set (by dsimp only; omega) _) (fun hL8 => ?_)
        clear hK K
        try simp only [List.setIfInBounds_toArray, List.set_cons_succ, List.set_cons_zero]
        (refine rg_take (v := ?_) 11 rfl (by kernel_rfl) (by kernel_rfl) (by kernel_rfl) (fun _ _ _ h => h) (by rfl) (by assumption) (fun W hW => ?_) ?_; rotate_left; (focus (go_simp; try with_reducible rfl)); (try simp only [List.setIfInBounds_toArray, List.set_cons_succ, List.set_cons_zero]))
        refine rg_done (by kernel_rfl) ?_
        clear z0 z1 z2 zf0 zf1 zf2 HZ
        generalize ((wf82.setCell ⟨bz8, 0, none⟩ (.int .i64 x.a)).setCell ⟨bz8, 1, none⟩ (.int .i64 x.b)).setCell ⟨bz8, 2, none⟩ (.string x.c) = wo8 at HZ1 hL8 ⊢
        have HZ8 := Lib.hid HZ1.out
        have HL8 := Lib.hid hL8
        clear HZ1 hL8 hf82 hE0
        go_wp2_with fail
        have HE9 := Lib.hid HL8.out
        obtain ⟨x90, x91, x92⟩ := (HXa.out.ext HE9.out).cells3
        obtain ⟨y90, y91, y92⟩ := (HXb.out.ext HE9.out).cells3
        refine rg_start (by kernel_rfl) (Ext.refl wo8) (fun hE0 => ?_)
        (refine rg_take (v := ?_) 0 rfl (by kernel_rfl) (by kernel_rfl) (by kernel_rfl) (fun _ _ _ h => h) (by rfl) (by assumption) (fun W hW => ?_) ?_; rotate_left; (focus (go_simp; try with_reducible rfl)); (try simp only [List.setIfInBounds_toArray, List.set_cons_succ, List.set_cons_zero]))
        (refine rg_take (v := ?_) 1 rfl (by kernel_rfl) (by kernel_rfl) (by kernel_rfl) (fun _ _ _ h => h) (by rfl) (by assumption) (fun W hW => ?_) ?_; rotate_left; (focus (have k0 := hW.cell x90; have k1 := hW.cell x91; have k2 := hW.cell x92; go_simp; try with_reducible rfl)); (try simp only [List.setIfInBounds_toArray, List.set_cons_succ, List.set_cons_zero]))
        (refine rg_take (v := ?_) 3 rfl (by kernel_rfl) (by kernel_rfl) (by kernel_rfl) (fun _ _ _ h => h) (by rfl) (by assumption) (fun W hW => ?_) ?_; rotate_left; (focus (have k0 := hW.cell y90; have k1 := hW.cell y91; have k2 := hW.cell y92; go_simp; try with_reducible rfl)); (try simp only [List.setIfInBounds_toArray, List.set_cons_succ, List.set_cons_zero]))
        clear x90 x91 x92 y90 y91 y92
        generalize wo8.drew = wd9 at hE0 ⊢
        refine rg_two 2 9 (by kernel_rfl) rfl (by rfl) rfl (by rfl) (fun K hK => ?_) (fun K hK => ?_)
        · go_simp
          refine (toValue_any a.a a.b a.c _).mono ?_
          rintro e wb90 ⟨rfl, E⟩
          refine hK _ _ (hE0.trans E) (fun hb90 => ?_)
          clear hK K
          try simp only [List.setIfInBounds_toArray, List.set_cons_succ, List.set_cons_zero]
          clear E
          refine rg_two 4 9 (by kernel_rfl) rfl (by rfl) rfl (by rfl) (fun K hK => ?_) (fun K hK => ?_)
          · go_simp
            refine (toValue_any b.a b.b b.c _).mono ?_
            rintro e wb91 ⟨rfl, E⟩
            refine hK _ _ (hb90.trans E) (fun hb91 => ?_)
            clear hK K
            try simp only [List.setIfInBounds_toArray, List.set_cons_succ, List.set_cons_zero]
            clear E
            refine rg_two 5 9 (by kernel_rfl) rfl (by rfl) rfl (by rfl) (fun K hK => ?_) (fun K hK => ?_)
            · go_simp
              refine (HI.out _).mono ?_
              rintro e wb92 ⟨rfl, E⟩
              refine hK _ _ (hb91.trans E) (fun hb92 => ?_)
              clear hK K
              try simp only [List.setIfInBounds_toArray, List.set_cons_succ, List.set_cons_zero]
              clear E
              (refine rg_take (v := ?_) 6 rfl (by kernel_rfl) (by kernel_rfl) (by kernel_rfl) (fun _ _ _ h => h) (by rfl) (by assumption) (fun W hW => ?_) ?_; rotate_left; (focus (go_simp; try with_reducible rfl)); (try simp only [List.setIfInBounds_toArray, List.set_cons_succ, List.set_cons_zero]))
              (refine rg_take (v := ?_) 7 rfl (by kernel_rfl) (by kernel_rfl) (by kernel_rfl) (fun _ _ _ h => h) (by rfl) (by assumption) (fun W hW => ?_) ?_; rotate_left; (focus (go_simp; try with_reducible rfl)); (try simp only [List.setIfInBounds_toArray, List.set_cons_succ, List.set_cons_zero]))
              (refine rg_take (v := ?_) 8 rfl (by kernel_rfl) (by kernel_rfl) (by kernel_rfl) (fun _ _ _ h => h) (by rfl) (by assumption) (fun W hW => ?_) ?_; rotate_left; (focus (go_simp; try with_reducible rfl)); (try simp only [List.setIfInBounds_toArray, List.set_cons_succ, List.set_cons_zero]))
              (refine rg_one 9 (by kernel_rfl) rfl (by rfl) (fun K hK => ?_); go_simp)
              refine hK _ _ (hb92.alloc _) (fun ha9 => ?_)
              clear hK K
              try simp only [List.setIfInBounds_toArray, List.set_cons_succ, List.set_cons_zero]
              have HZ := Lib.hid (Blk.new wb92 30 [.int .i64 0, .int .i64 0, .string ⟨#[]⟩])
              have hbz : wo8.heap.size ≤ wb92.heap.size := hb92.le
              generalize wb92.alloc (.cells #[.int .i64 0, .int .i64 0, .string ⟨#[]⟩] 30) = wz9 at HZ ha9 ⊢
              generalize wb92.heap.size = bz9 at HZ hbz ⊢
              have HZ1 := Lib.hid (show Blk (((wz9.setCell ⟨bz9, 0, none⟩ (.int .i64 x.a)).setCell ⟨bz9, 1, none⟩ (.int .i64 x.b)).setCell ⟨bz9, 2, none⟩ (.string x.c)) bz9 30 [.int .i64 x.a, .int .i64 x.b, .string x.c] from ((HZ.out.set 0 _).set 1 _).set 2 _)
              obtain ⟨z0, z1, z2⟩ := HZ.out.cells3
              have zf0 := HZ.out.frozen 0
              have zf1 := HZ.out.frozen 1
              have zf2 := HZ.out.frozen 2
              (refine rg_one 10 (by kernel_rfl) rfl (by rfl) (fun K hK => ?_); go_simp)
              refine hK _ _ (((ha9.set (by dsimp only; omega) _).set (by dsimp only; omega) _).set (by dsimp only; omega) _) (fun hL9 => ?_)
              clear hK K
              try simp only [List.setIfInBounds_toArray, List.set_cons_succ, List.set_cons_zero]
              (refine rg_take (v := ?_) 11 rfl (by kernel_rfl) (by kernel_rfl) (by kernel_rfl) (fun _ _ _ h => h) (by rfl) (by assumption) (fun W hW => ?_) ?_; rotate_left; (focus (go_simp; try with_reducible rfl)); (try simp only [List.setIfInBounds_toArray, List.set_cons_succ, List.set_cons_zero]))
              refine rg_done (by kernel_rfl) ?_
              clear z0 z1 z2 zf0 zf1 zf2 HZ
              generalize ((wz9.setCell ⟨bz9, 0, none⟩ (.int .i64 x.a)).setCell ⟨bz9, 1, none⟩ (.int .i64 x.b)).setCell ⟨bz9, 2, none⟩ (.string x.c) = wo9 at HZ1 hL9 ⊢
              have HZ9 := Lib.hid HZ1.out
              have HL9 := Lib.hid hL9
              clear HZ1 hL9 ha9 hE0
              obtain ⟨p0, p1, p2⟩ := (HZ8.out.ext HL9.out).cells3
              obtain ⟨q0, q1, q2⟩ := HZ9.out.cells3
              go_wp2_with fail
              refine (eqValue_same x.a x.b x.c _).mono ?_
              rintro e w9 ⟨rfl, E9⟩
              go_wp2_with fail
              go_ret
              exact ⟨rfl, HEv.out.trans (HL8.out.trans (HL9.out.trans E9))⟩
            · go_simp
              refine hK _ _ (hb91.alloc _) (fun ha9 => ?_)
              clear hK K
              try simp only [List.setIfInBounds_toArray, List.set_cons_succ, List.set_cons_zero]
              have HZ := Lib.hid (Blk.new wb91 30 [.int .i64 0, .int .i64 0, .string ⟨#[]⟩])
              have hbz : wo8.heap.size ≤ wb91.heap.size := hb91.le
              generalize wb91.alloc (.cells #[.int .i64 0, .int .i64 0, .string ⟨#[]⟩] 30) = wz9 at HZ ha9 ⊢
              generalize wb91.heap.size = bz9 at HZ hbz ⊢
              (refine rg_one 5 (by kernel_rfl) rfl (by rfl) (fun K hK => ?_); go_simp)
              refine (HI.out _).mono ?_
              rintro e wf92 ⟨rfl, E⟩
              refine hK _ _ (ha9.trans E) (fun hf92 => ?_)
              clear hK K
              try simp only [List.setIfInBounds_toArray, List.set_cons_succ, List.set_cons_zero]
              have HZ := Lib.hid (HZ.out.ext E)
              clear E
              (refine rg_take (v := ?_) 6 rfl (by kernel_rfl) (by kernel_rfl) (by kernel_rfl) (fun _ _ _ h => h) (by rfl) (by assumption) (fun W hW => ?_) ?_; rotate_left; (focus (go_simp; try with_reducible rfl)); (try simp only [List.setIfInBounds_toArray, List.set_cons_succ, List.set_cons_zero]))
              (refine rg_take (v := ?_) 7 rfl (by kernel_rfl) (by kernel_rfl) (by kernel_rfl) (fun _ _ _ h => h) (by rfl) (by assumption) (fun W hW => ?_) ?_; rotate_left; (focus (go_simp; try with_reducible rfl)); (try simp only [List.setIfInBounds_toArray, List.set_cons_succ, List.set_cons_zero]))
              (refine rg_take (v := ?_) 8 rfl (by kernel_rfl) (by kernel_rfl) (by kernel_rfl) (fun _ _ _ h => h) (by rfl) (by assumption) (fun W hW => ?_) ?_; rotate_left; (focus (go_simp; try with_reducible rfl)); (try simp only [List.setIfInBounds_toArray, List.set_cons_succ, List.set_cons_zero]))
              have HZ1 := Lib.hid (show Blk (((wf92.setCell ⟨bz9, 0, none⟩ (.int .i64 x.a)).setCell ⟨bz9, 1, none⟩ (.int .i64 x.b)).setCell ⟨bz9, 2, none⟩ (.string x.c)) bz9 30 [.int .i64 x.a, .int .i64 x.b, .string x.c] from ((HZ.out.set 0 _).set 1 _).set 2 _)
              obtain ⟨z0, z1, z2⟩ := HZ.out.cells3
              have zf0 := HZ.out.frozen 0
              have zf1 := HZ.out.frozen 1
              have zf2 := HZ.out.frozen 2
              (refine rg_one 10 (by kernel_rfl) rfl (by rfl) (fun K hK => ?_); go_simp)
              refine hK _ _ (((hf92.set (by dsimp only; omega) _).set (by dsimp only; omega) _).set (by dsimp only; omega) _) (fun hL9 => ?_)
              clear hK K
              try simp only [List.setIfInBounds_toArray, List.set_cons_succ, List.set_cons_zero]
              (refine rg_take (v := ?_) 11 rfl (by kernel_rfl) (by kernel_rfl) (by kernel_rfl) (fun _ _ _ h => h) (by rfl) (by assumption) (fun W hW => ?_) ?_; rotate_left; (focus (go_simp; try with_reducible rfl)); (try simp only [List.setIfInBounds_toArray, List.set_cons_succ, List.set_cons_zero]))
              refine rg_done (by kernel_rfl) ?_
              clear z0 z1 z2 zf0 zf1 zf2 HZ
              generalize ((wf92.setCell ⟨bz9, 0, none⟩ (.int .i64 x.a)).setCell ⟨bz9, 1, none⟩ (.int .i64 x.b)).setCell ⟨bz9, 2, none⟩ (.string x.c) = wo9 at HZ1 hL9 ⊢
              have HZ9 := Lib.hid HZ1.out
              have HL9 := Lib.hid hL9
              clear HZ1 hL9 hf92 hE0
              obtain ⟨p0, p1, p2⟩ := (HZ8.out.ext HL9.out).cells3
              obtain ⟨q0, q1, q2⟩ := HZ9.out.cells3
              go_wp2_with fail
              refine (eqValue_same x.a x.b x.c _).mono ?_
              rintro e w9 ⟨rfl, E9⟩
              go_wp2_with fail
              go_ret
              exact ⟨rfl, HEv.out.trans (HL8.out.trans (HL9.out.trans E9))⟩
          · go_simp
            refine hK _ _ (hb90.alloc _) (fun ha9 => ?_)
            clear hK K
            try simp only [List.setIfInBounds_toArray, List.set_cons_succ, List.set_cons_zero]
            have HZ := Lib.hid (Blk.new wb90 30 [.int .i64 0, .int .i64 0, .string ⟨#[]⟩])
            have hbz : wo8.heap.size ≤ wb90.heap.size := hb90.le
            generalize wb90.alloc (.cells #[.int .i64 0, .int .i64 0, .string ⟨#[]⟩] 30) = wz9 at HZ ha9 ⊢
            generalize wb90.heap.size = bz9 at HZ hbz ⊢
            (refine rg_one 4 (by kernel_rfl) rfl (by rfl) (fun K hK => ?_); go_simp)
            refine (toValue_any b.a b.b b.c _).mono ?_
            rintro e wf91 ⟨rfl, E⟩
            refine hK _ _ (ha9.trans E) (fun hf91 => ?_)
            clear hK K
            try simp only [List.setIfInBounds_toArray, List.set_cons_succ, List.set_cons_zero]
            have HZ := Lib.hid (HZ.out.ext E)
            clear E
            (refine rg_one 5 (by kernel_rfl) rfl (by rfl) (fun K hK => ?_); go_simp)
            refine (HI.out _).mono ?_
            rintro e wf92 ⟨rfl, E⟩
            refine hK _ _ (hf91.trans E) (fun hf92 => ?_)
            clear hK K
            try simp only [List.setIfInBounds_toArray, List.set_cons_succ, List.set_cons_zero]
            have HZ := Lib.hid (HZ.out.ext E)
            clear E
            (refine rg_take (v := ?_) 6 rfl (by kernel_rfl) (by kernel_rfl) (by kernel_rfl) (fun _ _ _ h => h) (by rfl) (by assumption) (fun W hW => ?_) ?_; rotate_left; (focus (go_simp; try with_reducible rfl)); (try simp only [List.setIfInBounds_toArray, List.set_cons_succ, List.set_cons_zero]))
            (refine rg_take (v := ?_) 7 rfl (by kernel_rfl) (by kernel_rfl) (by kernel_rfl) (fun _ _ _ h => h) (by rfl) (by assumption) (fun W hW => ?_) ?_; rotate_left; (focus (go_simp; try with_reducible rfl)); (try simp only [List.setIfInBounds_toArray, List.set_cons_succ, List.set_cons_zero]))
            (refine rg_take (v := ?_) 8 rfl (by kernel_rfl) (by kernel_rfl) (by kernel_rfl) (fun _ _ _ h => h) (by rfl) (by assumption) (fun W hW => ?_) ?_; rotate_left; (focus (go_simp; try with_reducible rfl)); (try simp only [List.setIfInBounds_toArray, List.set_cons_succ, List.set_cons_zero]))
            have HZ1 := Lib.hid (show Blk (((wf92.setCell ⟨bz9, 0, none⟩ (.int .i64 x.a)).setCell ⟨bz9, 1, none⟩ (.int .i64 x.b)).setCell ⟨bz9, 2, none⟩ (.string x.c)) bz9 30 [.int .i64 x.a, .int .i64 x.b, .string x.c] from ((HZ.out.set 0 _).set 1 _).set 2 _)
            obtain ⟨z0, z1, z2⟩ := HZ.out.cells3
            have zf0 := HZ.out.frozen 0
            have zf1 := HZ.out.frozen 1
            have zf2 := HZ.out.frozen 2
            (refine rg_one 10 (by kernel_rfl) rfl (by rfl) (fun K hK => ?_); go_simp)
            refine hK _ _ (((hf92.set (by dsimp only; omega) _).set (by dsimp only; omega) _).set (by dsimp only; omega) _) (fun hL9 => ?_)
            clear hK K
            try simp only [List.setIfInBounds_toArray, List.set_cons_succ, List.set_cons_zero]
            (refine rg_take (v := ?_) 11 rfl (by kernel_rfl) (by kernel_rfl) (by kernel_rfl) (fun _ _ _ h => h) (by rfl) (by assumption) (fun W hW => ?_) ?_; rotate_left; (focus (go_simp; try with_reducible rfl)); (try simp only [List.setIfInBounds_toArray, List.set_cons_succ, List.set_cons_zero]))
            refine rg_done (by kernel_rfl) ?_
            clear z0 z1 z2 zf0 zf1 zf2 HZ
            generalize ((wf92.setCell ⟨bz9, 0, none⟩ (.int .i64 x.a)).setCell ⟨bz9, 1, none⟩ (.int .i64 x.b)).setCell ⟨bz9, 2, none⟩ (.string x.c) = wo9 at HZ1 hL9 ⊢
            have HZ9 := Lib.hid HZ1.out
            have HL9 := Lib.hid hL9
            clear HZ1 hL9 hf92 hE0
            obtain ⟨p0, p1, p2⟩ := (HZ8.out.ext HL9.out).cells3
            obtain ⟨q0, q1, q2⟩ := HZ9.out.cells3
            go_wp2_with fail
            refine (eqValue_same x.a x.b x.c _).mono ?_
            rintro e w9 ⟨rfl, E9⟩
            go_wp2_with fail
            go_ret
            exact ⟨rfl, HEv.out.trans (HL8.out.trans (HL9.out.trans E9))⟩
        · go_simp
          refine hK _ _ (hE0.alloc _) (fun ha9 => ?_)
          clear hK K
          try simp only [List.setIfInBounds_toArray, List.set_cons_succ, List.set_cons_zero]
          have HZ := Lib.hid (Blk.new wd9 30 [.int .i64 0, .int .i64 0, .string ⟨#[]⟩])
          have hbz : wo8.heap.size ≤ wd9.heap.size := hE0.le
          generalize wd9.alloc (.cells #[.int .i64 0, .int .i64 0, .string ⟨#[]⟩] 30) = wz9 at HZ ha9 ⊢
          generalize wd9.heap.size = bz9 at HZ hbz ⊢
          (refine rg_one 2 (by kernel_rfl) rfl (by rfl) (fun K hK => ?_); go_simp)
          refine (toValue_any a.a a.b a.c _).mono ?_
          rintro e wf90 ⟨rfl, E⟩
          refine hK _ _ (ha9.trans E) (fun hf90 => ?_)
          clear hK K
          try simp only [List.setIfInBounds_toArray, List.set_cons_succ, List.set_cons_zero]
          have HZ := Lib.hid (HZ.out.ext E)
          clear E
          (refine rg_one 4 (by kernel_rfl) rfl (by rfl) (fun K hK => ?_); go_simp)
          refine (toValue_any b.a b.b b.c _).mono ?_
          rintro e wf91 ⟨rfl, E⟩
          refine hK _ _ (hf90.trans E) (fun hf91 => ?_)
          clear hK K
          try simp only [List.setIfInBounds_toArray, List.set_cons_succ, List.set_cons_zero]
          have HZ := Lib.hid (HZ.out.ext E)
          clear E
          (refine rg_one 5 (by kernel_rfl) rfl (by rfl) (fun K hK => ?_); go_simp)
          refine (HI.out _).mono ?_
          rintro e wf92 ⟨rfl, E⟩
          refine hK _ _ (hf91.trans E) (fun hf92 => ?_)
          clear hK K
          try simp only [List.setIfInBounds_toArray, List.set_cons_succ, List.set_cons_zero]
          have HZ := Lib.hid (HZ.out.ext E)
          clear E
          (refine rg_take (v := ?_) 6 rfl (by kernel_rfl) (by kernel_rfl) (by kernel_rfl) (fun _ _ _ h => h) (by rfl) (by assumption) (fun W hW => ?_) ?_; rotate_left; (focus (go_simp; try with_reducible rfl)); (try simp only [List.setIfInBounds_toArray, List.set_cons_succ, List.set_cons_zero]))
          (refine rg_take (v := ?_) 7 rfl (by kernel_rfl) (by kernel_rfl) (by kernel_rfl) (fun _ _ _ h => h) (by rfl) (by assumption) (fun W hW => ?_) ?_; rotate_left; (focus (go_simp; try with_reducible rfl)); (try simp only [List.setIfInBounds_toArray, List.set_cons_succ, List.set_cons_zero]))
          (refine rg_take (v := ?_) 8 rfl (by kernel_rfl) (by kernel_rfl) (by kernel_rfl) (fun _ _ _ h => h) (by rfl) (by assumption) (fun W hW => ?_) ?_; rotate_left; (focus (go_simp; try with_reducible rfl)); (try simp only [List.setIfInBounds_toArray, List.set_cons_succ, List.set_cons_zero]))
          have HZ1 := Lib.hid (show Blk (((wf92.setCell ⟨bz9, 0, none⟩ (.int .i64 x.a)).setCell ⟨bz9, 1, none⟩ (.int .i64 x.b)).setCell ⟨bz9, 2, none⟩ (.string x.c)) bz9 30 [.int .i64 x.a, .int .i64 x.b, .string x.c] from ((HZ.out.set 0 _).set 1 _).set 2 _)
          obtain ⟨z0, z1, z2⟩ := HZ.out.cells3
          have zf0 := HZ.out.frozen 0
          have zf1 := HZ.out.frozen 1
          have zf2 := HZ.out.frozen 2
          (refine rg_one 10 (by kernel_rfl) rfl (by rfl) (fun K hK => ?_); go_simp)
          refine hK _ _ (((hf92.set (by dsimp only; omega) _).set (by dsimp only; omega) _).set (by dsimp only; omega) _) (fun hL9 => ?_)
          clear hK K
          try simp only [List.setIfInBounds_toArray, List.set_cons_succ, List.set_cons_zero]
          (refine rg_take (v := ?_) 11 rfl (by kernel_rfl) (by kernel_rfl) (by kernel_rfl) (fun _ _ _ h => h) (by rfl) (by assumption) (fun W hW => ?_) ?_; rotate_left; (focus (go_simp; try with_reducible rfl)); (try simp only [List.setIfInBounds_toArray, List.set_cons_succ, List.set_cons_zero]))
          refine rg_done (by kernel_rfl) ?_
          clear z0 z1 z2 zf0 zf1 zf2 HZ
          generalize ((wf92.setCell ⟨bz9, 0, none⟩ (.int .i64 x.a)).setCell ⟨bz9, 1, none⟩ (.int .i64 x.b)).setCell ⟨bz9, 2, none⟩ (.string x.c) = wo9 at HZ1 hL9 ⊢
          have HZ9 := Lib.hid HZ1.out
          have HL9 := Lib.hid hL9
          clear HZ1 hL9 hf92 hE0
          obtain ⟨p0, p1, p2⟩ := (HZ8.out.ext HL9.out).cells3
          obtain ⟨q0, q1, q2⟩ := HZ9.out.cells3
          go_wp2_with fail
          refine (eqValue_same x.a x.b x.c _).mono ?_
          rintro e w9 ⟨rfl, E9⟩
          go_wp2_with fail
          go_ret
          exact ⟨rfl, HEv.out.trans (HL8.out.trans (HL9.out.trans E9))⟩
    · go_simp
      refine hK _ _ (hb80.alloc _) (fun ha8 => ?_)
      clear hK K
      try simp only [List.setIfInBounds_toArray, List.set_cons_succ, List.set_cons_zero]
      have HZ := Lib.hid (Blk.new wb80 30 [.int .i64 0, .int .i64 0, .string ⟨#[]⟩])
      have hbz : w2.heap.size ≤ wb80.heap.size := hb80.le
      generalize wb80.alloc (.cells #[.int .i64 0, .int .i64 0, .string ⟨#[]⟩] 30) = wz8 at HZ ha8 ⊢
      generalize wb80.heap.size = bz8 at HZ hbz ⊢
      (refine rg_one 4 (by kernel_rfl) rfl (by rfl) (fun K hK => ?_); go_simp)
      refine (toValue_any b.a b.b b.c _).mono ?_
      rintro e wf81 ⟨rfl, E⟩
      refine hK _ _ (ha8.trans E) (fun hf81 => ?_)
      clear hK K
      try simp only [List.setIfInBounds_toArray, List.set_cons_succ, List.set_cons_zero]
      have HZ := Lib.hid (HZ.out.ext E)
      clear E
      (refine rg_one 5 (by kernel_rfl) rfl (by rfl) (fun K hK => ?_); go_simp)
      refine (HS.out _).mono ?_
      rintro e wf82 ⟨rfl, E⟩
      refine hK _ _ (hf81.trans E) (fun hf82 => ?_)
      clear hK K
      try simp only [List.setIfInBounds_toArray, List.set_cons_succ, List.set_cons_zero]
      have HZ := Lib.hid (HZ.out.ext E)
      clear E
      (refine rg_take (v := ?_) 6 rfl (by kernel_rfl) (by kernel_rfl) (by kernel_rfl) (fun _ _ _ h => h) (by rfl) (by assumption) (fun W hW => ?_) ?_; rotate_left; (focus (go_simp; try with_reducible rfl)); (try simp only [List.setIfInBounds_toArray, List.set_cons_succ, List.set_cons_zero]))
      (refine rg_take (v := ?_) 7 rfl (by kernel_rfl) (by kernel_rfl) (by kernel_rfl) (fun _ _ _ h => h) (by rfl) (by assumption) (fun W hW => ?_) ?_; rotate_left; (focus (go_simp; try with_reducible rfl)); (try simp only [List.setIfInBounds_toArray, List.set_cons_succ, List.set_cons_zero]))
      (refine rg_take (v := ?_) 8 rfl (by kernel_rfl) (by kernel_rfl) (by kernel_rfl) (fun _ _ _ h => h) (by rfl) (by assumption) (fun W hW => ?_) ?_; rotate_left; (focus (go_simp; try with_reducible rfl)); (try simp only [List.setIfInBounds_toArray, List.set_cons_succ, List.set_cons_zero]))
      have HZ1 := Lib.hid (show Blk (((wf82.setCell ⟨bz8, 0, none⟩ (.int .i64 x.a)).setCell ⟨bz8, 1, none⟩ (.int .i64 x.b)).setCell ⟨bz8, 2, none⟩ (.string x.c)) bz8 30 [.int .i64 x.a, .int .i64 x.b, .string x.c] from ((HZ.out.set 0 _).set 1 _).set 2 _)
      obtain ⟨z0, z1, z2⟩ := HZ.out.cells3
      have zf0 := HZ.out.frozen 0
      have zf1 := HZ.out.frozen 1
      have zf2 := HZ.out.frozen 2
      (refine rg_one 10 (by kernel_rfl) rfl (by rfl) (fun K hK => ?_); go_simp)
      refine hK _ _ (((hf82.set (by dsimp only; omega) _).set (by dsimp only; omega) _).set (by dsimp only; omega) _) (fun hL8 => ?_)
      clear hK K
      try simp only [List.setIfInBounds_toArray, List.set_cons_succ, List.set_cons_zero]
      (refine rg_take (v := ?_) 11 rfl (by kernel_rfl) (by kernel_rfl) (by kernel_rfl) (fun _ _ _ h => h) (by rfl) (by assumption) (fun W hW => ?_) ?_; rotate_left; (focus (go_simp; try with_reducible rfl)); (try simp only [List.setIfInBounds_toArray, List.set_cons_succ, List.set_cons_zero]))
      refine rg_done (by kernel_rfl) ?_
      clear z0 z1 z2 zf0 zf1 zf2 HZ
      generalize ((wf82.setCell ⟨bz8, 0, none⟩ (.int .i64 x.a)).setCell ⟨bz8, 1, none⟩ (.int .i64 x.b)).setCell ⟨bz8, 2, none⟩ (.string x.c) = wo8 at HZ1 hL8 ⊢
      have HZ8 := Lib.hid HZ1.out
      have HL8 := Lib.hid hL8
      clear HZ1 hL8 hf82 hE0
      go_wp2_with fail
      have HE9 := Lib.hid HL8.out
      obtain ⟨x90, x91, x92⟩ := (HXa.out.ext HE9.out).cells3
      obtain ⟨y90, y91, y92⟩ := (HXb.out.ext HE9.out).cells3
      refine rg_start (by kernel_rfl) (Ext.refl wo8) (fun hE0 => ?_)
      (refine rg_take (v := ?_) 0 rfl (by kernel_rfl) (by kernel_rfl) (by kernel_rfl) (fun _ _ _ h => h) (by rfl) (by assumption) (fun W hW => ?_) ?_; rotate_left; (focus (go_simp; try with_reducible rfl)); (try simp only [List.setIfInBounds_toArray, List.set_cons_succ, List.set_cons_zero]))
      (refine rg_take (v := ?_) 1 rfl (by kernel_rfl) (by kernel_rfl) (by kernel_rfl) (fun _ _ _ h => h) (by rfl) (by assumption) (fun W hW => ?_) ?_; rotate_left; (focus (have k0 := hW.cell x90; have k1 := hW.cell x91; have k2 := hW.cell x92; go_simp; try with_reducible rfl)); (try simp only [List.setIfInBounds_toArray, List.set_cons_succ, List.set_cons_zero]))
      (refine rg_take (v := ?_) 3 rfl (by kernel_rfl) (by kernel_rfl) (by kernel_rfl) (fun _ _ _ h => h) (by rfl) (by assumption) (fun W hW => ?_) ?_; rotate_left; (focus (have k0 := hW.cell y90; have k1 := hW.cell y91; have k2 := hW.cell y92; go_simp; try with_reducible rfl)); (try simp only [List.setIfInBounds_toArray, List.set_cons_succ, List.set_cons_zero]))
      clear x90 x91 x92 y90 y91 y92
      generalize wo8.drew = wd9 at hE0 ⊢
      refine rg_two 2 9 (by kernel_rfl) rfl (by rfl) rfl (by rfl) (fun K hK => ?_) (fun K hK => ?_)
      · go_simp
        refine (toValue_any a.a a.b a.c _).mono ?_
        rintro e wb90 ⟨rfl, E⟩
        refine hK _ _ (hE0.trans E) (fun hb90 => ?_)
        clear hK K
        try simp only [List.setIfInBounds_toArray, List.set_cons_succ, List.set_cons_zero]
        clear E
        refine rg_two 4 9 (by kernel_rfl) rfl (by rfl) rfl (by rfl) (fun K hK => ?_) (fun K hK => ?_)
        · go_simp
          refine (toValue_any b.a b.b b.c _).mono ?_
          rintro e wb91 ⟨rfl, E⟩
          refine hK _ _ (hb90.trans E) (fun hb91 => ?_)
          clear hK K
          try simp only [List.setIfInBounds_toArray, List.set_cons_succ, List.set_cons_zero]
          clear E
          refine rg_two 5 9 (by kernel_rfl) rfl (by rfl) rfl (by rfl) (fun K hK => ?_) (fun K hK => ?_)
          · go_simp
            refine (HI.out _).mono ?_
            rintro e wb92 ⟨rfl, E⟩
            refine hK _ _ (hb91.trans E) (fun hb92 => ?_)
            clear hK K
            try simp only [List.setIfInBounds_toArray, List.set_cons_succ, List.set_cons_zero]
            clear E
            (refine rg_take (v := ?_) 6 rfl (by kernel_rfl) (by kernel_rfl) (by kernel_rfl) (fun _ _ _ h => h) (by rfl) (by assumption) (fun W hW => ?_) ?_; rotate_left; (focus (go_simp; try with_reducible rfl)); (try simp only [List.setIfInBounds_toArray, List.set_cons_succ, List.set_cons_zero]))
            (refine rg_take (v := ?_) 7 rfl (by kernel_rfl) (by kernel_rfl) (by kernel_rfl) (fun _ _ _ h => h) (by rfl) (by assumption) (fun W hW => ?_) ?_; rotate_left; (focus (go_simp; try with_reducible rfl)); (try simp only [List.setIfInBounds_toArray, List.set_cons_succ, List.set_cons_zero]))
            (refine rg_take (v := ?_) 8 rfl (by kernel_rfl) (by kernel_rfl) (by kernel_rfl) (fun _ _ _ h => h) (by rfl) (by assumption) (fun W hW => ?_) ?_; rotate_left; (focus (go_simp; try with_reducible rfl)); (try simp only [List.setIfInBounds_toArray, List.set_cons_succ, List.set_cons_zero]))
            (refine rg_one 9 (by kernel_rfl) rfl (by rfl) (fun K hK => ?_); go_simp)
            refine hK _ _ (hb92.alloc _) (fun ha9 => ?_)
            clear hK K
            try simp only [List.setIfInBounds_toArray, List.set_cons_succ, List.set_cons_zero]
            have HZ := Lib.hid (Blk.new wb92 30 [.int .i64 0, .int .i64 0, .string ⟨#[]⟩])
            have hbz : wo8.heap.size ≤ wb92.heap.size := hb92.le
            generalize wb92.alloc (.cells #[.int .i64 0, .int .i64 0, .string ⟨#[]⟩] 30) = wz9 at HZ ha9 ⊢
            generalize wb92.heap.size = bz9 at HZ hbz ⊢
            have HZ1 := Lib.hid (show Blk (((wz9.setCell ⟨bz9, 0, none⟩ (.int .i64 x.a)).setCell ⟨bz9, 1, none⟩ (.int .i64 x.b)).setCell ⟨bz9, 2, none⟩ (.string x.c)) bz9 30 [.int .i64 x.a, .int .i64 x.b, .string x.c] from ((HZ.out.set 0 _).set 1 _).set 2 _)
            obtain ⟨z0, z1, z2⟩ := HZ.out.cells3
            have zf0 := HZ.out.frozen 0
            have zf1 := HZ.out.frozen 1
            have zf2 := HZ.out.frozen 2
            (refine rg_one 10 (by kernel_rfl) rfl (by rfl) (fun K hK => ?_); go_simp)
            refine hK _ _ (((ha9.set (by dsimp only; omega) _).set (by dsimp only; omega) _).set (by dsimp only; omega) _) (fun hL9 => ?_)
            clear hK K
            try simp only [List.setIfInBounds_toArray, List.set_cons_succ, List.set_cons_zero]
            (refine rg_take (v := ?_) 11 rfl (by kernel_rfl) (by kernel_rfl) (by kernel_rfl) (fun _ _ _ h => h) (by rfl) (by assumption) (fun W hW => ?_) ?_; rotate_left; (focus (go_simp; try with_reducible rfl)); (try simp only [List.setIfInBounds_toArray, List.set_cons_succ, List.set_cons_zero]))
            refine rg_done (by kernel_rfl) ?_
            clear z0 z1 z2 zf0 zf1 zf2 HZ
            generalize ((wz9.setCell ⟨bz9, 0, none⟩ (.int .i64 x.a)).setCell ⟨bz9, 1, none⟩ (.int .i64 x.b)).setCell ⟨bz9, 2, none⟩ (.string x.c) = wo9 at HZ1 hL9 ⊢
            have HZ9 := Lib.hid HZ1.out
            have HL9 := Lib.hid hL9
            clear HZ1 hL9 ha9 hE0
            obtain ⟨p0, p1, p2⟩ := (HZ8.out.ext HL9.out).cells3
            obtain ⟨q0, q1, q2⟩ := HZ9.out.cells3
            go_wp2_with fail
            refine (eqValue_same x.a x.b x.c _).mono ?_
            rintro e w9 ⟨rfl, E9⟩
            go_wp2_with fail
            go_ret
            exact ⟨rfl, HEv.out.trans (HL8.out.trans (HL9.out.trans E9))⟩
          · go_simp
            refine hK _ _ (hb91.alloc _) (fun ha9 => ?_)
            clear hK K
            try simp only [List.setIfInBounds_toArray, List.set_cons_succ, List.set_cons_zero]
            have HZ := Lib.hid (Blk.new wb91 30 [.int .i64 0, .int .i64 0, .string ⟨#[]⟩])
            have hbz : wo8.heap.size ≤ wb91.heap.size := hb91.le
            generalize wb91.alloc (.cells #[.int .i64 0, .int .i64 0, .string ⟨#[]⟩] 30) = wz9 at HZ ha9 ⊢
            generalize wb91.heap.size = bz9 at HZ hbz ⊢
            (refine rg_one 5 (by kernel_rfl) rfl (by rfl) (fun K hK => ?_); go_simp)
            refine (HI.out _).mono ?_
            rintro e wf92 ⟨rfl, E⟩
            refine hK _ _ (ha9.trans E) (fun hf92 => ?_)
            clear hK K
            try simp only [List.setIfInBounds_toArray, List.set_cons_succ, List.set_cons_zero]
            have HZ := Lib.hid (HZ.out.ext E)
            clear E
            (refine rg_take (v := ?_) 6 rfl (by kernel_rfl) (by kernel_rfl) (by kernel_rfl) (fun _ _ _ h => h) (by rfl) (by assumption) (fun W hW => ?_) ?_; rotate_left; (focus (go_simp; try with_reducible rfl)); (try simp only [List.setIfInBounds_toArray, List.set_cons_succ, List.set_cons_zero]))
            (refine rg_take (v := ?_) 7 rfl (by kernel_rfl) (by kernel_rfl) (by kernel_rfl) (fun _ _ _ h => h) (by rfl) (by assumption) (fun W hW => ?_) ?_; rotate_left; (focus (go_simp; try with_reducible rfl)); (try simp only [List.setIfInBounds_toArray, List.set_cons_succ, List.set_cons_zero]))
            (refine rg_take (v := ?_) 8 rfl (by kernel_rfl) (by kernel_rfl) (by kernel_rfl) (fun _ _ _ h => h) (by rfl) (by assumption) (fun W hW => ?_) ?_; rotate_left; (focus (go_simp; try with_reducible rfl)); (try simp only [List.setIfInBounds_toArray, List.set_cons_succ, List.set_cons_zero]))
            have HZ1 := Lib.hid (show Blk (((wf92.setCell ⟨bz9, 0, none⟩ (.int .i64 x.a)).setCell ⟨bz9, 1, none⟩ (.int .i64 x.b)).setCell ⟨bz9, 2, none⟩ (.string x.c)) bz9 30 [.int .i64 x.a, .int .i64 x.b, .string x.c] from ((HZ.out.set 0 _).set 1 _).set 2 _)
            obtain ⟨z0, z1, z2⟩ := HZ.out.cells3
            have zf0 := HZ.out.frozen 0
            have zf1 := HZ.out.frozen 1
            have zf2 := HZ.out.frozen 2
            (refine rg_one 10 (by kernel_rfl) rfl (by rfl) (fun K hK => ?_); go_simp)
            refine hK _ _ (((hf92.set (by dsimp only; omega) _).set (by dsimp only; omega) _).set (by dsimp only; omega) _) (fun hL9 => ?_)
            clear hK K
            try simp only [List.setIfInBounds_toArray, List.set_cons_succ, List.set_cons_zero]
            (refine rg_take (v := ?_) 11 rfl (by kernel_rfl) (by kernel_rfl) (by kernel_rfl) (fun _ _ _ h => h) (by rfl) (by assumption) (fun W hW => ?_) ?_; rotate_left; (focus (go_simp; try with_reducible rfl)); (try simp only [List.setIfInBounds_toArray, List.set_cons_succ, List.set_cons_zero]))
            refine rg_done (by kernel_rfl) ?_
            clear z0 z1 z2 zf0 zf1 zf2 HZ
            generalize ((wf92.setCell ⟨bz9, 0, none⟩ (.int .i64 x.a)).setCell ⟨bz9, 1, none⟩ (.int .i64 x.b)).setCell ⟨bz9, 2, none⟩ (.string x.c) = wo9 at HZ1 hL9 ⊢
            have HZ9 := Lib.hid HZ1.out
            have HL9 := Lib.hid hL9
            clear HZ1 hL9 hf92 hE0
            obtain ⟨p0, p1, p2⟩ := (HZ8.out.ext HL9.out).cells3
            obtain ⟨q0, q1, q2⟩ := HZ9.out.cells3
            go_wp2_with fail
            refine (eqValue_same x.a x.b x.c _).mono ?_
            rintro e w9 ⟨rfl, E9⟩
            go_wp2_with fail
            go_ret
            exact ⟨rfl, HEv.out.trans (HL8.out.trans (HL9.out.trans E9))⟩
        · go_simp
          refine hK _ _ (hb90.alloc _) (fun ha9 => ?_)
          clear hK K
          try simp only [List.setIfInBounds_toArray, List.set_cons_succ, List.set_cons_zero]
          have HZ := Lib.hid (Blk.new wb90 30 [.int .i64 0, .int .i64 0, .string ⟨#[]⟩])
          have hbz : wo8.heap.size ≤ wb90.heap.size := hb90.le
          generalize wb90.alloc (.cells #[.int .i64 0, .int .i64 0, .string ⟨#[]⟩] 30) = wz9 at HZ ha9 ⊢
          generalize wb90.heap.size = bz9 at HZ hbz ⊢
          (refine rg_one 4 (by kernel_rfl) rfl (by rfl) (fun K hK => ?_); go_simp)
          refine (toValue_any b.a b.b b.c _).mono ?_
          rintro e wf91 ⟨rfl, E⟩
          refine hK _ _ (ha9.trans E) (fun hf91 => ?_)
          clear hK K
          try simp only [List.setIfInBounds_toArray, List.set_cons_succ, List.set_cons_zero]
          have HZ := Lib.hid (HZ.out.ext E)
          clear E
          (refine rg_one 5 (by kernel_rfl) rfl (by rfl) (fun K hK => ?_); go_simp)
          refine (HI.out _).mono ?_
          rintro e wf92 ⟨rfl, E⟩
          refine hK _ _ (hf91.trans E) (fun hf92 => ?_)
          clear hK K
          try simp only [List.setIfInBounds_toArray, List.set_cons_succ, List.set_cons_zero]
          have HZ := Lib.hid (HZ.out.ext E)
          clear E
          (refine rg_take (v := ?_) 6 rfl (by kernel_rfl) (by kernel_rfl) (by kernel_rfl) (fun _ _ _ h => h) (by rfl) (by assumption) (fun W hW => ?_) ?_; rotate_left; (focus (go_simp; try with_reducible rfl)); (try simp only [List.setIfInBounds_toArray, List.set_cons_succ, List.set_cons_zero]))
          (refine rg_take (v := ?_) 7 rfl (by kernel_rfl) (by kernel_rfl) (by kernel_rfl) (fun _ _ _ h => h) (by rfl) (by assumption) (fun W hW => ?_) ?_; rotate_left; (focus (go_simp; try with_reducible rfl)); (try simp only [List.setIfInBounds_toArray, List.set_cons_succ, List.set_cons_zero]))
          (refine rg_take (v := ?_) 8 rfl (by kernel_rfl) (by kernel_rfl) (by kernel_rfl) (fun _ _ _ h => h) (by rfl) (by assumption) (fun W hW => ?_) ?_; rotate_left; (focus (go_simp; try with_reducible rfl)); (try simp only [List.setIfInBounds_toArray, List.set_cons_succ, List.set_cons_zero]))
          have HZ1 := Lib.hid (show Blk (((wf92.setCell ⟨bz9, 0, none⟩ (.int .i64 x.a)).setCell ⟨bz9, 1, none⟩ (.int .i64 x.b)).setCell ⟨bz9, 2, none⟩ (.string x.c)) bz9 30 [.int .i64 x.a, .int .i64 x.b, .string x.c] from ((HZ.out.set 0 _).set 1 _).set 2 _)
          obtain ⟨z0, z1, z2⟩ := HZ.out.cells3
          have zf0 := HZ.out.frozen 0
          have zf1 := HZ.out.frozen 1
          have zf2 := HZ.out.frozen 2
          (refine rg_one 10 (by kernel_rfl) rfl (by rfl) (fun K hK => ?_); go_simp)
          refine hK _ _ (((hf92.set (by dsimp only; omega) _).set (by dsimp only; omega) _).set (by dsimp only; omega) _) (fun hL9 => ?_)
          clear hK K
          try simp only [List.setIfInBounds_toArray, List.set_cons_succ, List.set_cons_zero]
          (refine rg_take (v := ?_) 11 rfl (by kernel_rfl) (by kernel_rfl) (by kernel_rfl) (fun _ _ _ h => h) (by rfl) (by assumption) (fun W hW => ?_) ?_; rotate_left; (focus (go_simp; try with_reducible rfl)); (try simp only [List.setIfInBounds_toArray, List.set_cons_succ, List.set_cons_zero]))
          refine rg_done (by kernel_rfl) ?_
          clear z0 z1 z2 zf0 zf1 zf2 HZ
          generalize ((wf92.setCell ⟨bz9, 0, none⟩ (.int .i64 x.a)).setCell ⟨bz9, 1, none⟩ (.int .i64 x.b)).setCell ⟨bz9, 2, none⟩ (.string x.c) = wo9 at HZ1 hL9 ⊢
          have HZ9 := Lib.hid HZ1.out
          have HL9 := Lib.hid hL9
          clear HZ1 hL9 hf92 hE0
          obtain ⟨p0, p1, p2⟩ := (HZ8.out.ext HL9.out).cells3
          obtain ⟨q0, q1, q2⟩ := HZ9.out.cells3
          go_wp2_with fail
          refine (eqValue_same x.a x.b x.c _).mono ?_
          rintro e w9 ⟨rfl, E9⟩
          go_wp2_with fail
          go_ret
          exact ⟨rfl, HEv.out.trans (HL8.out.trans (HL9.out.trans E9))⟩
      · go_simp
        refine hK _ _ (hE0.alloc _) (fun ha9 => ?_)
        clear hK K
        try simp only [List.setIfInBounds_toArray, List.set_cons_succ, List.set_cons_zero]
        have HZ := Lib.hid (Blk.new wd9 30 [.int .i64 0, .int .i64 0, .string ⟨#[]⟩])
        have hbz : wo8.heap.size ≤ wd9.heap.size := hE0.le
        generalize wd9.alloc (.cells #[.int .i64 0, .int .i64 0, .string ⟨#[]⟩] 30) = wz9 at HZ ha9 ⊢
        generalize wd9.heap.size = bz9 at HZ hbz ⊢
        (refine rg_one 2 (by kernel_rfl) rfl (by rfl) (fun K hK => ?_); go_simp)
        refine (toValue_any a.a a.b a.c _).mono ?_
        rintro e wf90 ⟨rfl, E⟩
        refine hK _ _ (ha9.trans E) (fun hf90 => ?_)
        clear hK K
        try simp only [List.setIfInBounds_toArray, List.set_cons_succ, List.set_cons_zero]
        have HZ := Lib.hid (HZ.out.ext E)
        clear E
        (refine rg_one 4 (by kernel_rfl) rfl (by rfl) (fun K hK => ?_); go_simp)
        refine (toValue_any b.a b.b b.c _).mono ?_
        rintro e wf91 ⟨rfl, E⟩
        refine hK _ _ (hf90.trans E) (fun hf91 => ?_)
        clear hK K
        try simp only [List.setIfInBounds_toArray, List.set_cons_succ, List.set_cons_zero]
        have HZ := Lib.hid (HZ.out.ext E)
        clear E
        (refine rg_one 5 (by kernel_rfl) rfl (by rfl) (fun K hK => ?_); go_simp)
        refine (HI.out _).mono ?_
        rintro e wf92 ⟨rfl, E⟩
        refine hK _ _ (hf91.trans E) (fun hf92 => ?_)
        clear hK K
        try simp only [List.setIfInBounds_toArray, List.set_cons_succ, List.set_cons_zero]
        have HZ := Lib.hid (HZ.out.ext E)
        clear E
        (refine rg_take (v := ?_) 6 rfl (by kernel_rfl) (by kernel_rfl) (by kernel_rfl) (fun _ _ _ h => h) (by rfl) (by assumption) (fun W hW => ?_) ?_; rotate_left; (focus (go_simp; try with_reducible rfl)); (try simp only [List.setIfInBounds_toArray, List.set_cons_succ, List.set_cons_zero]))
        (refine rg_take (v := ?_) 7 rfl (by kernel_rfl) (by kernel_rfl) (by kernel_rfl) (fun _ _ _ h => h) (by rfl) (by assumption) (fun W hW => ?_) ?_; rotate_left; (focus (go_simp; try with_reducible rfl)); (try simp only [List.setIfInBounds_toArray, List.set_cons_succ, List.set_cons_zero]))
        (refine rg_take (v := ?_) 8 rfl (by kernel_rfl) (by kernel_rfl) (by kernel_rfl) (fun _ _ _ h => h) (by rfl) (by assumption) (fun W hW => ?_) ?_; rotate_left; (focus (go_simp; try with_reducible rfl)); (try simp only [List.setIfInBounds_toArray, List.set_cons_succ, List.set_cons_zero]))
        have HZ1 := Lib.hid (show Blk (((wf92.setCell ⟨bz9, 0, none⟩ (.int .i64 x.a)).setCell ⟨bz9, 1, none⟩ (.int .i64 x.b)).setCell ⟨bz9, 2, none⟩ (.string x.c)) bz9 30 [.int .i64 x.a, .int .i64 x.b, .string x.c] from ((HZ.out.set 0 _).set 1 _).set 2 _)
        obtain ⟨z0, z1, z2⟩ := HZ.out.cells3
        have zf0 := HZ.out.frozen 0
        have zf1 := HZ.out.frozen 1
        have zf2 := HZ.out.frozen 2
        (refine rg_one 10 (by kernel_rfl) rfl (by rfl) (fun K hK => ?_); go_simp)
        refine hK _ _ (((hf92.set (by dsimp only; omega) _).set (by dsimp only; omega) _).set (by dsimp only; omega) _) (fun hL9 => ?_)
        clear hK K
        try simp only [List.setIfInBounds_toArray, List.set_cons_succ, List.set_cons_zero]
        (refine rg_take (v := ?_) 11 rfl (by kernel_rfl) (by kernel_rfl) (by kernel_rfl) (fun _ _ _ h => h) (by rfl) (by assumption) (fun W hW => ?_) ?_; rotate_left; (focus (go_simp; try with_reducible rfl)); (try simp only [List.setIfInBounds_toArray, List.set_cons_succ, List.set_cons_zero]))
        refine rg_done (by kernel_rfl) ?_
        clear z0 z1 z2 zf0 zf1 zf2 HZ
        generalize ((wf92.setCell ⟨bz9, 0, none⟩ (.int .i64 x.a)).setCell ⟨bz9, 1, none⟩ (.int .i64 x.b)).setCell ⟨bz9, 2, none⟩ (.string x.c) = wo9 at HZ1 hL9 ⊢
        have HZ9 := Lib.hid HZ1.out
        have HL9 := Lib.hid hL9
        clear HZ1 hL9 hf92 hE0
        obtain ⟨p0, p1, p2⟩ := (HZ8.out.ext HL9.out).cells3
        obtain ⟨q0, q1, q2⟩ := HZ9.out.cells3
        go_wp2_with fail
        refine (eqValue_same x.a x.b x.c _).mono ?_
        rintro e w9 ⟨rfl, E9⟩
        go_wp2_with fail
        go_ret
        exact ⟨rfl, HEv.out.trans (HL8.out.trans (HL9.out.trans E9))⟩
  · go_simp
    refine hK _ _ (hE0.alloc _) (fun ha8 => ?_)
    clear hK K
    try simp only [List.setIfInBounds_toArray, List.set_cons_succ, List.set_cons_zero]
    have HZ := Lib.hid (Blk.new wd8 30 [.int .i64 0, .int .i64 0, .string ⟨#[]⟩])
    have hbz : w2.heap.size ≤ wd8.heap.size := hE0.le
    generalize wd8.alloc (.cells #[.int .i64 0, .int .i64 0, .string ⟨#[]⟩] 30) = wz8 at HZ ha8 ⊢
    generalize wd8.heap.size = bz8 at HZ hbz ⊢
    (refine rg_one 2 (by kernel_rfl) rfl (by rfl) (fun K hK => ?_); go_simp)
    refine (toValue_any a.a a.b a.c _).mono ?_
    rintro e wf80 ⟨rfl, E⟩
    refine hK _ _ (ha8.trans E) (fun hf80 => ?_)
    clear hK K
    try simp only [List.setIfInBounds_toArray, List.set_cons_succ, List.set_cons_zero]
    have HZ := Lib.hid (HZ.out.ext E)
    clear E
    (refine rg_one 4 (by kernel_rfl) rfl (by rfl) (fun K hK => ?_); go_simp)
    refine (toValue_any b.a b.b b.c _).mono ?_
    rintro e wf81 ⟨rfl, E⟩
    refine hK _ _ (hf80.trans E) (fun hf81 => ?_)
    clear hK K
    try simp only [List.setIfInBounds_toArray, List.set_cons_succ, List.set_cons_zero]
    have HZ := Lib.hid (HZ.out.ext E)
    clear E
    (refine rg_one 5 (by kernel_rfl) rfl (by rfl) (fun K hK => ?_); go_simp)
    refine (HS.out _).mono ?_
    rintro e wf82 ⟨rfl, E⟩
    refine hK _ _ (hf81.trans E) (fun hf82 => ?_)
    clear hK K
    try simp only [List.setIfInBounds_toArray, List.set_cons_succ, List.set_cons_zero]
    have HZ := Lib.hid (HZ.out.ext E)
    clear E
    (refine rg_take (v := ?_) 6 rfl (by kernel_rfl) (by kernel_rfl) (by kernel_rfl) (fun _ _ _ h => h) (by rfl) (by assumption) (fun W hW => ?_) ?_; rotate_left; (focus (go_simp; try with_reducible rfl)); (try simp only [List.setIfInBounds_toArray, List.set_cons_succ, List.set_cons_zero]))
    (refine rg_take (v := ?_) 7 rfl (by kernel_rfl) (by kernel_rfl) (by kernel_rfl) (fun _ _ _ h => h) (by rfl) (by assumption) (fun W hW => ?_) ?_; rotate_left; (focus (go_simp; try with_reducible rfl)); (try simp only [List.setIfInBounds_toArray, List.set_cons_succ, List.set_cons_zero]))
    (refine rg_take (v := ?_) 8 rfl (by kernel_rfl) (by kernel_rfl) (by kernel_rfl) (fun _ _ _ h => h) (by rfl) (by assumption) (fun W hW => ?_) ?_; rotate_left; (focus (go_simp; try with_reducible rfl)); (try simp only [List.setIfInBounds_toArray, List.set_cons_succ, List.set_cons_zero]))
    have HZ1 := Lib.hid (show Blk (((wf82.setCell ⟨bz8, 0, none⟩ (.int .i64 x.a)).setCell ⟨bz8, 1, none⟩ (.int .i64 x.b)).setCell ⟨bz8, 2, none⟩ (.string x.c)) bz8 30 [.int .i64 x.a, .int .i64 x.b, .string x.c] from ((HZ.out.set 0 _).set 1 _).set 2 _)
    obtain ⟨z0, z1, z2⟩ := HZ.out.cells3
    have zf0 := HZ.out.frozen 0
    have zf1 := HZ.out.frozen 1
    have zf2 := HZ.out.frozen 2
    (refine rg_one 10 (by kernel_rfl) rfl (by rfl) (fun K hK => ?_); go_simp)
    refine hK _ _ (((hf82.set (by dsimp only; omega) _).set (by dsimp only; omega) _).set (by dsimp only; omega) _) (fun hL8 => ?_)
    clear hK K
    try simp only [List.setIfInBounds_toArray, List.set_cons_succ, List.set_cons_zero]
    (refine rg_take (v := ?_) 11 rfl (by kernel_rfl) (by kernel_rfl) (by kernel_rfl) (fun _ _ _ h => h) (by rfl) (by assumption) (fun W hW => ?_) ?_; rotate_left; (focus (go_simp; try with_reducible rfl)); (try simp only [List.setIfInBounds_toArray, List.set_cons_succ, List.set_cons_zero]))
    refine rg_done (by kernel_rfl) ?_
    clear z0 z1 z2 zf0 zf1 zf2 HZ
    generalize ((wf82.setCell ⟨bz8, 0, none⟩ (.int .i64 x.a)).setCell ⟨bz8, 1, none⟩ (.int .i64 x.b)).setCell ⟨bz8, 2, none⟩ (.string x.c) = wo8 at HZ1 hL8 ⊢
    have HZ8 := Lib.hid HZ1.out
    have HL8 := Lib.hid hL8
    clear HZ1 hL8 hf82 hE0
    go_wp2_with fail
    have HE9 := Lib.hid HL8.out
    obtain ⟨x90, x91, x92⟩ := (HXa.out.ext HE9.out).cells3
    obtain ⟨y90, y91, y92⟩ := (HXb.out.ext HE9.out).cells3
    refine rg_start (by kernel_rfl) (Ext.refl wo8) (fun hE0 => ?_)
    (refine rg_take (v := ?_) 0 rfl (by kernel_rfl) (by kernel_rfl) (by kernel_rfl) (fun _ _ _ h => h) (by rfl) (by assumption) (fun W hW => ?_) ?_; rotate_left; (focus (go_simp; try with_reducible rfl)); (try simp only [List.setIfInBounds_toArray, List.set_cons_succ, List.set_cons_zero]))
    (refine rg_take (v := ?_) 1 rfl (by kernel_rfl) (by kernel_rfl) (by kernel_rfl) (fun _ _ _ h => h) (by rfl) (by assumption) (fun W hW => ?_) ?_; rotate_left; (focus (have k0 := hW.cell x90; have k1 := hW.cell x91; have k2 := hW.cell x92; go_simp; try with_reducible rfl)); (try simp only [List.setIfInBounds_toArray, List.set_cons_succ, List.set_cons_zero]))
    (refine rg_take (v := ?_) 3 rfl (by kernel_rfl) (by kernel_rfl) (by kernel_rfl) (fun _ _ _ h => h) (by rfl) (by assumption) (fun W hW => ?_) ?_; rotate_left; (focus (have k0 := hW.cell y90; have k1 := hW.cell y91; have k2 := hW.cell y92; go_simp; try with_reducible rfl)); (try simp only [List.setIfInBounds_toArray, List.set_cons_succ, List.set_cons_zero]))
    clear x90 x91 x92 y90 y91 y92
    generalize wo8.drew = wd9 at hE0 ⊢
    refine rg_two 2 9 (by kernel_rfl) rfl (by rfl) rfl (by rfl) (fun K hK => ?_) (fun K hK => ?_)
    · go_simp
      refine (toValue_any a.a a.b a.c _).mono ?_
      rintro e wb90 ⟨rfl, E⟩
      refine hK _ _ (hE0.trans E) (fun hb90 => ?_)
      clear hK K
      try simp only [List.setIfInBounds_toArray, List.set_cons_succ, List.set_cons_zero]
      clear E
      refine rg_two 4 9 (by kernel_rfl) rfl (by rfl) rfl (by rfl) (fun K hK => ?_) (fun K hK => ?_)
      · go_simp
        refine (toValue_any b.a b.b b.c _).mono ?_
        rintro e wb91 ⟨rfl, E⟩
        refine hK _ _ (hb90.trans E) (fun hb91 => ?_)
        clear hK K
        try simp only [List.setIfInBounds_toArray, List.set_cons_succ, List.set_cons_zero]
        clear E
        refine rg_two 5 9 (by kernel_rfl) rfl (by rfl) rfl (by rfl) (fun K hK => ?_) (fun K hK => ?_)
        · go_simp
          refine (HI.out _).mono ?_
          rintro e wb92 ⟨rfl, E⟩
          refine hK _ _ (hb91.trans E) (fun hb92 => ?_)
          clear hK K
          try simp only [List.setIfInBounds_toArray, List.set_cons_succ, List.set_cons_zero]
          clear E
          (refine rg_take (v := ?_) 6 rfl (by kernel_rfl) (by kernel_rfl) (by kernel_rfl) (fun _ _ _ h => h) (by rfl) (by assumption) (fun W hW => ?_) ?_; rotate_left; (focus (go_simp; try with_reducible rfl)); (try simp only [List.setIfInBounds_toArray, List.set_cons_succ, List.set_cons_zero]))
          (refine rg_take (v := ?_) 7 rfl (by kernel_rfl) (by kernel_rfl) (by kernel_rfl) (fun _ _ _ h => h) (by rfl) (by assumption) (fun W hW => ?_) ?_; rotate_left; (focus (go_simp; try with_reducible rfl)); (try simp only [List.setIfInBounds_toArray, List.set_cons_succ, List.set_cons_zero]))
          (refine rg_take (v := ?_) 8 rfl (by kernel_rfl) (by kernel_rfl) (by kernel_rfl) (fun _ _ _ h => h) (by rfl) (by assumption) (fun W hW => ?_) ?_; rotate_left; (focus (go_simp; try with_reducible rfl)); (try simp only [List.setIfInBounds_toArray, List.set_cons_succ, List.set_cons_zero]))
          (refine rg_one 9 (by kernel_rfl) rfl (by rfl) (fun K hK => ?_); go_simp)
          refine hK _ _ (hb92.alloc _) (fun ha9 => ?_)
          clear hK K
          try simp only [List.setIfInBounds_toArray, List.set_cons_succ, List.set_cons_zero]
          have HZ := Lib.hid (Blk.new wb92 30 [.int .i64 0, .int .i64 0, .string ⟨#[]⟩])
          have hbz : wo8.heap.size ≤ wb92.heap.size := hb92.le
          generalize wb92.alloc (.cells #[.int .i64 0, .int .i64 0, .string ⟨#[]⟩] 30) = wz9 at HZ ha9 ⊢
          generalize wb92.heap.size = bz9 at HZ hbz ⊢
          have HZ1 := Lib.hid (show Blk (((wz9.setCell ⟨bz9, 0, none⟩ (.int .i64 x.a)).setCell ⟨bz9, 1, none⟩ (.int .i64 x.b)).setCell ⟨bz9, 2, none⟩ (.string x.c)) bz9 30 [.int .i64 x.a, .int .i64 x.b, .string x.c] from ((HZ.out.set 0 _).set 1 _).set 2 _)
          obtain ⟨z0, z1, z2⟩ := HZ.out.cells3
          have zf0 := HZ.out.frozen 0
          have zf1 := HZ.out.frozen 1
          have zf2 := HZ.out.frozen 2
          (refine rg_one 10 (by kernel_rfl) rfl (by rfl) (fun K hK => ?_); go_simp)
          refine hK _ _ (((ha9.set (by dsimp only; omega) _).set (by dsimp only; omega) _).set (by dsimp only; omega) _) (fun hL9 => ?_)
          clear hK K
          try simp only [List.setIfInBounds_toArray, List.set_cons_succ, List.set_cons_zero]
          (refine rg_take (v := ?_) 11 rfl (by kernel_rfl) (by kernel_rfl) (by kernel_rfl) (fun _ _ _ h => h) (by rfl) (by assumption) (fun W hW => ?_) ?_; rotate_left; (focus (go_simp; try with_reducible rfl)); (try simp only [List.setIfInBounds_toArray, List.set_cons_succ, List.set_cons_zero]))
          refine rg_done (by kernel_rfl) ?_
          clear z0 z1 z2 zf0 zf1 zf2 HZ
          generalize ((wz9.setCell ⟨bz9, 0, none⟩ (.int .i64 x.a)).setCell ⟨bz9, 1, none⟩ (.int .i64 x.b)).setCell ⟨bz9, 2, none⟩ (.string x.c) = wo9 at HZ1 hL9 ⊢
          have HZ9 := Lib.hid HZ1.out
          have HL9 := Lib.hid hL9
          clear HZ1 hL9 ha9 hE0
          obtain ⟨p0, p1, p2⟩ := (HZ8.out.ext HL9.out).cells3
          obtain ⟨q0, q1, q2⟩ := HZ9.out.cells3
          go_wp2_with fail
          refine (eqValue_same x.a x.b x.c _).mono ?_
          rintro e w9 ⟨rfl, E9⟩
          go_wp2_with fail
          go_ret
          exact ⟨rfl, HEv.out.trans (HL8.out.trans (HL9.out.trans E9))⟩
        · go_simp
          refine hK _ _ (hb91.alloc _) (fun ha9 => ?_)
          clear hK K
          try simp only [List.setIfInBounds_toArray, List.set_cons_succ, List.set_cons_zero]
          have HZ := Lib.hid (Blk.new wb91 30 [.int .i64 0, .int .i64 0, .string ⟨#[]⟩])
          have hbz : wo8.heap.size ≤ wb91.heap.size := hb91.le
          generalize wb91.alloc (.cells #[.int .i64 0, .int .i64 0, .string ⟨#[]⟩] 30) = wz9 at HZ ha9 ⊢
          generalize wb91.heap.size = bz9 at HZ hbz ⊢
          (refine rg_one 5 (by kernel_rfl) rfl (by rfl) (fun K hK => ?_); go_simp)
          refine (HI.out _).mono ?_
          rintro e wf92 ⟨rfl, E⟩
          refine hK _ _ (ha9.trans E) (fun hf92 => ?_)
          clear hK K
          try simp only [List.setIfInBounds_toArray, List.set_cons_succ, List.set_cons_zero]
          have HZ := Lib.hid (HZ.out.ext E)
          clear E
          (refine rg_take (v := ?_) 6 rfl (by kernel_rfl) (by kernel_rfl) (by kernel_rfl) (fun _ _ _ h => h) (by rfl) (by assumption) (fun W hW => ?_) ?_; rotate_left; (focus (go_simp; try with_reducible rfl)); (try simp only [List.setIfInBounds_toArray, List.set_cons_succ, List.set_cons_zero]))
          (refine rg_take (v := ?_) 7 rfl (by kernel_rfl) (by kernel_rfl) (by kernel_rfl) (fun _ _ _ h => h) (by rfl) (by assumption) (fun W hW => ?_) ?_; rotate_left; (focus (go_simp; try with_reducible rfl)); (try simp only [List.setIfInBounds_toArray, List.set_cons_succ, List.set_cons_zero]))
          (refine rg_take (v := ?_) 8 rfl (by kernel_rfl) (by kernel_rfl) (by kernel_rfl) (fun _ _ _ h => h) (by rfl) (by assumption) (fun W hW => ?_) ?_; rotate_left; (focus (go_simp; try with_reducible rfl)); (try simp only [List.setIfInBounds_toArray, List.set_cons_succ, List.set_cons_zero]))
          have HZ1 := Lib.hid (show Blk (((wf92.setCell ⟨bz9, 0, none⟩ (.int .i64 x.a)).setCell ⟨bz9, 1, none⟩ (.int .i64 x.b)).setCell ⟨bz9, 2, none⟩ (.string x.c)) bz9 30 [.int .i64 x.a, .int .i64 x.b, .string x.c] from ((HZ.out.set 0 _).set 1 _).set 2 _)
          obtain ⟨z0, z1, z2⟩ := HZ.out.cells3
          have zf0 := HZ.out.frozen 0
          have zf1 := HZ.out.frozen 1
          have zf2 := HZ.out.frozen 2
          (refine rg_one 10 (by kernel_rfl) rfl (by rfl) (fun K hK => ?_); go_simp)
          refine hK _ _ (((hf92.set (by dsimp only; omega) _).set (by dsimp only; omega) _).set (by dsimp only; omega) _) (fun hL9 => ?_)
          clear hK K
          try simp only [List.setIfInBounds_toArray, List.set_cons_succ, List.set_cons_zero]
          (refine rg_take (v := ?_) 11 rfl (by kernel_rfl) (by kernel_rfl) (by kernel_rfl) (fun _ _ _ h => h) (by rfl) (by assumption) (fun W hW => ?_) ?_; rotate_left; (focus (go_simp; try with_reducible rfl)); (try simp only [List.setIfInBounds_toArray, List.set_cons_succ, List.set_cons_zero]))
          refine rg_done (by kernel_rfl) ?_
          clear z0 z1 z2 zf0 zf1 zf2 HZ
          generalize ((wf92.setCell ⟨bz9, 0, none⟩ (.int .i64 x.a)).setCell ⟨bz9, 1, none⟩ (.int .i64 x.b)).setCell ⟨bz9, 2, none⟩ (.string x.c) = wo9 at HZ1 hL9 ⊢
          have HZ9 := Lib.hid HZ1.out
          have HL9 := Lib.hid hL9
          clear HZ1 hL9 hf92 hE0
          obtain ⟨p0, p1, p2⟩ := (HZ8.out.ext HL9.out).cells3
          obtain ⟨q0, q1, q2⟩ := HZ9.out.cells3
          go_wp2_with fail
          refine (eqValue_same x.a x.b x.c _).mono ?_
          rintro e w9 ⟨rfl, E9⟩
          go_wp2_with fail
          go_ret
          exact ⟨rfl, HEv.out.trans (HL8.out.trans (HL9.out.trans E9))⟩
      · go_simp
        refine hK _ _ (hb90.alloc _) (fun ha9 => ?_)
        clear hK K
        try simp only [List.setIfInBounds_toArray, List.set_cons_succ, List.set_cons_zero]
        have HZ := Lib.hid (Blk.new wb90 30 [.int .i64 0, .int .i64 0, .string ⟨#[]⟩])
        have hbz : wo8.heap.size ≤ wb90.heap.size := hb90.le
        generalize wb90.alloc (.cells #[.int .i64 0, .int .i64 0, .string ⟨#[]⟩] 30) = wz9 at HZ ha9 ⊢
        generalize wb90.heap.size = bz9 at HZ hbz ⊢
        (refine rg_one 4 (by kernel_rfl) rfl (by rfl) (fun K hK => ?_); go_simp)
        refine (toValue_any b.a b.b b.c _).mono ?_
        rintro e wf91 ⟨rfl, E⟩
        refine hK _ _ (ha9.trans E) (fun hf91 => ?_)
        clear hK K
        try simp only [List.setIfInBounds_toArray, List.set_cons_succ, List.set_cons_zero]
        have HZ := Lib.hid (HZ.out.ext E)
        clear E
        (refine rg_one 5 (by kernel_rfl) rfl (by rfl) (fun K hK => ?_); go_simp)
        refine (HI.out _).mono ?_
        rintro e wf92 ⟨rfl, E⟩
        refine hK _ _ (hf91.trans E) (fun hf92 => ?_)
        clear hK K
        try simp only [List.setIfInBounds_toArray, List.set_cons_succ, List.set_cons_zero]
        have HZ := Lib.hid (HZ.out.ext E)
        clear E
        (refine rg_take (v := ?_) 6 rfl (by kernel_rfl) (by kernel_rfl) (by kernel_rfl) (fun _ _ _ h => h) (by rfl) (by assumption) (fun W hW => ?_) ?_; rotate_left; (focus (go_simp; try with_reducible rfl)); (try simp only [List.setIfInBounds_toArray, List.set_cons_succ, List.set_cons_zero]))
        (refine rg_take (v := ?_) 7 rfl (by kernel_rfl) (by kernel_rfl) (by kernel_rfl) (fun _ _ _ h => h) (by rfl) (by assumption) (fun W hW => ?_) ?_; rotate_left; (focus (go_simp; try with_reducible rfl)); (try simp only [List.setIfInBounds_toArray, List.set_cons_succ, List.set_cons_zero]))
        (refine rg_take (v := ?_) 8 rfl (by kernel_rfl) (by kernel_rfl) (by kernel_rfl) (fun _ _ _ h => h) (by rfl) (by assumption) (fun W hW => ?_) ?_; rotate_left; (focus (go_simp; try with_reducible rfl)); (try simp only [List.setIfInBounds_toArray, List.set_cons_succ, List.set_cons_zero]))
        have HZ1 := Lib.hid (show Blk (((wf92.setCell ⟨bz9, 0, none⟩ (.int .i64 x.a)).setCell ⟨bz9, 1, none⟩ (.int .i64 x.b)).setCell ⟨bz9, 2, none⟩ (.string x.c)) bz9 30 [.int .i64 x.a, .int .i64 x.b, .string x.c] from ((HZ.out.set 0 _).set 1 _).set 2 _)
        obtain ⟨z0, z1, z2⟩ := HZ.out.cells3
        have zf0 := HZ.out.frozen 0
        have zf1 := HZ.out.frozen 1
        have zf2 := HZ.out.frozen 2
        (refine rg_one 10 (by kernel_rfl) rfl (by rfl) (fun K hK => ?_); go_simp)
        refine hK _ _ (((hf92.set (by dsimp only; omega) _).set (by dsimp only; omega) _).set (by dsimp only; omega) _) (fun hL9 => ?_)
        clear hK K
        try simp only [List.setIfInBounds_toArray, List.set_cons_succ, List.set_cons_zero]
        (refine rg_take (v := ?_) 11 rfl (by kernel_rfl) (by kernel_rfl) (by kernel_rfl) (fun _ _ _ h => h) (by rfl) (by assumption) (fun W hW => ?_) ?_; rotate_left; (focus (go_simp; try with_reducible rfl)); (try simp only [List.setIfInBounds_toArray, List.set_cons_succ, List.set_cons_zero]))
        refine rg_done (by kernel_rfl) ?_
        clear z0 z1 z2 zf0 zf1 zf2 HZ
        generalize ((wf92.setCell ⟨bz9, 0, none⟩ (.int .i64 x.a)).setCell ⟨bz9, 1, none⟩ (.int .i64 x.b)).setCell ⟨bz9, 2, none⟩ (.string x.c) = wo9 at HZ1 hL9 ⊢
        have HZ9 := Lib.hid HZ1.out
        have HL9 := Lib.hid hL9
        clear HZ1 hL9 hf92 hE0
        obtain ⟨p0, p1, p2⟩ := (HZ8.out.ext HL9.out).cells3
        obtain ⟨q0, q1, q2⟩ := HZ9.out.cells3
        go_wp2_with fail
        refine (eqValue_same x.a x.b x.c _).mono ?_
        rintro e w9 ⟨rfl, E9⟩
        go_wp2_with fail
        go_ret
        exact ⟨rfl, HEv.out.trans (HL8.out.trans (HL9.out.trans E9))⟩
    · go_simp
      refine hK _ _ (hE0.alloc _) (fun ha9 => ?_)
      clear hK K
      try simp only [List.setIfInBounds_toArray, List.set_cons_succ, List.set_cons_zero]
      have HZ := Lib.hid (Blk.new wd9 30 [.int .i64 0, .int .i64 0, .string ⟨#[]⟩])
      have hbz : wo8.heap.size ≤ wd9.heap.size := hE0.le
      generalize wd9.alloc (.cells #[.int .i64 0, .int .i64 0, .string ⟨#[]⟩] 30) = wz9 at HZ ha9 ⊢
      generalize wd9.heap.size = bz9 at HZ hbz ⊢
      (refine rg_one 2 (by kernel_rfl) rfl (by rfl) (fun K hK => ?_); go_simp)
      refine (toValue_any a.a a.b a.c _).mono ?_
      rintro e wf90 ⟨rfl, E⟩
      refine hK _ _ (ha9.trans E) (fun hf90 => ?_)
      clear hK K
      try simp only [List.setIfInBounds_toArray, List.set_cons_succ, List.set_cons_zero]
      have HZ := Lib.hid (HZ.out.ext E)
      clear E
      (refine rg_one 4 (by kernel_rfl) rfl (by rfl) (fun K hK => ?_); go_simp)
      refine (toValue_any b.a b.b b.c _).mono ?_
      rintro e wf91 ⟨rfl, E⟩
      refine hK _ _ (hf90.trans E) (fun hf91 => ?_)
      clear hK K
      try simp only [List.setIfInBounds_toArray, List.set_cons_succ, List.set_cons_zero]
      have HZ := Lib.hid (HZ.out.ext E)
      clear E
      (refine rg_one 5 (by kernel_rfl) rfl (by rfl) (fun K hK => ?_); go_simp)
      refine (HI.out _).mono ?_
      rintro e wf92 ⟨rfl, E⟩
      refine hK _ _ (hf91.trans E) (fun hf92 => ?_)
      clear hK K
      try simp only [List.setIfInBounds_toArray, List.set_cons_succ, List.set_cons_zero]
      have HZ := Lib.hid (HZ.out.ext E)
      clear E
      (refine rg_take (v := ?_) 6 rfl (by kernel_rfl) (by kernel_rfl) (by kernel_rfl) (fun _ _ _ h => h) (by rfl) (by assumption) (fun W hW => ?_) ?_; rotate_left; (focus (go_simp; try with_reducible rfl)); (try simp only [List.setIfInBounds_toArray, List.set_cons_succ, List.set_cons_zero]))
      (refine rg_take (v := ?_) 7 rfl (by kernel_rfl) (by kernel_rfl) (by kernel_rfl) (fun _ _ _ h => h) (by rfl) (by assumption) (fun W hW => ?_) ?_; rotate_left; (focus (go_simp; try with_reducible rfl)); (try simp only [List.setIfInBounds_toArray, List.set_cons_succ, List.set_cons_zero]))
      (refine rg_take (v := ?_) 8 rfl (by kernel_rfl) (by kernel_rfl) (by kernel_rfl) (fun _ _ _ h => h) (by rfl) (by assumption) (fun W hW => ?_) ?_; rotate_left; (focus (go_simp; try with_reducible rfl)); (try simp only [List.setIfInBounds_toArray, List.set_cons_succ, List.set_cons_zero]))
      have HZ1 := Lib.hid (show Blk (((wf92.setCell ⟨bz9, 0, none⟩ (.int .i64 x.a)).setCell ⟨bz9, 1, none⟩ (.int .i64 x.b)).setCell ⟨bz9, 2, none⟩ (.string x.c)) bz9 30 [.int .i64 x.a, .int .i64 x.b, .string x.c] from ((HZ.out.set 0 _).set 1 _).set 2 _)
      obtain ⟨z0, z1, z2⟩ := HZ.out.cells3
      have zf0 := HZ.out.frozen 0
      have zf1 := HZ.out.frozen 1
      have zf2 := HZ.out.frozen 2
      (refine rg_one 10 (by kernel_rfl) rfl (by rfl) (fun K hK => ?_); go_simp)
      refine hK _ _ (((hf92.set (by dsimp only; omega) _).set (by dsimp only; omega) _).set (by dsimp only; omega) _) (fun hL9 => ?_)
      clear hK K
      try simp only [List.setIfInBounds_toArray, List.set_cons_succ, List.set_cons_zero]
      (refine rg_take (v := ?_) 11 rfl (by kernel_rfl) (by kernel_rfl) (by kernel_rfl) (fun _ _ _ h => h) (by rfl) (by assumption) (fun W hW => ?_) ?_; rotate_left; (focus (go_simp; try with_reducible rfl)); (try simp only [List.setIfInBounds_toArray, List.set_cons_succ, List.set_cons_zero]))
      refine rg_done (by kernel_rfl) ?_
      clear z0 z1 z2 zf0 zf1 zf2 HZ
      generalize ((wf92.setCell ⟨bz9, 0, none⟩ (.int .i64 x.a)).setCell ⟨bz9, 1, none⟩ (.int .i64 x.b)).setCell ⟨bz9, 2, none⟩ (.string x.c) = wo9 at HZ1 hL9 ⊢
      have HZ9 := Lib.hid HZ1.out
      have HL9 := Lib.hid hL9
      clear HZ1 hL9 hf92 hE0
      obtain ⟨p0, p1, p2⟩ := (HZ8.out.ext HL9.out).cells3
      obtain ⟨q0, q1, q2⟩ := HZ9.out.cells3
      go_wp2_with fail
      refine (eqValue_same x.a x.b x.c _).mono ?_
      rintro e w9 ⟨rfl, E9⟩
      go_wp2_with fail
      go_ret
      exact ⟨rfl, HEv.out.trans (HL8.out.trans (HL9.out.trans E9))⟩
end Go.Proofs.Ythfkfdfcgldbeaa
