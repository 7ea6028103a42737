/- The walks of the bytes of rows (printed by gen_rows2.py). -/
import Derived.Test.YthfkfdfcgldbeaaRowS
import Derived.Test.YthfkfdfcgldbeaaHeader
import Derived.Test.YthfkfdfcgldbeaaRg
namespace Go.Proofs.Ythfkfdfcgldbeaa
open Go.RowKit Go.Deep
set_option linter.unusedVariables false
set_option maxRecDepth 100000
theorem conv_bytesR {P : Program} (src dst e : TypeId) (s : ByteArray) {u : TypeDesc} (hs : P.underlying src = some u) (hd : P.underlying dst = some (.slice e)) (he : P.underlying e = some (.int .u8)) :
    ∃ (cf : World → Nat) (bw : World → World), (∀ W, (convert src dst (.string s)).run P W = .ok (.slice (some ⟨W.heap.size, 0, none⟩) s.size (cf W)) (bw W)) ∧ (∀ W, Rd (bw W) (some ⟨W.heap.size, 0, none⟩) (s.data.toList.map fun c => Value.int .u8 (c.toNat : Int))) ∧ (∀ W, Ext W (bw W)) :=
  ⟨fun W => grownCap W s.size 0 e, fun W => Lib.bytesWorld W e s, fun W => Lib.run_convert_string_bytes W src dst e s hs hd he, fun W => bytesWorld_rd W e s, fun W => bytesWorld_ext W e s⟩
theorem toList_empty : ByteArray.empty.toList = [] := by simp [ByteArray.toList, ByteArray.toList.loop]
theorem okV_num (z : Int) (h1 : -1000000000 ≤ z) (h2 : z ≤ 1000000000) : okV ⟨1, z, ByteArray.empty⟩ = true := by
  unfold okV valB
  rw [if_neg (show ¬ (1 : Int) = 0 by decide), if_pos rfl, toList_empty]
  simp [h1, h2]
def rowKeys (t : Int) (r : CRow) : List CValue := [⟨1, t, ByteArray.empty⟩, ⟨1, r.id, ByteArray.empty⟩, r.p, r.q]
theorem rowKeys_ok {t : Int} {r : CRow} (hr : rowB r = true) (ht : inB t 1 3 = true) : ∀ x ∈ rowKeys t r, okV x = true := by
  have h1 := inB_true ht
  unfold rowB at hr
  simp only [Bool.and_eq_true] at hr
  have h2 := inB_true hr.1.1.1.1
  intro x hx
  unfold rowKeys at hx
  simp only [List.mem_cons, List.not_mem_nil, or_false] at hx
  rcases hx with rfl | rfl | rfl | rfl
  · exact okV_num t (by omega) (by omega)
  · exact okV_num _ (by omega) (by omega)
  · exact hr.1.1.1.2
  · exact hr.1.2
theorem rowKeys_len {t : Int} {r : CRow} (hr : rowB r = true) (ht : inB t 1 3 = true) : (keysB (rowKeys t r)).length ≤ 48 := keysB_len _ (rowKeys_ok hr ht)
def rbL (t : Int) (r : CRow) : List UInt8 := if rowB r = false then [] else if inB t 1 3 = false then [] else keysB (rowKeys t r)
def rbC (t : Int) (r : CRow) : Int := if rowB r = false then 1 else if inB t 1 3 = false then 4 else 0
theorem rbL_len (t : Int) (r : CRow) : (rbL t r).length ≤ 48 := by
  unfold rbL
  split
  · simp
  · split
    · simp
    · rename_i h1 h2
      exact rowKeys_len (by simpa using h1) (by simpa using h2)
set_option maxHeartbeats 2000000 in
theorem impl_rowBytes (t : Int) (r : CRow) (w : World) (hok : ∀ x ∈ rowKeys t r, okV x = true) :
    Calls Try.prog 68 #[.int .i64 t, .agg #[.int .i64 r.id, .int .i64 r.p.a, .int .i64 r.p.b, .string r.p.c, .int .i64 r.q.a, .int .i64 r.q.b, .string r.q.c]] w (BytesPost w 5 (keysB (rowKeys t r))) := by
  have HX := Lib.hid (Blk.new w 32 [.int .i64 r.id, .int .i64 r.p.a, .int .i64 r.p.b, .string r.p.c, .int .i64 r.q.a, .int .i64 r.q.b, .string r.q.c])
  have HE0 := Lib.hid (show Ext w (w.alloc (.cells #[.int .i64 r.id, .int .i64 r.p.a, .int .i64 r.p.b, .string r.p.c, .int .i64 r.q.a, .int .i64 r.q.b, .string r.q.c] 32)) from (by repeat (first | exact Ext.refl _ | assumption | refine Ext.alloc ?_ _ | refine Ext.drewN ?_ _ | refine Ext.drew ?_ | refine Ext.set ?_ (by dsimp only; omega) _ | refine Ext.trans ?_ (by assumption))))
  have HK := Lib.hid (fun W b (hB : Blk W b 30 [.int .i64 1, .int .i64 t, .string ByteArray.empty, .int .i64 1, .int .i64 r.id, .string ByteArray.empty, .int .i64 r.p.a, .int .i64 r.p.b, .string r.p.c, .int .i64 r.q.a, .int .i64 r.q.b, .string r.q.c]) => impl_keyBytes (some ⟨b, 0, none⟩) 4 4 (rowKeys t r) W rfl (by omega) hok hB.rd)
  generalize keysB (rowKeys t r) = F at HK ⊢
  clear hok
  go_enter Try.func68, Try.ntmps68
  go_wp2_with fail
  generalize w.alloc (.cells #[.int .i64 r.id, .int .i64 r.p.a, .int .i64 r.p.b, .string r.p.c, .int .i64 r.q.a, .int .i64 r.q.b, .string r.q.c] 32) = w0 at HX HE0 ⊢
  obtain ⟨x0, x1, x2, x3, x4, x5, x6⟩ := HX.out.cells7
  refine rg_start (by kernel_rfl) (Ext.refl w0) (fun hE0 => ?_)
  (refine rg_take (v := ?_) 0 rfl (by kernel_rfl) (by kernel_rfl) (by kernel_rfl) (fun _ _ _ h => h) (by rfl) (by assumption) (fun W hW => ?_) ?_; rotate_left; (focus (go_simp; try with_reducible rfl)); (try simp only [List.setIfInBounds_toArray, List.set_cons_succ, List.set_cons_zero]))
  (refine rg_take (v := ?_) 2 rfl (by kernel_rfl) (by kernel_rfl) (by kernel_rfl) (fun _ _ _ h => h) (by rfl) (by assumption) (fun W hW => ?_) ?_; rotate_left; (focus (go_simp; try with_reducible rfl)); (try simp only [List.setIfInBounds_toArray, List.set_cons_succ, List.set_cons_zero]))
  (refine rg_take (v := ?_) 3 rfl (by kernel_rfl) (by kernel_rfl) (by kernel_rfl) (fun _ _ _ h => h) (by rfl) (by assumption) (fun W hW => ?_) ?_; rotate_left; (focus (have k0 := hW.cell x0; go_simp; try with_reducible rfl)); (try simp only [List.setIfInBounds_toArray, List.set_cons_succ, List.set_cons_zero]))
  (refine rg_take (v := ?_) 5 rfl (by kernel_rfl) (by kernel_rfl) (by kernel_rfl) (fun _ _ _ h => h) (by rfl) (by assumption) (fun W hW => ?_) ?_; rotate_left; (focus (go_simp; try with_reducible rfl)); (try simp only [List.setIfInBounds_toArray, List.set_cons_succ, List.set_cons_zero]))
  (refine rg_take (v := ?_) 6 rfl (by kernel_rfl) (by kernel_rfl) (by kernel_rfl) (fun _ _ _ h => h) (by rfl) (by assumption) (fun W hW => ?_) ?_; rotate_left; (focus (have k1 := hW.cell x1; have k2 := hW.cell x2; have k3 := hW.cell x3; go_simp; try with_reducible rfl)); (try simp only [List.setIfInBounds_toArray, List.set_cons_succ, List.set_cons_zero]))
  (refine rg_take (v := ?_) 7 rfl (by kernel_rfl) (by kernel_rfl) (by kernel_rfl) (fun _ _ _ h => h) (by rfl) (by assumption) (fun W hW => ?_) ?_; rotate_left; (focus (go_simp; try with_reducible rfl)); (try simp only [List.setIfInBounds_toArray, List.set_cons_succ, List.set_cons_zero]))
  (refine rg_take (v := ?_) 8 rfl (by kernel_rfl) (by kernel_rfl) (by kernel_rfl) (fun _ _ _ h => h) (by rfl) (by assumption) (fun W hW => ?_) ?_; rotate_left; (focus (have k4 := hW.cell x4; have k5 := hW.cell x5; have k6 := hW.cell x6; go_simp; try with_reducible rfl)); (try simp only [List.setIfInBounds_toArray, List.set_cons_succ, List.set_cons_zero]))
  (refine rg_one 1 (by kernel_rfl) rfl (by rfl) (fun K hK => ?_); go_simp)
  refine (impl_numberValue t _).mono ?_
  rintro e w1 ⟨rfl, E1⟩
  refine hK _ _ (hE0.trans E1) (fun hE1 => ?_)
  clear hK K
  try simp only [List.setIfInBounds_toArray, List.set_cons_succ, List.set_cons_zero]
  (refine rg_one 4 (by kernel_rfl) rfl (by rfl) (fun K hK => ?_); go_simp)
  refine (impl_numberValue r.id _).mono ?_
  rintro e w2 ⟨rfl, E2⟩
  refine hK _ _ (hE1.trans E2) (fun hE2 => ?_)
  clear hK K
  try simp only [List.setIfInBounds_toArray, List.set_cons_succ, List.set_cons_zero]
  clear x0 x1 x2 x3 x4 x5 x6 hE0 hE1 E1 E2
  (refine rg_one 9 (by kernel_rfl) rfl (by rfl) (fun K hK => ?_); go_simp)
  refine hK _ _ (hE2.alloc _) (fun hE3 => ?_)
  clear hK K
  try simp only [List.setIfInBounds_toArray, List.set_cons_succ, List.set_cons_zero]
  (refine rg_one 10 (by kernel_rfl) rfl (by rfl) (fun K hK => ?_); go_simp)
  refine (HK.out _ _ (Blk.new w2 30 [.int .i64 1, .int .i64 t, .string ByteArray.empty, .int .i64 1, .int .i64 r.id, .string ByteArray.empty, .int .i64 r.p.a, .int .i64 r.p.b, .string r.p.c, .int .i64 r.q.a, .int .i64 r.q.b, .string r.q.c])).mono ?_
  rintro e w4 ⟨v4, rfl, O4, E4⟩
  refine hK _ _ (hE3.trans E4) (fun hE4 => ?_)
  clear hK K
  try simp only [List.setIfInBounds_toArray, List.set_cons_succ, List.set_cons_zero]
  (refine rg_take (v := ?_) 11 rfl (by kernel_rfl) (by kernel_rfl) (by kernel_rfl) (fun _ _ _ h => h) (by rfl) (by assumption) (fun W hW => ?_) ?_; rotate_left; (focus (go_simp; try with_reducible rfl)); (try simp only [List.setIfInBounds_toArray, List.set_cons_succ, List.set_cons_zero]))
  refine rg_done (by kernel_rfl) ?_
  have HO4 := Lib.hid O4
  clear O4
  go_wp2_with fail
  go_ret
  exact ⟨_, rfl, own_base HO4.out (by have := HE0.out.le; have := hE3.le; omega), HE0.out.trans hE4⟩
set_option maxHeartbeats 2000000 in
theorem impl_RowBytes (t : Int) (r : CRow) (w : World) (hp : r.p.c.size ≤ maxLen) (hq : r.q.c.size ≤ maxLen) :
    Calls Try.prog 17 #[.int .i64 t, .agg #[.int .i64 r.id, .int .i64 r.p.a, .int .i64 r.p.b, .string r.p.c, .int .i64 r.q.a, .int .i64 r.q.b, .string r.q.c]] w fun e w' => ∃ v, e = .returned (.tuple #[v, .int .i64 (rbC t r)]) ∧ w'.ownsRow w.heap.size 5 1 v (rbL t r).length ((rbL t r).map fun c => Value.int .u8 (c.toNat : Int)) ∧ Ext w w' := by
  have hL : rbL t r = if rowB r = false then [] else if inB t 1 3 = false then [] else keysB (rowKeys t r) := rfl
  have hC : rbC t r = if rowB r = false then 1 else if inB t 1 3 = false then 4 else 0 := rfl
  have hok := fun (h1 : rowB r = true) (h2 : inB t 1 3 = true) => rowKeys_ok h1 h2
  have HR := Lib.hid (fun W => impl_rowOK r W hp hq)
  have HT := Lib.hid (fun W => impl_isTable t W)
  have HX := Lib.hid (Blk.new w 32 [.int .i64 r.id, .int .i64 r.p.a, .int .i64 r.p.b, .string r.p.c, .int .i64 r.q.a, .int .i64 r.q.b, .string r.q.c])
  have HE0 := Lib.hid (show Ext w (w.alloc (.cells #[.int .i64 r.id, .int .i64 r.p.a, .int .i64 r.p.b, .string r.p.c, .int .i64 r.q.a, .int .i64 r.q.b, .string r.q.c] 32)) from (by repeat (first | exact Ext.refl _ | assumption | refine Ext.alloc ?_ _ | refine Ext.drewN ?_ _ | refine Ext.drew ?_ | refine Ext.set ?_ (by dsimp only; omega) _ | refine Ext.trans ?_ (by assumption))))
  generalize rbL t r = L at hL ⊢
  generalize rbC t r = Cc at hC ⊢
  generalize rowB r = b1 at hL hC hok HR
  generalize inB t 1 3 = b2 at hL hC hok HT
  rcases b1 with _ | _
  · have HL := Lib.hid (show L = [] by rw [hL]; rfl)
    have HC := Lib.hid (show Cc = 1 by rw [hC]; rfl)
    clear hL hC hok
    go_enter Try.func17, Try.ntmps17
    go_wp2_with fail
    refine (HR.out _).mono ?_
    rintro e w1 ⟨rfl, E1⟩
    go_wp2_with fail
    go_ret2
    rw [HL.out, HC.out]
    exact ⟨_, rfl, World.ownsRow_nil _ _ _ _, HE0.out.trans E1⟩
  rcases b2 with _ | _
  · have HL := Lib.hid (show L = [] by rw [hL]; rfl)
    have HC := Lib.hid (show Cc = 4 by rw [hC]; rfl)
    clear hL hC hok
    go_enter Try.func17, Try.ntmps17
    go_wp2_with fail
    refine (HR.out _).mono ?_
    rintro e w1 ⟨rfl, E1⟩
    go_wp2_with fail
    refine (HT.out _).mono ?_
    rintro e w2 ⟨rfl, rfl⟩
    go_wp2_with fail
    go_ret2
    rw [HL.out, HC.out]
    exact ⟨_, rfl, World.ownsRow_nil _ _ _ _, HE0.out.trans E1⟩
  · have HL := Lib.hid (show L = keysB (rowKeys t r) by rw [hL]; rfl)
    have HC := Lib.hid (show Cc = 0 by rw [hC]; rfl)
    have HB := Lib.hid (fun W => impl_rowBytes t r W (hok rfl rfl))
    clear hL hC hok
    go_enter Try.func17, Try.ntmps17
    go_wp2_with fail
    refine (HR.out _).mono ?_
    rintro e w1 ⟨rfl, E1⟩
    go_wp2_with fail
    refine (HT.out _).mono ?_
    rintro e w2 ⟨rfl, rfl⟩
    have HE1 := Lib.hid (HE0.out.trans E1)
    obtain ⟨x0, x1, x2, x3, x4, x5, x6⟩ := (HX.out.ext E1).cells7
    clear E1
    go_wp2_with fail
    refine (HB.out _).mono ?_
    rintro e w2 ⟨v, rfl, O2, E2⟩
    go_wp2_with fail
    go_ret2
    rw [HL.out, HC.out]
    exact ⟨_, rfl, own_base O2 HE1.out.le, HE1.out.trans E2⟩
set_option maxHeartbeats 2000000 in
theorem spec_l07Bytes (t : Int) (r : CRow) (w : World) (hok : ∀ x ∈ rowKeys t r, okV x = true) :
    Calls Try.prog 65 #[.int .i64 t, .agg #[.int .i64 r.id, .int .i64 r.p.a, .int .i64 r.p.b, .string r.p.c, .int .i64 r.q.a, .int .i64 r.q.b, .string r.q.c]] w fun e w' => e = .returned (.string ⟨(keysB (rowKeys t r)).toArray⟩) ∧ Ext w w' := by
  have HX := Lib.hid (Blk.new w 32 [.int .i64 r.id, .int .i64 r.p.a, .int .i64 r.p.b, .string r.p.c, .int .i64 r.q.a, .int .i64 r.q.b, .string r.q.c])
  have HE0 := Lib.hid (show Ext w ((w.alloc (.cells #[.int .i64 r.id, .int .i64 r.p.a, .int .i64 r.p.b, .string r.p.c, .int .i64 r.q.a, .int .i64 r.q.b, .string r.q.c] 32)).alloc (.cells #[.int .i64 1, .int .i64 t, .string ByteArray.empty, .int .i64 1, .int .i64 r.id, .string ByteArray.empty, .int .i64 r.p.a, .int .i64 r.p.b, .string r.p.c, .int .i64 r.q.a, .int .i64 r.q.b, .string r.q.c] 30)) from (by repeat (first | exact Ext.refl _ | assumption | refine Ext.alloc ?_ _ | refine Ext.drewN ?_ _ | refine Ext.drew ?_ | refine Ext.set ?_ (by dsimp only; omega) _ | refine Ext.trans ?_ (by assumption))))
  have hS := Blk.new (w.alloc (.cells #[.int .i64 r.id, .int .i64 r.p.a, .int .i64 r.p.b, .string r.p.c, .int .i64 r.q.a, .int .i64 r.q.b, .string r.q.c] 32)) 30 [.int .i64 1, .int .i64 t, .string ByteArray.empty, .int .i64 1, .int .i64 r.id, .string ByteArray.empty, .int .i64 r.p.a, .int .i64 r.p.b, .string r.p.c, .int .i64 r.q.a, .int .i64 r.q.b, .string r.q.c]
  rw [World.size_alloc] at hS
  have HK := Lib.hid (spec_l01Keys (some ⟨w.heap.size + 1, 0, none⟩) 4 4 (rowKeys t r) _ rfl (by omega) hok hS.rd)
  generalize keysB (rowKeys t r) = F at HK ⊢
  clear hok hS
  go_enter Try.func65, Try.ntmps65
  go_wp2_with fail
  refine HK.out.mono ?_
  rintro e w1 ⟨v1, rfl, O1, E1⟩
  obtain ⟨A1, c1, rfl, R1, _, _⟩ := own_rd O1
  have hcv := run_text (P := Try.prog) (src := 27) (dst := 9) Try.underlying27 Try.underlying5 Try.underlying9 w1 A1 F.length c1 F rfl R1
  have HE1 := Lib.hid (HE0.out.trans E1)
  clear O1 R1 E1
  go_wp2_with fail
  go_ret
  exact ⟨rfl, HE1.out⟩
set_option maxHeartbeats 2000000 in
theorem spec_RowBytes (t : Int) (r : CRow) (w : World) (hp : r.p.c.size ≤ maxLen) (hq : r.q.c.size ≤ maxLen) :
    Calls Try.prog 15 #[.int .i64 t, .agg #[.int .i64 r.id, .int .i64 r.p.a, .int .i64 r.p.b, .string r.p.c, .int .i64 r.q.a, .int .i64 r.q.b, .string r.q.c]] w fun e w' => ∃ v, e = .returned (.tuple #[v, .int .i64 (rbC t r)]) ∧ Sl w' v (rbL t r) ∧ Ext w w' := by
  have hL : rbL t r = if rowB r = false then [] else if inB t 1 3 = false then [] else keysB (rowKeys t r) := rfl
  have hC : rbC t r = if rowB r = false then 1 else if inB t 1 3 = false then 4 else 0 := rfl
  have hok := fun (h1 : rowB r = true) (h2 : inB t 1 3 = true) => rowKeys_ok h1 h2
  have HR := Lib.hid (fun W => spec_l07Row r W hp hq)
  have HT := Lib.hid (fun W => spec_l01In t 1 3 W)
  have HX := Lib.hid (Blk.new w 32 [.int .i64 r.id, .int .i64 r.p.a, .int .i64 r.p.b, .string r.p.c, .int .i64 r.q.a, .int .i64 r.q.b, .string r.q.c])
  have HE0 := Lib.hid (show Ext w (w.alloc (.cells #[.int .i64 r.id, .int .i64 r.p.a, .int .i64 r.p.b, .string r.p.c, .int .i64 r.q.a, .int .i64 r.q.b, .string r.q.c] 32)) from (by repeat (first | exact Ext.refl _ | assumption | refine Ext.alloc ?_ _ | refine Ext.drewN ?_ _ | refine Ext.drew ?_ | refine Ext.set ?_ (by dsimp only; omega) _ | refine Ext.trans ?_ (by assumption))))
  generalize rbL t r = L at hL ⊢
  generalize rbC t r = Cc at hC ⊢
  generalize rowB r = b1 at hL hC hok HR
  generalize inB t 1 3 = b2 at hL hC hok HT
  rcases b1 with _ | _
  · have HL := Lib.hid (show L = [] by rw [hL]; rfl)
    have HC := Lib.hid (show Cc = 1 by rw [hC]; rfl)
    clear hL hC hok
    go_enter Try.func15, Try.ntmps15
    go_wp2_with fail
    refine (HR.out _).mono ?_
    rintro e w1 ⟨rfl, E1⟩
    go_wp2_with fail
    go_ret2
    rw [HL.out, HC.out]
    exact ⟨_, rfl, Sl.nil', (HE0.out.trans E1).alloc _⟩
  rcases b2 with _ | _
  · have HL := Lib.hid (show L = [] by rw [hL]; rfl)
    have HC := Lib.hid (show Cc = 4 by rw [hC]; rfl)
    clear hL hC hok
    go_enter Try.func15, Try.ntmps15
    go_wp2_with fail
    refine (HR.out _).mono ?_
    rintro e w1 ⟨rfl, E1⟩
    go_wp2_with fail
    refine (HT.out _).mono ?_
    rintro e w2 ⟨rfl, rfl⟩
    go_wp2_with fail
    go_ret2
    rw [HL.out, HC.out]
    exact ⟨_, rfl, Sl.nil', (HE0.out.trans E1).alloc _⟩
  · have HL := Lib.hid (show L = keysB (rowKeys t r) by rw [hL]; rfl)
    have HC := Lib.hid (show Cc = 0 by rw [hC]; rfl)
    have hB := fun W => spec_l07Bytes t r W (hok rfl rfl)
    obtain ⟨cf, bw, hcv, hRd, hEx⟩ := conv_bytesR (P := Try.prog) 9 27 5 (⟨(keysB (rowKeys t r)).toArray⟩ : ByteArray) Try.underlying9 Try.underlying27 Try.underlying5
    have hd : (⟨(keysB (rowKeys t r)).toArray⟩ : ByteArray).data.toList = keysB (rowKeys t r) := rfl
    generalize (⟨(keysB (rowKeys t r)).toArray⟩ : ByteArray) = s at hB hcv hRd hd
    have HB := Lib.hid hB
    have HRD := Lib.hid hRd
    have HEX := Lib.hid hEx
    have HD := Lib.hid hd
    clear hL hC hok hB hRd hEx hd
    go_enter Try.func15, Try.ntmps15
    go_wp2_with fail
    refine (HR.out _).mono ?_
    rintro e w1 ⟨rfl, E1⟩
    go_wp2_with fail
    refine (HT.out _).mono ?_
    rintro e w2 ⟨rfl, rfl⟩
    have HE1 := Lib.hid (HE0.out.trans E1)
    obtain ⟨x0, x1, x2, x3, x4, x5, x6⟩ := (HX.out.ext E1).cells7
    clear E1
    go_wp2_with fail
    refine (HB.out _).mono ?_
    rintro e w2 ⟨rfl, E2⟩
    go_wp2_with fail
    go_ret2
    rw [HL.out, HC.out, ← HD.out]
    exact ⟨_, rfl, Sl.mk' (by simp) (HRD.out _), HE1.out.trans (E2.trans (HEX.out _))⟩
end Go.Proofs.Ythfkfdfcgldbeaa
