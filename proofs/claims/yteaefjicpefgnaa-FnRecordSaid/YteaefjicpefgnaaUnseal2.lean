/- The walk of the reference's reader of sealed bytes. -/
import Derived.Test.YteaefjicpefgnaaUnseal
import Derived.Test.YteaefjicpefgnaaRg
namespace Go.Proofs.Yteaefjicpefgnaa
open Go.RowKit Go.Deep
set_option linter.unusedVariables false
set_option maxRecDepth 100000
/-- '[]byte(t)', the capacity and the world behind names -/
theorem conv_bytes {P : Program} (src dst e : TypeId) (s : ByteArray) {u : TypeDesc} (hs : P.underlying src = some u) (hd : P.underlying dst = some (.slice e)) (he : P.underlying e = some (.int .u8)) :
    ∃ (cf : World → Nat) (bw : World → World), (∀ W, (convert src dst (.string s)).run P W = .ok (.slice (some ⟨W.heap.size, 0, none⟩) s.size (cf W)) (bw W)) ∧ (∀ W, Rd (bw W) (some ⟨W.heap.size, 0, none⟩) (s.data.toList.map fun c => Value.int .u8 (c.toNat : Int))) ∧ ∀ W, Ext W (bw W) :=
  ⟨fun W => grownCap W s.size 0 e, fun W => Lib.bytesWorld W e s, fun W => Lib.run_convert_string_bytes W src dst e s hs hd he, fun W => bytesWorld_rd W e s, fun W => bytesWorld_ext W e s⟩
set_option maxHeartbeats 1000000 in
theorem spec_l03Unseal (s : ByteArray) (w : World) (h4 : 4 ≤ s.size) (hn : s.size ≤ 1099511627776) :
    Calls Try.prog 80 #[.string s] w fun e w' => e = .returned (if sealB? s.data.toList then .tuple #[.string (s.extract 0 (s.size - 4)), .bool true] else .tuple #[.string ByteArray.empty, .bool false]) ∧ Ext w w' := by
  have hd : decide ((s.size : Int) - 4 < 0) = false := decide_eq_false (by omega)
  have hA : (4 : Int) ≤ (s.size : Int) := by omega
  have hBn : (s.size : Int) - 4 ≤ (s.size : Int) := by omega
  have hT : ((s.size : Int) - 4).toNat = s.size - 4 := by omega
  obtain ⟨X, hX⟩ : ∃ X, s.extract 0 (s.size - 4) = X := ⟨_, rfl⟩
  obtain ⟨Y, hY⟩ : ∃ Y, s.extract (s.size - 4) s.size = Y := ⟨_, rfl⟩
  have hz : X.size ≤ 1099511627776 := by rw [← hX]; simp; omega
  have hz2 : Y.size ≤ 4 := by rw [← hY]; simp; omega
  have hs : sealB? s.data.toList = (crc X.data.toList == bigN Y.data.toList) := by
    unfold sealB?; rw [← hX, ← hY, ext_take, ext_drop]; simp [h4]
  rw [hs, hX]
  clear hs
  obtain ⟨cf, bw, hcv, hrd, hxt⟩ := conv_bytes (P := Try.prog) 9 22 5 X Try.underlying9 Try.underlying22 Try.underlying5
  have hC := fun W W' c (e : Ext (bw W) W') => spec_check (some ⟨W.heap.size, 0, none⟩) X.size c X.data.toList W' rfl hz ((hrd W).ext e)
  have hO := fun W => spec_l01Of Y W hz2
  have hq := crc_lt X.data.toList
  have hq2 := bigN_lt4 Y.data.toList (by simpa using hz2)
  generalize crc X.data.toList = q at hC hq ⊢
  generalize bigN Y.data.toList = z at hO hq2 ⊢
  have HC := Lib.hid hC
  have HO := Lib.hid hO
  have HXT := Lib.hid hxt
  clear hC hO hz hz2 hrd hxt
  by_cases hqz : q = z
  · have hqI : ((q : Int) != (z : Int)) = false := by rw [hqz]; simp
    rw [if_pos (by rw [hqz]; simp)]
    clear hqz
    go_enter Try.func80, Try.ntmps80
    go_wp2_with fail
    refine rg_start (by kernel_rfl) (Ext.refl w) (fun hE0 => ?_)
    (refine rg_take (v := ?_) 0 rfl (by kernel_rfl) (by kernel_rfl) (by kernel_rfl) (fun _ _ _ h => h) (by rfl) (by assumption) (fun W hW => ?_) ?_; rotate_left; (focus (go_simp; try with_reducible rfl)); (try simp only [List.setIfInBounds_toArray, List.set_cons_succ, List.set_cons_zero]))
    (refine rg_take (v := ?_) 1 rfl (by kernel_rfl) (by kernel_rfl) (by kernel_rfl) (fun _ _ _ h => h) (by rfl) (by assumption) (fun W hW => ?_) ?_; rotate_left; (focus (go_simp; try with_reducible rfl)); (try simp only [List.setIfInBounds_toArray, List.set_cons_succ, List.set_cons_zero]))
    (refine rg_take (v := ?_) 2 rfl (by kernel_rfl) (by kernel_rfl) (by kernel_rfl) (fun _ _ _ h => h) (by rfl) (by assumption) (fun W hW => ?_) ?_; rotate_left; (focus (go_simp; try with_reducible rfl)); (try simp only [List.setIfInBounds_toArray, List.set_cons_succ, List.set_cons_zero]))
    (refine rg_take (v := ?_) 3 rfl (by kernel_rfl) (by kernel_rfl) (by kernel_rfl) (fun _ _ _ h => h) (by rfl) (by assumption) (fun W hW => ?_) ?_; rotate_left; (focus (go_simp; try with_reducible rfl)); (try simp only [List.setIfInBounds_toArray, List.set_cons_succ, List.set_cons_zero]))
    (refine rg_take (v := ?_) 4 rfl (by kernel_rfl) (by kernel_rfl) (by kernel_rfl) (fun _ _ _ h => h) (by rfl) (by assumption) (fun W hW => ?_) ?_; rotate_left; (focus (go_simp; try with_reducible rfl)); (try simp only [List.setIfInBounds_toArray, List.set_cons_succ, List.set_cons_zero]))
    (refine rg_take (v := ?_) 5 rfl (by kernel_rfl) (by kernel_rfl) (by kernel_rfl) (fun _ _ _ h => h) (by rfl) (by assumption) (fun W hW => ?_) ?_; rotate_left; (focus (go_simp; try with_reducible rfl)); (try simp only [List.setIfInBounds_toArray, List.set_cons_succ, List.set_cons_zero]))
    (refine rg_take (v := ?_) 8 rfl (by kernel_rfl) (by kernel_rfl) (by kernel_rfl) (fun _ _ _ h => h) (by rfl) (by assumption) (fun W hW => ?_) ?_; rotate_left; (focus (go_simp; try with_reducible rfl)); (try simp only [List.setIfInBounds_toArray, List.set_cons_succ, List.set_cons_zero]))
    (refine rg_take (v := ?_) 9 rfl (by kernel_rfl) (by kernel_rfl) (by kernel_rfl) (fun _ _ _ h => h) (by rfl) (by assumption) (fun W hW => ?_) ?_; rotate_left; (focus (go_simp; try with_reducible rfl)); (try simp only [List.setIfInBounds_toArray, List.set_cons_succ, List.set_cons_zero]))
    (refine rg_take (v := ?_) 10 rfl (by kernel_rfl) (by kernel_rfl) (by kernel_rfl) (fun _ _ _ h => h) (by rfl) (by assumption) (fun W hW => ?_) ?_; rotate_left; (focus (go_simp; try with_reducible rfl)); (try simp only [List.setIfInBounds_toArray, List.set_cons_succ, List.set_cons_zero]))
    (refine rg_one 6 (by kernel_rfl) rfl (by rfl) (fun K hK => ?_); go_simp)
    refine hK _ _ (hE0.trans (HXT.out _)) (fun hE1 => ?_)
    clear hK K
    (refine rg_one 7 (by kernel_rfl) rfl (by rfl) (fun K hK => ?_); go_simp)
    refine (HC.out w.drew _ _ (Ext.refl _)).mono ?_
    rintro e w' ⟨rfl, rfl⟩
    refine hK _ _ hE1 (fun _ => ?_)
    clear hK K
    try simp only [List.setIfInBounds_toArray, List.set_cons_succ, List.set_cons_zero]
    (refine rg_one 11 (by kernel_rfl) rfl (by rfl) (fun K hK => ?_); go_simp)
    refine (HO.out _).mono ?_
    rintro e w' ⟨rfl, rfl⟩
    refine hK _ _ hE1 (fun _ => ?_)
    clear hK K
    try simp only [List.setIfInBounds_toArray, List.set_cons_succ, List.set_cons_zero]
    (refine rg_take (v := ?_) 12 rfl (by kernel_rfl) (by kernel_rfl) (by kernel_rfl) (fun _ _ _ h => h) (by rfl) (by assumption) (fun W hW => ?_) ?_; rotate_left; (focus (go_simp; try with_reducible rfl)); (try simp only [List.setIfInBounds_toArray, List.set_cons_succ, List.set_cons_zero]))
    (refine rg_take (v := ?_) 13 rfl (by kernel_rfl) (by kernel_rfl) (by kernel_rfl) (fun _ _ _ h => h) (by rfl) (by assumption) (fun W hW => ?_) ?_; rotate_left; (focus (go_simp; try with_reducible rfl)); (try simp only [List.setIfInBounds_toArray, List.set_cons_succ, List.set_cons_zero]))
    refine rg_done (by kernel_rfl) ?_
    go_wp2_with fail
    go_ret2
    exact ⟨rfl, hE1⟩
  · have hqI : ((q : Int) != (z : Int)) = true := by rw [bne_iff_ne]; omega
    rw [if_neg (by simp [hqz])]
    clear hqz
    go_enter Try.func80, Try.ntmps80
    go_wp2_with fail
    refine rg_start (by kernel_rfl) (Ext.refl w) (fun hE0 => ?_)
    (refine rg_take (v := ?_) 0 rfl (by kernel_rfl) (by kernel_rfl) (by kernel_rfl) (fun _ _ _ h => h) (by rfl) (by assumption) (fun W hW => ?_) ?_; rotate_left; (focus (go_simp; try with_reducible rfl)); (try simp only [List.setIfInBounds_toArray, List.set_cons_succ, List.set_cons_zero]))
    (refine rg_take (v := ?_) 1 rfl (by kernel_rfl) (by kernel_rfl) (by kernel_rfl) (fun _ _ _ h => h) (by rfl) (by assumption) (fun W hW => ?_) ?_; rotate_left; (focus (go_simp; try with_reducible rfl)); (try simp only [List.setIfInBounds_toArray, List.set_cons_succ, List.set_cons_zero]))
    (refine rg_take (v := ?_) 2 rfl (by kernel_rfl) (by kernel_rfl) (by kernel_rfl) (fun _ _ _ h => h) (by rfl) (by assumption) (fun W hW => ?_) ?_; rotate_left; (focus (go_simp; try with_reducible rfl)); (try simp only [List.setIfInBounds_toArray, List.set_cons_succ, List.set_cons_zero]))
    (refine rg_take (v := ?_) 3 rfl (by kernel_rfl) (by kernel_rfl) (by kernel_rfl) (fun _ _ _ h => h) (by rfl) (by assumption) (fun W hW => ?_) ?_; rotate_left; (focus (go_simp; try with_reducible rfl)); (try simp only [List.setIfInBounds_toArray, List.set_cons_succ, List.set_cons_zero]))
    (refine rg_take (v := ?_) 4 rfl (by kernel_rfl) (by kernel_rfl) (by kernel_rfl) (fun _ _ _ h => h) (by rfl) (by assumption) (fun W hW => ?_) ?_; rotate_left; (focus (go_simp; try with_reducible rfl)); (try simp only [List.setIfInBounds_toArray, List.set_cons_succ, List.set_cons_zero]))
    (refine rg_take (v := ?_) 5 rfl (by kernel_rfl) (by kernel_rfl) (by kernel_rfl) (fun _ _ _ h => h) (by rfl) (by assumption) (fun W hW => ?_) ?_; rotate_left; (focus (go_simp; try with_reducible rfl)); (try simp only [List.setIfInBounds_toArray, List.set_cons_succ, List.set_cons_zero]))
    (refine rg_take (v := ?_) 8 rfl (by kernel_rfl) (by kernel_rfl) (by kernel_rfl) (fun _ _ _ h => h) (by rfl) (by assumption) (fun W hW => ?_) ?_; rotate_left; (focus (go_simp; try with_reducible rfl)); (try simp only [List.setIfInBounds_toArray, List.set_cons_succ, List.set_cons_zero]))
    (refine rg_take (v := ?_) 9 rfl (by kernel_rfl) (by kernel_rfl) (by kernel_rfl) (fun _ _ _ h => h) (by rfl) (by assumption) (fun W hW => ?_) ?_; rotate_left; (focus (go_simp; try with_reducible rfl)); (try simp only [List.setIfInBounds_toArray, List.set_cons_succ, List.set_cons_zero]))
    (refine rg_take (v := ?_) 10 rfl (by kernel_rfl) (by kernel_rfl) (by kernel_rfl) (fun _ _ _ h => h) (by rfl) (by assumption) (fun W hW => ?_) ?_; rotate_left; (focus (go_simp; try with_reducible rfl)); (try simp only [List.setIfInBounds_toArray, List.set_cons_succ, List.set_cons_zero]))
    (refine rg_one 6 (by kernel_rfl) rfl (by rfl) (fun K hK => ?_); go_simp)
    refine hK _ _ (hE0.trans (HXT.out _)) (fun hE1 => ?_)
    clear hK K
    (refine rg_one 7 (by kernel_rfl) rfl (by rfl) (fun K hK => ?_); go_simp)
    refine (HC.out w.drew _ _ (Ext.refl _)).mono ?_
    rintro e w' ⟨rfl, rfl⟩
    refine hK _ _ hE1 (fun _ => ?_)
    clear hK K
    try simp only [List.setIfInBounds_toArray, List.set_cons_succ, List.set_cons_zero]
    (refine rg_one 11 (by kernel_rfl) rfl (by rfl) (fun K hK => ?_); go_simp)
    refine (HO.out _).mono ?_
    rintro e w' ⟨rfl, rfl⟩
    refine hK _ _ hE1 (fun _ => ?_)
    clear hK K
    try simp only [List.setIfInBounds_toArray, List.set_cons_succ, List.set_cons_zero]
    (refine rg_take (v := ?_) 12 rfl (by kernel_rfl) (by kernel_rfl) (by kernel_rfl) (fun _ _ _ h => h) (by rfl) (by assumption) (fun W hW => ?_) ?_; rotate_left; (focus (go_simp; try with_reducible rfl)); (try simp only [List.setIfInBounds_toArray, List.set_cons_succ, List.set_cons_zero]))
    (refine rg_take (v := ?_) 13 rfl (by kernel_rfl) (by kernel_rfl) (by kernel_rfl) (fun _ _ _ h => h) (by rfl) (by assumption) (fun W hW => ?_) ?_; rotate_left; (focus (go_simp; try with_reducible rfl)); (try simp only [List.setIfInBounds_toArray, List.set_cons_succ, List.set_cons_zero]))
    refine rg_done (by kernel_rfl) ?_
    go_wp2_with fail
    go_ret2
    exact ⟨rfl, hE1⟩
/-- too short to be sealed -/
theorem spec_l03Unseal_short (s : ByteArray) (w : World) (h4 : s.size < 4) :
    Calls Try.prog 80 #[.string s] w fun e w' => e = .returned (.tuple #[.string ByteArray.empty, .bool false]) ∧ Ext w w' := by
  have hd : decide ((s.size : Int) - 4 < 0) = true := decide_eq_true (by omega)
  have hd2 : (s.size : Int) - 4 < 0 := by omega
  go_enter Try.func80, Try.ntmps80
  go_wp2_with fail
  go_quiet (fail)
  go_wp2_with fail
  go_ret2
  exact ⟨rfl, (Ext.refl _).drewN _⟩
end Go.Proofs.Yteaefjicpefgnaa
