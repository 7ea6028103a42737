/- A value's text: the walks of both sides of ValueText. -/
import Derived.Test.YthfkfdfcgldbeaaDoorConv
import Derived.Test.YthfkfdfcgldbeaaDoorValue
import Derived.Test.YthfkfdfcgldbeaaDoorRg
import Derived.Shelf.Lay
import Derived.Shelf.Strconv.Itoa3
import Derived.Ground.NamesProg
import Derived.Lib.LaidTab
import Derived.WalkSmall
import Derived.Test.YthfkfdfcgldbeaaDoorShItoa
namespace Go.Proofs.YthfkfdfcgldbeaaDoor
open Go.RowKit Go.Deep
set_option linter.unusedVariables false
set_option maxRecDepth 100000
def digS (n : Int) : ByteArray := ⟨(Lib.itoa n).toArray⟩
theorem digS_small {u : Nat} (h : u < 10) : digS (u : Int) = ⟨#[UInt8.ofNat (48 + u)]⟩ := by
  unfold digS Lib.itoa
  rw [if_neg (by omega), Int.toNat_natCast, Lib.decDigits, dif_pos h]
theorem digS_step {u : Nat} (h : 10 ≤ u) : digS (u : Int) = digS ((u / 10 : Nat) : Int) ++ ⟨#[UInt8.ofNat (48 + u % 10)]⟩ := by
  unfold digS Lib.itoa
  rw [if_neg (by omega), if_neg (by omega), Int.toNat_natCast, Int.toNat_natCast, Lib.decDigits, dif_neg (by omega)]
  apply ByteArray.ext
  simp
theorem digS_size (u : Nat) : (digS (u : Int)).size ≤ u + 1 := by
  induction u using Nat.strongRecOn with
  | ind u ih =>
    by_cases h : u < 10
    · rw [digS_small h]; show 1 ≤ u + 1; omega
    · rw [digS_step (by omega), ByteArray.size_append]
      have := ih (u / 10) (by omega)
      have e : (⟨#[UInt8.ofNat (48 + u % 10)]⟩ : ByteArray).size = 1 := rfl
      omega
theorem digS_neg {n : Int} (h : n < 0) : digS n = (⟨#[45]⟩ : ByteArray) ++ digS (-n) := by
  unfold digS Lib.itoa
  rw [if_pos h, if_neg (by omega), show (-n).toNat = n.natAbs by omega]
  apply ByteArray.ext
  simp
/-- the table of powers of ten -/
def Tab (w : World) : Prop := Lib.TabIs Tryd.prog w "internal/strconv.uint64pow10" .u64 Lib.pow10Tab
theorem gPow : Tryd.prog.globalNamed "internal/strconv.uint64pow10" = some 0 := by kernel_rfl
theorem Tab.ext {w w' : World} (h : Tab w) (E : Ext w w') (hp : 0 < w.heap.size) : Tab w' := var?_below E gPow hp h
theorem impl_Itoa (n : Int) (h0 : -1000000000 ≤ n) (h1 : n ≤ 1000000000) (w : World) (hT : Tab w) : Calls Tryd.prog 16 #[.int .i64 n] w fun e w' => e = .returned (.string (digS n)) ∧ Ext w w' := by
  refine Calls.mono (Any.strconv_Itoa Tryd.laysItoa n (by omega) (by omega) w hT) ?_
  rintro e w' ⟨rfl, k, os, rfl⟩
  refine ⟨rfl, ?_⟩
  have h := ((Ext.refl w).drewN k)
  exact ⟨h.os, h.tape, h.output, by rw [Sort.size_grow]; exact Nat.le_trans h.size (Nat.le_add_right _ _), fun j hj => (Sort.heap_grow_old _ _ (Nat.lt_of_lt_of_le hj h.size)).trans (h.block j hj)⟩
theorem dig_text (c : UInt8) (x : Int) (hx : x = (c.toNat : Int)) (w W : World) (E : Ext (w.alloc (.cells #[.int .u8 x] 5)) W) : (convert 36 9 (.slice (some ⟨w.heap.size, 0, none⟩) 1 1)).run Tryd.prog W = .ok (.string ⟨#[c]⟩) W := by
  subst hx
  have h := ((Blk.new w 5 [.int .u8 (c.toNat : Int)]).ext E).rd
  refine run_text Tryd.underlying36 Tryd.underlying5 Tryd.underlying9 _ (some ⟨w.heap.size, 0, none⟩) 1 1 [c] rfl ?_
  simpa using h
set_option maxHeartbeats 4000000 in
theorem spec_digits (u : Nat) : ∀ w : World, u ≤ 1000000000 → Calls Tryd.prog 13 #[.int .i64 (u : Int)] w fun e w' => e = .returned (.string (digS (u : Int))) ∧ Ext w w' := by
  induction u using Nat.strongRecOn with
  | ind u ih =>
  intro w hu
  have hm : ((u : Int) == -9223372036854775808) = false := by rw [beq_eq_false_iff_ne]; omega
  have hn : ¬ (u : Int) < 0 := by omega
  have huI : (u : Int) ≤ 1000000000 := by omega
  by_cases h10 : u < 10
  · have h10I : (u : Int) < 10 := by omega
    rw [digS_small h10]
    generalize hcc : UInt8.ofNat (48 + u) = c
    have HCC := Lib.hid hcc
    clear hcc
    have hcv := dig_text c (48 + (u : Int)) (by rw [← HCC.out]; simp; omega) w _ (Ext.refl _)
    clear ih
    go_enter Tryd.func13, Tryd.ntmps13
    go_wp2_with fail
    go_ret
    exact ⟨rfl, (by repeat (first | exact Ext.refl _ | assumption | refine Ext.alloc ?_ _ | refine Ext.drewN ?_ _ | refine Ext.drew ?_ | refine Ext.set ?_ (by dsimp only; omega) _ | refine Ext.trans ?_ (by assumption)))⟩
  have h10I : ¬ (u : Int) < 10 := by omega
  rw [digS_step (by omega)]
  have HIH := Lib.hid (fun W => ih (u / 10) (by omega) W (by omega))
  have hwq : (u : Int).tdiv 10 = ((u / 10 : Nat) : Int) := by rw [Int.tdiv_eq_ediv_of_nonneg (by omega)]; omega
  have hwr : (u : Int).tmod 10 = ((u % 10 : Nat) : Int) := by rw [Int.tmod_eq_emod_of_nonneg (by omega)]; omega
  generalize hq : u / 10 = q at hwq HIH ⊢
  generalize hr : u % 10 = r at hwr ⊢
  have hr10 : r < 10 := by omega
  generalize hcc : UInt8.ofNat (48 + r) = c
  have HCC := Lib.hid (show 48 + (r : Int) = (c.toNat : Int) by rw [← hcc]; simp; omega)
  have hsz := digS_size q
  have hsz2 : ¬ 9223372036854775807 < (digS (q : Int)).size + 1 := by omega
  clear hcc
  have hqI : (q : Int) ≤ 1000000000 := by omega
  have hrI : (r : Int) < 10 := by omega
  have hw1 : IntKind.i64.wrap (q : Int) = (q : Int) := IntWalk.i64_in _ (by omega)
  have hw2 : IntKind.i64.wrap (r : Int) = (r : Int) := IntWalk.i64_in _ (by omega)
  have hw3 : IntKind.i64.wrap (48 + (r : Int)) = 48 + (r : Int) := IntWalk.i64_in _ (by omega)
  have hw4 : IntKind.u8.wrap (48 + (r : Int)) = 48 + (r : Int) := by show (48 + (r : Int)) % 256 = _; omega
  clear ih hq hr
  go_enter Tryd.func13, Tryd.ntmps13
  go_wp2_with fail
  refine rg_start (by kernel_rfl) (Ext.refl w) (fun hE0 => ?_)
  (refine rg_take (v := ?_) 0 rfl (by kernel_rfl) (by kernel_rfl) (by kernel_rfl) (fun _ _ _ h => h) (by rfl) (by assumption) (fun W hW => ?_) ?_; rotate_left; (focus (go_simp; try with_reducible rfl)); (try simp only [List.setIfInBounds_toArray, List.set_cons_succ, List.set_cons_zero]))
  (refine rg_take (v := ?_) 1 rfl (by kernel_rfl) (by kernel_rfl) (by kernel_rfl) (fun _ _ _ h => h) (by rfl) (by assumption) (fun W hW => ?_) ?_; rotate_left; (focus (go_simp; try with_reducible rfl)); (try simp only [List.setIfInBounds_toArray, List.set_cons_succ, List.set_cons_zero]))
  (refine rg_take (v := ?_) 3 rfl (by kernel_rfl) (by kernel_rfl) (by kernel_rfl) (fun _ _ _ h => h) (by rfl) (by assumption) (fun W hW => ?_) ?_; rotate_left; (focus (go_simp; try with_reducible rfl)); (try simp only [List.setIfInBounds_toArray, List.set_cons_succ, List.set_cons_zero]))
  (refine rg_take (v := ?_) 4 rfl (by kernel_rfl) (by kernel_rfl) (by kernel_rfl) (fun _ _ _ h => h) (by rfl) (by assumption) (fun W hW => ?_) ?_; rotate_left; (focus (go_simp; try with_reducible rfl)); (try simp only [List.setIfInBounds_toArray, List.set_cons_succ, List.set_cons_zero]))
  (refine rg_take (v := ?_) 5 rfl (by kernel_rfl) (by kernel_rfl) (by kernel_rfl) (fun _ _ _ h => h) (by rfl) (by assumption) (fun W hW => ?_) ?_; rotate_left; (focus (go_simp; try with_reducible rfl)); (try simp only [List.setIfInBounds_toArray, List.set_cons_succ, List.set_cons_zero]))
  (refine rg_take (v := ?_) 6 rfl (by kernel_rfl) (by kernel_rfl) (by kernel_rfl) (fun _ _ _ h => h) (by rfl) (by assumption) (fun W hW => ?_) ?_; rotate_left; (focus (go_simp; try with_reducible rfl)); (try simp only [List.setIfInBounds_toArray, List.set_cons_succ, List.set_cons_zero]))
  refine rg_two 2 7 (by kernel_rfl) rfl (by rfl) rfl (by rfl) (fun K hK => ?_) (fun K hK => ?_)
  · go_simp
    refine (HIH.out _).mono ?_
    rintro e w1 ⟨rfl, E1⟩
    refine hK _ _ (hE0.trans E1) (fun hE1 => ?_)
    clear hK K
    try simp only [List.setIfInBounds_toArray, List.set_cons_succ, List.set_cons_zero]
    (refine rg_one 7 (by kernel_rfl) rfl (by rfl) (fun K hK => ?_); go_simp)
    refine hK _ _ (hE1.alloc _) (fun hE2 => ?_)
    clear hK K
    try simp only [List.setIfInBounds_toArray, List.set_cons_succ, List.set_cons_zero]
    have hcv := dig_text c (48 + (r : Int)) HCC.out w1 _ (Ext.refl _)
    (refine rg_one 8 (by kernel_rfl) rfl (by rfl) (fun K hK => ?_); go_simp)
    refine hK _ _ hE2 (fun hE2 => ?_)
    clear hK K
    try simp only [List.setIfInBounds_toArray, List.set_cons_succ, List.set_cons_zero]
    (refine rg_take (v := ?_) 9 rfl (by kernel_rfl) (by kernel_rfl) (by kernel_rfl) (fun _ _ _ h => h) (by rfl) (by assumption) (fun W hW => ?_) ?_; rotate_left; (focus (go_simp; try with_reducible rfl)); (try simp only [List.setIfInBounds_toArray, List.set_cons_succ, List.set_cons_zero]))
    (refine rg_take (v := ?_) 10 rfl (by kernel_rfl) (by kernel_rfl) (by kernel_rfl) (fun _ _ _ h => h) (by rfl) (by assumption) (fun W hW => ?_) ?_; rotate_left; (focus (go_simp; try with_reducible rfl)); (try simp only [List.setIfInBounds_toArray, List.set_cons_succ, List.set_cons_zero]))
    refine rg_done (by kernel_rfl) ?_
    go_wp2_with fail
    go_ret
    exact ⟨rfl, hE2⟩
  · go_simp
    refine hK _ _ (hE0.alloc _) (fun hE1 => ?_)
    clear hK K
    try simp only [List.setIfInBounds_toArray, List.set_cons_succ, List.set_cons_zero]
    refine rg_two 2 8 (by kernel_rfl) rfl (by rfl) rfl (by rfl) (fun K hK => ?_) (fun K hK => ?_)
    · go_simp
      refine (HIH.out _).mono ?_
      rintro e w1 ⟨rfl, E1⟩
      refine hK _ _ (hE1.trans E1) (fun hE2 => ?_)
      clear hK K
      try simp only [List.setIfInBounds_toArray, List.set_cons_succ, List.set_cons_zero]
      have hcv := dig_text c (48 + (r : Int)) HCC.out w w1 ((Ext.refl _).drew.trans E1)
      (refine rg_one 8 (by kernel_rfl) rfl (by rfl) (fun K hK => ?_); go_simp)
      refine hK _ _ hE2 (fun hE2 => ?_)
      clear hK K
      try simp only [List.setIfInBounds_toArray, List.set_cons_succ, List.set_cons_zero]
      (refine rg_take (v := ?_) 9 rfl (by kernel_rfl) (by kernel_rfl) (by kernel_rfl) (fun _ _ _ h => h) (by rfl) (by assumption) (fun W hW => ?_) ?_; rotate_left; (focus (go_simp; try with_reducible rfl)); (try simp only [List.setIfInBounds_toArray, List.set_cons_succ, List.set_cons_zero]))
      (refine rg_take (v := ?_) 10 rfl (by kernel_rfl) (by kernel_rfl) (by kernel_rfl) (fun _ _ _ h => h) (by rfl) (by assumption) (fun W hW => ?_) ?_; rotate_left; (focus (go_simp; try with_reducible rfl)); (try simp only [List.setIfInBounds_toArray, List.set_cons_succ, List.set_cons_zero]))
      refine rg_done (by kernel_rfl) ?_
      go_wp2_with fail
      go_ret
      exact ⟨rfl, hE2⟩
    · have hcv := dig_text c (48 + (r : Int)) HCC.out w _ (Ext.refl _).drew
      go_simp
      refine hK _ _ hE1 (fun hE1 => ?_)
      clear hK K
      try simp only [List.setIfInBounds_toArray, List.set_cons_succ, List.set_cons_zero]
      (refine rg_one 2 (by kernel_rfl) rfl (by rfl) (fun K hK => ?_); go_simp)
      refine (HIH.out _).mono ?_
      rintro e w1 ⟨rfl, E1⟩
      refine hK _ _ (hE1.trans E1) (fun hE2 => ?_)
      clear hK K
      try simp only [List.setIfInBounds_toArray, List.set_cons_succ, List.set_cons_zero]
      (refine rg_take (v := ?_) 9 rfl (by kernel_rfl) (by kernel_rfl) (by kernel_rfl) (fun _ _ _ h => h) (by rfl) (by assumption) (fun W hW => ?_) ?_; rotate_left; (focus (go_simp; try with_reducible rfl)); (try simp only [List.setIfInBounds_toArray, List.set_cons_succ, List.set_cons_zero]))
      (refine rg_take (v := ?_) 10 rfl (by kernel_rfl) (by kernel_rfl) (by kernel_rfl) (fun _ _ _ h => h) (by rfl) (by assumption) (fun W hW => ?_) ?_; rotate_left; (focus (go_simp; try with_reducible rfl)); (try simp only [List.setIfInBounds_toArray, List.set_cons_succ, List.set_cons_zero]))
      refine rg_done (by kernel_rfl) ?_
      go_wp2_with fail
      go_ret
      exact ⟨rfl, hE2⟩
set_option maxHeartbeats 2000000 in
theorem spec_l00Digits (n : Int) (h0 : -1000000000 ≤ n) (h1 : n ≤ 1000000000) (w : World) : Calls Tryd.prog 13 #[.int .i64 n] w fun e w' => e = .returned (.string (digS n)) ∧ Ext w w' := by
  rcases Int.lt_or_le n 0 with hn | hn
  · rw [digS_neg hn]
    obtain ⟨u, hu⟩ : ∃ u : Nat, -n = (u : Int) := ⟨n.natAbs, by omega⟩
    obtain rfl : n = -(u : Int) := by omega
    rw [show -(-(u : Int)) = (u : Int) by omega]
    have hm : (-(u : Int) == -9223372036854775808) = false := by rw [beq_eq_false_iff_ne]; omega
    have hsz := digS_size u
    have hsz2 : ¬ 9223372036854775807 < 1 + (digS (u : Int)).size := by omega
    have HD := Lib.hid (fun W => spec_digits u W (by omega))
    clear hu
    go_enter Tryd.func13, Tryd.ntmps13
    go_wp2_with fail
    refine (HD.out _).mono ?_
    rintro e w1 ⟨rfl, E1⟩
    go_wp2_with fail
    go_ret
    exact ⟨rfl, E1⟩
  · obtain ⟨u, rfl⟩ : ∃ u : Nat, n = (u : Int) := ⟨n.toNat, by omega⟩
    exact spec_digits u w (by omega)
def txtV (k n : Int) (s : ByteArray) : ByteArray := if k = 0 then ⟨#[110, 117, 108, 108]⟩ else if k = 1 then digS n else ((⟨#[39]⟩ : ByteArray) ++ s) ++ ⟨#[39]⟩
theorem txtV_0 (n : Int) (s : ByteArray) : txtV 0 n s = ⟨#[110, 117, 108, 108]⟩ := rfl
theorem txtV_1 (n : Int) (s : ByteArray) : txtV 1 n s = digS n := rfl
theorem txtV_2 (n : Int) (s : ByteArray) : txtV 2 n s = ((⟨#[39]⟩ : ByteArray) ++ s) ++ ⟨#[39]⟩ := rfl
def vtS (k n : Int) (s : ByteArray) : ByteArray := if valB k n s = true then txtV k n s else ⟨#[]⟩
def vtC (k n : Int) (s : ByteArray) : Int := if valB k n s = true then 0 else 1
theorem valB_cases {k n : Int} {s : ByteArray} (h : valB k n s = true) : k = 0 ∨ (k = 1 ∧ -1000000000 ≤ n ∧ n ≤ 1000000000) ∨ (k = 2 ∧ s.size ≤ 10) := by
  unfold valB at h
  split at h
  · next h0 => exact .inl h0
  · split at h
    · next h1 => simp at h; exact .inr (.inl ⟨h1, h.1.1, h.1.2⟩)
    · split at h
      · next h2 =>
        unfold wordB at h
        simp at h
        exact .inr (.inr ⟨h2, h.2.2⟩)
      · cases h
set_option maxHeartbeats 2000000 in
theorem impl_text (k n : Int) (s : ByteArray) (w : World) (hv : valB k n s = true) (hT : Tab w) (hp : 0 < w.heap.size) : Calls Tryd.prog 11 #[.agg #[.int .i64 k, .int .i64 n, .string s]] w fun e w' => e = .returned (.string (txtV k n s)) ∧ Ext w w' := by
  have E0 : Ext w (w.alloc (.cells #[.int .i64 k, .int .i64 n, .string s] 27)) := (by repeat (first | exact Ext.refl _ | assumption | refine Ext.alloc ?_ _ | refine Ext.drewN ?_ _ | refine Ext.drew ?_ | refine Ext.set ?_ (by dsimp only; omega) _ | refine Ext.trans ?_ (by assumption)))
  rcases valB_cases hv with rfl | ⟨rfl, h0, h1⟩ | ⟨rfl, h10⟩
  · rw [txtV_0]
    clear hv
    go_enter Tryd.func11, Tryd.ntmps11
    go_wp2_with fail
    go_ret
    exact ⟨rfl, E0⟩
  · rw [txtV_1]
    have HD := Lib.hid (impl_Itoa n h0 h1 (w.alloc (.cells #[.int .i64 1, .int .i64 n, .string s] 27)) (hT.ext E0 hp))
    have HE0 := Lib.hid E0
    clear hv E0
    go_enter Tryd.func11, Tryd.ntmps11
    go_wp2_with fail
    refine HD.out.mono ?_
    rintro e w1 ⟨rfl, E1⟩
    go_wp2_with fail
    go_ret
    exact ⟨rfl, HE0.out.trans E1⟩
  · rw [txtV_2]
    have hs1 : ¬ 9223372036854775807 < 1 + s.size := by omega
    have hs2 : ¬ 9223372036854775807 < (1 + s.size) + 1 := by omega
    have hs3 : ¬ 9223372036854775807 < ((⟨#[39]⟩ : ByteArray) ++ s).size + 1 := by rw [ByteArray.size_append]; show ¬ 9223372036854775807 < 1 + s.size + 1; omega
    clear hv
    go_enter Tryd.func11, Tryd.ntmps11
    go_wp2_with fail
    go_ret
    exact ⟨rfl, E0⟩
set_option maxHeartbeats 2000000 in
theorem impl_ValueText (k n : Int) (s : ByteArray) (w : World) (hs : s.size ≤ maxLen) (hT : Tab w) (hp : 0 < w.heap.size) : Calls Tryd.prog 7 #[.agg #[.int .i64 k, .int .i64 n, .string s]] w fun e w' => e = .returned (.tuple #[.string (vtS k n s), .int .i64 (vtC k n s)]) ∧ Ext w w' := by
  have E0 : Ext w (w.alloc (.cells #[.int .i64 k, .int .i64 n, .string s] 27)) := (by repeat (first | exact Ext.refl _ | assumption | refine Ext.alloc ?_ _ | refine Ext.drewN ?_ _ | refine Ext.drew ?_ | refine Ext.set ?_ (by dsimp only; omega) _ | refine Ext.trans ?_ (by assumption)))
  have HB := Lib.hid (Blk.new w 27 [.int .i64 k, .int .i64 n, .string s])
  have HV := Lib.hid (impl_ValueOK k n s (w.alloc (.cells #[.int .i64 k, .int .i64 n, .string s] 27)) hs)
  have HE0 := Lib.hid E0
  unfold vtS vtC
  rcases hv : valB k n s with _ | _
  · rw [hv] at HV
    rw [if_neg (by decide), if_neg (by decide)]
    clear hv E0
    go_enter Tryd.func7, Tryd.ntmps7
    go_wp2_with fail
    refine HV.out.mono ?_
    rintro e w1 ⟨rfl, E1⟩
    go_wp2_with fail
    go_ret2
    exact ⟨rfl, HE0.out.trans E1⟩
  · rw [hv] at HV
    rw [if_pos rfl, if_pos rfl]
    have HT := Lib.hid (fun W (E : Ext w W) => impl_text k n s W hv (hT.ext E hp) (Nat.lt_of_lt_of_le hp E.le))
    clear hv E0
    go_enter Tryd.func7, Tryd.ntmps7
    go_wp2_with fail
    refine HV.out.mono ?_
    rintro e w1 ⟨rfl, E1⟩
    obtain ⟨z0, z1, z2⟩ := (HB.out.ext E1).cells3
    have HE1 := Lib.hid (HE0.out.trans E1)
    clear E1
    go_wp2_with fail
    refine (HT.out _ HE1.out).mono ?_
    rintro e w2 ⟨rfl, E2⟩
    go_wp2_with fail
    go_ret2
    exact ⟨rfl, HE1.out.trans E2⟩
set_option maxHeartbeats 2000000 in
theorem spec_text (k n : Int) (s : ByteArray) (w : World) (hv : valB k n s = true) : Calls Tryd.prog 9 #[.agg #[.int .i64 k, .int .i64 n, .string s]] w fun e w' => e = .returned (.string (txtV k n s)) ∧ Ext w w' := by
  have E0 : Ext w (w.alloc (.cells #[.int .i64 k, .int .i64 n, .string s] 27)) := (by repeat (first | exact Ext.refl _ | assumption | refine Ext.alloc ?_ _ | refine Ext.drewN ?_ _ | refine Ext.drew ?_ | refine Ext.set ?_ (by dsimp only; omega) _ | refine Ext.trans ?_ (by assumption)))
  rcases valB_cases hv with rfl | ⟨rfl, h0, h1⟩ | ⟨rfl, h10⟩
  · rw [txtV_0]
    clear hv
    go_enter Tryd.func9, Tryd.ntmps9
    go_wp2_with fail
    go_ret
    exact ⟨rfl, E0⟩
  · rw [txtV_1]
    have HD := Lib.hid (spec_l00Digits n h0 h1 (w.alloc (.cells #[.int .i64 1, .int .i64 n, .string s] 27)))
    have HE0 := Lib.hid E0
    clear hv E0
    go_enter Tryd.func9, Tryd.ntmps9
    go_wp2_with fail
    refine HD.out.mono ?_
    rintro e w1 ⟨rfl, E1⟩
    go_wp2_with fail
    go_ret
    exact ⟨rfl, HE0.out.trans E1⟩
  · rw [txtV_2]
    have hs1 : ¬ 9223372036854775807 < 1 + s.size := by omega
    have hs2 : ¬ 9223372036854775807 < (1 + s.size) + 1 := by omega
    have hs3 : ¬ 9223372036854775807 < ((⟨#[39]⟩ : ByteArray) ++ s).size + 1 := by rw [ByteArray.size_append]; show ¬ 9223372036854775807 < 1 + s.size + 1; omega
    clear hv
    go_enter Tryd.func9, Tryd.ntmps9
    go_wp2_with fail
    go_ret
    exact ⟨rfl, E0⟩
set_option maxHeartbeats 2000000 in
theorem spec_ValueText (k n : Int) (s : ByteArray) (w : World) (hs : s.size ≤ maxLen) : Calls Tryd.prog 5 #[.agg #[.int .i64 k, .int .i64 n, .string s]] w fun e w' => e = .returned (.tuple #[.string (vtS k n s), .int .i64 (vtC k n s)]) ∧ Ext w w' := by
  have E0 : Ext w (w.alloc (.cells #[.int .i64 k, .int .i64 n, .string s] 27)) := (by repeat (first | exact Ext.refl _ | assumption | refine Ext.alloc ?_ _ | refine Ext.drewN ?_ _ | refine Ext.drew ?_ | refine Ext.set ?_ (by dsimp only; omega) _ | refine Ext.trans ?_ (by assumption)))
  have HB := Lib.hid (Blk.new w 27 [.int .i64 k, .int .i64 n, .string s])
  have HV := Lib.hid (spec_ValueOK k n s (w.alloc (.cells #[.int .i64 k, .int .i64 n, .string s] 27)) hs)
  have HE0 := Lib.hid E0
  unfold vtS vtC
  rcases hv : valB k n s with _ | _
  · rw [hv] at HV
    rw [if_neg (by decide), if_neg (by decide)]
    clear hv E0
    go_enter Tryd.func5, Tryd.ntmps5
    go_wp2_with fail
    refine HV.out.mono ?_
    rintro e w1 ⟨rfl, E1⟩
    go_wp2_with fail
    go_ret2
    exact ⟨rfl, HE0.out.trans E1⟩
  · rw [hv] at HV
    rw [if_pos rfl, if_pos rfl]
    have HT := Lib.hid (fun W (E : Ext w W) => spec_text k n s W hv)
    clear hv E0
    go_enter Tryd.func5, Tryd.ntmps5
    go_wp2_with fail
    refine HV.out.mono ?_
    rintro e w1 ⟨rfl, E1⟩
    obtain ⟨z0, z1, z2⟩ := (HB.out.ext E1).cells3
    have HE1 := Lib.hid (HE0.out.trans E1)
    clear E1
    go_wp2_with fail
    refine (HT.out _ HE1.out).mono ?_
    rintro e w2 ⟨rfl, E2⟩
    go_wp2_with fail
    go_ret2
    exact ⟨rfl, HE1.out.trans E2⟩
set_option maxHeartbeats 4000000 in
theorem walk_FnExactValueText (w : World) (hT : Tab w) (hp : 0 < w.heap.size) (k n : Int) (s : ByteArray) (hs : s.size ≤ maxLen) :
    Calls Tryd.prog 3 #[.agg #[.int .i64 k, .int .i64 n, .string s]] w fun e w' => e = .returned (.bool true) ∧ Ext w w' := by
  have E0 : Ext w (w.alloc (.cells #[.int .i64 k, .int .i64 n, .string s] 23)) := (by repeat (first | exact Ext.refl _ | assumption | refine Ext.alloc ?_ _ | refine Ext.drewN ?_ _ | refine Ext.drew ?_ | refine Ext.set ?_ (by dsimp only; omega) _ | refine Ext.trans ?_ (by assumption)))
  have HB := Lib.hid (Blk.new w 23 [.int .i64 k, .int .i64 n, .string s])
  have HE0 := Lib.hid E0
  have HI := Lib.hid (fun W (E : Ext w W) => impl_ValueText k n s W hs (hT.ext E hp) (Nat.lt_of_lt_of_le hp E.le))
  have HS := Lib.hid (fun W => spec_ValueText k n s W hs)
  have hz := szValue_any k n 1048576 s (w.alloc (.cells #[.int .i64 k, .int .i64 n, .string s] 23)) hs (by omega) (by omega)
  clear E0
  generalize vtS k n s = r0 at HI HS
  generalize vtC k n s = r1 at HI HS
  have hr0 : (r0.toList != r0.toList) = false := by simp
  have hr1 : (r1 != r1) = false := by simp
  by_cases hl : (1048576 : Int) < s.size
  · rw [if_pos hl] at hz
    have HZ := Lib.hid hz
    clear hz
    go_enter Tryd.func3, Tryd.ntmps3
    go_wp2_with fail
    refine HZ.out.mono ?_
    rintro e w1 ⟨rfl, E1⟩
    go_wp2_with fail
    go_ret
    exact ⟨rfl, HE0.out.trans E1⟩
  rw [if_neg hl] at hz
  have HZ := Lib.hid hz
  have hl2 : ¬ (1048576 : Int) - (s.size : Int) < 0 := by omega
  clear hz
  go_enter Tryd.func3, Tryd.ntmps3
  go_wp2_with fail
  refine HZ.out.mono ?_
  rintro e w1 ⟨rfl, E1⟩
  obtain ⟨z0, z1, z2⟩ := (HB.out.ext E1).cells3
  have HB1 := Lib.hid (HB.out.ext E1)
  have HE1 := Lib.hid (HE0.out.trans E1)
  clear E1
  go_wp2_with fail
  refine (toValue_any k n s w1).mono ?_
  rintro e w2 ⟨rfl, E2⟩
  go_wp2_with fail
  refine (HS.out w2).mono ?_
  rintro e w3 ⟨rfl, E3⟩
  have HB3 := Lib.hid ((HB1.out.ext E2).ext E3)
  have HE3 := Lib.hid (HE1.out.trans (E2.trans E3))
  clear z0 z1 z2 E2 E3
  obtain ⟨z0, z1, z2⟩ := HB3.out.cells3
  go_wp2_with fail
  refine (toValue_any k n s w3).mono ?_
  rintro e w4 ⟨rfl, E4⟩
  have HE4 := Lib.hid (HE3.out.trans E4)
  clear E4
  go_wp2_with fail
  refine (HI.out w4 HE4.out).mono ?_
  rintro e w5 ⟨rfl, E5⟩
  go_wp2_with fail
  go_ret
  exact ⟨rfl, HE4.out.trans E5⟩
end Go.Proofs.YthfkfdfcgldbeaaDoor
