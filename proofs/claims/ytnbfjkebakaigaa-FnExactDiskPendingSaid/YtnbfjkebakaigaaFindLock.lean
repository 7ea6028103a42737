/- The walks of the library's searches by a test, over slices of Lock (printed by gen_flat.py). -/
import Derived.Test.YtnbfjkebakaigaaFlatLock
import Derived.Test.YtnbfjkebakaigaaTextFuncs
namespace Go.Proofs.Ytnbfjkebakaigaa
open Go.RowKit Go.Deep
set_option linter.unusedVariables false
set_option maxRecDepth 100000
set_option maxHeartbeats 1000000 in
theorem indexFunc_LockS (g : Nat) (p : CLock → Bool) (hg : ∀ args W, (callFunc g args).run Try.prog W = .ok (.enter g args) W) (A : Option Addr) (n cp : Nat) (l : List CLock) (w : World) (hp : ∀ x ∈ l, ∀ W, Ext w W → Calls Try.prog g #[.agg #[.int .i64 x.a, .int .i64 x.b, .int .i64 x.c, .int .i64 x.d]] W fun e w' => e = .returned (.bool (p x)) ∧ Ext W w') (hl : l.length = n) (hn : n ≤ 1099511627776) (hr : Rd w A (l.flatMap CLock.cs)) :
    Calls Try.prog 152 #[.slice A n cp, .func (Fn.func g) #[] #[]] w fun e w' => e = .returned (.int .i64 (idxI p l)) ∧ Ext w w' := by
  have HL := Lib.hid hl
  have HP := Lib.hid hp
  clear hl hp
  go_enter Try.func152, Try.ntmps152
  go_wp2
  go_loopw [8] (fun i wr => (∃ k : Nat, k ≤ n ∧ i = .int .i64 k ∧ ∀ j, (hj : j < l.length) → j < k → p (l[j]'hj) = false) ∧ Ext w wr) (fun i _ => n - (intOf i).toNat)
  case atStart => exact ⟨⟨0, Nat.zero_le _, rfl, fun j _ h => absurd h (Nat.not_lt_zero _)⟩, Ext.refl _⟩
  case round =>
    obtain ⟨⟨k, hk, rfl, hb⟩, hE⟩ := hrel
    have HB := Lib.hid hb
    have HE := Lib.hid hE
    clear hb hE
    by_cases hlt : k < n
    · have hkl : k < l.length := by rw [HL.out]; exact hlt
      obtain ⟨b, o, rfl, hc⟩ := (hr.ext HE.out).flat CLock.len (by decide) hkl
      have c0 : wr.cell? ⟨b, o + k * 4, none⟩ = some (.int .i64 l[k].a) := by exact hc 0 _ rfl
      have c1 : wr.cell? ⟨b, o + k * 4 + 1, none⟩ = some (.int .i64 l[k].b) := by rw [Nat.add_assoc]; exact hc 1 _ rfl
      have c2 : wr.cell? ⟨b, o + k * 4 + 2, none⟩ = some (.int .i64 l[k].c) := by rw [Nat.add_assoc]; exact hc 2 _ rfl
      have c3 : wr.cell? ⟨b, o + k * 4 + 3, none⟩ = some (.int .i64 l[k].d) := by rw [Nat.add_assoc]; exact hc 3 _ rfl
      clear hc
      rcases hv : p l[k] with _ | _
      · have HV := Lib.hid hv
        clear hv
        go_wp2_with fail
        refine (HP.out _ (List.getElem_mem hkl) _ HE.out).mono ?_
        rintro e w' ⟨rfl, E'⟩
        rw [HV.out]
        have HE' := Lib.hid (HE.out.trans E')
        clear E' c0 c1 c2 c3
        go_wp2_with fail
        go_roundw
        case rel => exact ⟨⟨k + 1, by omega, by go_num, fun j hj hjk => by
          rcases Nat.lt_or_ge j k with h | h
          · exact HB.out j hj h
          · have : j = k := by omega
            subst this; exact HV.out⟩, HE'.out⟩
        case measure => simp [intOf]; omega
      · have HV := Lib.hid (idxI_found hkl hv HB.out)
        have HV2 := Lib.hid hv
        clear hv
        go_wp2_with fail
        refine (HP.out _ (List.getElem_mem hkl) _ HE.out).mono ?_
        rintro e w' ⟨rfl, E'⟩
        rw [HV2.out]
        have HE' := Lib.hid (HE.out.trans E')
        clear E' c0 c1 c2 c3
        go_wp2_with fail
        go_ret
        exact ⟨by rw [HV.out]; rfl, HE'.out⟩
    · have hk2 : k = n := by omega
      have HV := Lib.hid (idxI_none (p := p) (l := l) (fun j hj => HB.out j hj (by rw [HL.out] at hj; omega)))
      subst hk2
      go_wp2_with fail
      go_ret
      exact ⟨by rw [HV.out]; rfl, HE.out⟩
theorem containsFunc_LockS (g : Nat) (p : CLock → Bool) (hg : ∀ args W, (callFunc g args).run Try.prog W = .ok (.enter g args) W) (A : Option Addr) (n cp : Nat) (l : List CLock) (w : World) (hp : ∀ x ∈ l, ∀ W, Ext w W → Calls Try.prog g #[.agg #[.int .i64 x.a, .int .i64 x.b, .int .i64 x.c, .int .i64 x.d]] W fun e w' => e = .returned (.bool (p x)) ∧ Ext W w') (hl : l.length = n) (hn : n ≤ 1099511627776) (hr : Rd w A (l.flatMap CLock.cs)) :
    Calls Try.prog 103 #[.slice A n cp, .func (Fn.func g) #[] #[]] w fun e w' => e = .returned (.bool (l.any p)) ∧ Ext w w' := by
  have hc := indexFunc_LockS g p hg A n cp l w hp hl hn hr
  have HA := Lib.hid (idxI_any p l)
  generalize idxI p l = v at hc HA
  have HC := Lib.hid hc
  clear hc hp hl hg
  go_enter Try.func103, Try.ntmps103
  go_wp2_with fail
  refine (HC.out).mono ?_
  rintro e w' ⟨rfl, E⟩
  go_wp2_with fail
  go_ret
  exact ⟨by rw [← HA.out]; rfl, E⟩
set_option maxHeartbeats 1000000 in
theorem indexFunc_LockS1 (g : Nat) (cv : Value) (p : CLock → Bool) (hg : ∀ args W, (callFunc g args).run Try.prog W = .ok (.enter g args) W) (A : Option Addr) (n cp : Nat) (l : List CLock) (w : World) (hp : ∀ x ∈ l, ∀ W, Ext w W → Calls Try.prog g #[.agg #[.int .i64 x.a, .int .i64 x.b, .int .i64 x.c, .int .i64 x.d], cv] W fun e w' => e = .returned (.bool (p x)) ∧ Ext W w') (hl : l.length = n) (hn : n ≤ 1099511627776) (hr : Rd w A (l.flatMap CLock.cs)) :
    Calls Try.prog 152 #[.slice A n cp, .func (Fn.func g) #[] #[cv]] w fun e w' => e = .returned (.int .i64 (idxI p l)) ∧ Ext w w' := by
  have HL := Lib.hid hl
  have HP := Lib.hid hp
  clear hl hp
  go_enter Try.func152, Try.ntmps152
  go_wp2
  go_loopw [8] (fun i wr => (∃ k : Nat, k ≤ n ∧ i = .int .i64 k ∧ ∀ j, (hj : j < l.length) → j < k → p (l[j]'hj) = false) ∧ Ext w wr) (fun i _ => n - (intOf i).toNat)
  case atStart => exact ⟨⟨0, Nat.zero_le _, rfl, fun j _ h => absurd h (Nat.not_lt_zero _)⟩, Ext.refl _⟩
  case round =>
    obtain ⟨⟨k, hk, rfl, hb⟩, hE⟩ := hrel
    have HB := Lib.hid hb
    have HE := Lib.hid hE
    clear hb hE
    by_cases hlt : k < n
    · have hkl : k < l.length := by rw [HL.out]; exact hlt
      obtain ⟨b, o, rfl, hc⟩ := (hr.ext HE.out).flat CLock.len (by decide) hkl
      have c0 : wr.cell? ⟨b, o + k * 4, none⟩ = some (.int .i64 l[k].a) := by exact hc 0 _ rfl
      have c1 : wr.cell? ⟨b, o + k * 4 + 1, none⟩ = some (.int .i64 l[k].b) := by rw [Nat.add_assoc]; exact hc 1 _ rfl
      have c2 : wr.cell? ⟨b, o + k * 4 + 2, none⟩ = some (.int .i64 l[k].c) := by rw [Nat.add_assoc]; exact hc 2 _ rfl
      have c3 : wr.cell? ⟨b, o + k * 4 + 3, none⟩ = some (.int .i64 l[k].d) := by rw [Nat.add_assoc]; exact hc 3 _ rfl
      clear hc
      rcases hv : p l[k] with _ | _
      · have HV := Lib.hid hv
        clear hv
        go_wp2_with fail
        refine (HP.out _ (List.getElem_mem hkl) _ HE.out).mono ?_
        rintro e w' ⟨rfl, E'⟩
        rw [HV.out]
        have HE' := Lib.hid (HE.out.trans E')
        clear E' c0 c1 c2 c3
        go_wp2_with fail
        go_roundw
        case rel => exact ⟨⟨k + 1, by omega, by go_num, fun j hj hjk => by
          rcases Nat.lt_or_ge j k with h | h
          · exact HB.out j hj h
          · have : j = k := by omega
            subst this; exact HV.out⟩, HE'.out⟩
        case measure => simp [intOf]; omega
      · have HV := Lib.hid (idxI_found hkl hv HB.out)
        have HV2 := Lib.hid hv
        clear hv
        go_wp2_with fail
        refine (HP.out _ (List.getElem_mem hkl) _ HE.out).mono ?_
        rintro e w' ⟨rfl, E'⟩
        rw [HV2.out]
        have HE' := Lib.hid (HE.out.trans E')
        clear E' c0 c1 c2 c3
        go_wp2_with fail
        go_ret
        exact ⟨by rw [HV.out]; rfl, HE'.out⟩
    · have hk2 : k = n := by omega
      have HV := Lib.hid (idxI_none (p := p) (l := l) (fun j hj => HB.out j hj (by rw [HL.out] at hj; omega)))
      subst hk2
      go_wp2_with fail
      go_ret
      exact ⟨by rw [HV.out]; rfl, HE.out⟩
theorem containsFunc_LockS1 (g : Nat) (cv : Value) (p : CLock → Bool) (hg : ∀ args W, (callFunc g args).run Try.prog W = .ok (.enter g args) W) (A : Option Addr) (n cp : Nat) (l : List CLock) (w : World) (hp : ∀ x ∈ l, ∀ W, Ext w W → Calls Try.prog g #[.agg #[.int .i64 x.a, .int .i64 x.b, .int .i64 x.c, .int .i64 x.d], cv] W fun e w' => e = .returned (.bool (p x)) ∧ Ext W w') (hl : l.length = n) (hn : n ≤ 1099511627776) (hr : Rd w A (l.flatMap CLock.cs)) :
    Calls Try.prog 103 #[.slice A n cp, .func (Fn.func g) #[] #[cv]] w fun e w' => e = .returned (.bool (l.any p)) ∧ Ext w w' := by
  have hc := indexFunc_LockS1 g cv p hg A n cp l w hp hl hn hr
  have HA := Lib.hid (idxI_any p l)
  generalize idxI p l = v at hc HA
  have HC := Lib.hid hc
  clear hc hp hl hg
  go_enter Try.func103, Try.ntmps103
  go_wp2_with fail
  refine (HC.out).mono ?_
  rintro e w' ⟨rfl, E⟩
  go_wp2_with fail
  go_ret
  exact ⟨by rw [← HA.out]; rfl, E⟩
end Go.Proofs.Ytnbfjkebakaigaa
