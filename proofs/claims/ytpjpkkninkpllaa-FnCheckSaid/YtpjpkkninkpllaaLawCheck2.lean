/- The walk of the law FnCheck. -/
import Derived.Test.YtpjpkkninkpllaaCrc
import Derived.Test.YtpjpkkninkpllaaBytes
import Derived.Test.YtpjpkkninkpllaaAt
import Derived.Deep.RegionWith
namespace Go.Proofs.Ytpjpkkninkpllaa
open Go.RowKit Go.Deep
set_option linter.unusedVariables false
set_option maxHeartbeats 1000000 in
theorem walk_FnCheck (w : World) (A : Option Addr) (n cp : Nat) (l : List UInt8) (hl : l.length = n) (hc : n ≤ cp) (hm : cp ≤ maxLen) (hr : Rd w A (l.map fun c => Value.int .u8 (c.toNat : Int)))
    (A2 : Option Addr) (n2 cp2 : Nat) (l2 : List UInt8) (hl2 : l2.length = n2) (hc2 : n2 ≤ cp2) (hm2 : cp2 ≤ maxLen) (hr2 : Rd w A2 (l2.map fun c => Value.int .u8 (c.toNat : Int))) :
    Calls Try.prog 6 #[.slice A n cp, .slice A2 n2 cp2] w fun e w' => e = .returned (.bool true) ∧ Ext w w' := by
  have HL := Lib.hid hl
  have HL2 := Lib.hid hl2
  clear hl hl2
  unfold maxLen at hm hm2
  by_cases hbig : (1048576 : Int) < (n : Int)
  · go_enter Try.func6, Try.ntmps6
    go_wp2_with fail
    go_ret
    exact ⟨rfl, Ext.refl _⟩
  by_cases hbig2 : (1048576 : Int) < (n2 : Int)
  · go_enter Try.func6, Try.ntmps6
    go_wp2_with fail
    go_ret
    exact ⟨rfl, Ext.refl _⟩
  have hn : n ≤ 1099511627776 := by omega
  have hn2 : n2 ≤ 1099511627776 := by omega
  have hC := impl_Check32 A n cp l w HL.out hn hr
  have hS := spec_Check32 A n cp l w HL.out hn hr
  by_cases hlong : (65536 : Int) < (n : Int)
  · rw [show crcOf l = 0 from by unfold crcOf; rw [if_neg (by rw [HL.out]; omega)]] at hC
    have HC := Lib.hid hC
    clear hC hS
    go_enter Try.func6, Try.ntmps6
    go_wp2_with (go_at_call 17; refine (HC.out).mono ?_; rintro e w' ⟨rfl, rfl⟩)
    go_ret
    exact ⟨rfl, Ext.refl _⟩
  generalize hq : crcOf l = q at hC hS
  have HQ := Lib.hid hq
  have HC := Lib.hid hC
  have HS := Lib.hid hS
  clear hC hS hq
  by_cases h0 : n = 0
  · have h0' : ((n : Int) == 0) = true := by rw [h0]; rfl
    clear h0
    go_enter Try.func6, Try.ntmps6
    go_wp2_with (first | (go_at_call 17; refine (HC.out).mono ?_; rintro e w' ⟨rfl, rfl⟩) | (go_at_call 18; refine (HS.out).mono ?_; rintro e w' ⟨rfl, rfl⟩))
    go_ret
    exact ⟨rfl, Ext.refl _⟩
  · have h0' : ((n : Int) == 0) = false := beq_eq_false_iff_ne.2 (by omega)
    have hn0 : 0 < n := by omega
    have hr' := hr
    obtain ⟨b, o, rfl, _⟩ := hr.map_ (k := 0) (by rw [HL.out]; exact hn0)
    have hcell : ∀ j u, (l.map fun c => Value.int .u8 (c.toNat : Int))[j]? = some u → w.cell? ⟨b, o + j, none⟩ = some u := by
      obtain ⟨b', o', e, h⟩ := hr' (by intro e; have := congrArg List.length e; simp [HL.out] at this; omega)
      injection e with e
      injection e with e1 e2 _
      subst e1; subst e2; exact h
    have HCELL := Lib.hid hcell
    have HR := Lib.hid hr'
    have HR2 := Lib.hid hr2
    clear hcell hr' hr2 hr
    obtain ⟨i0, hi, hz0, hz1, hz2⟩ := info_parts info_ByteS
    have hinit := World.ownsRow_lit (base := w.heap.size) (e := 5) (size := 1) w #[] 0 (Nat.le_refl _) (by unfold maxLen; omega) rfl
    go_enter Try.func6, Try.ntmps6
    go_wp2_with (first | (go_at_call 17; refine (HC.out).mono ?_; rintro e w' ⟨rfl, rfl⟩) | (go_at_call 18; refine (HS.out).mono ?_; rintro e w' ⟨rfl, rfl⟩) | (at_builtin; refine wpList_append_own _ rfl (.tmp 36) (.tmp 37) 27 rfl w.heap.size 5 i0 (.int .u8 0) 1 1 Try.underlying27 hi hz0 hz1 hz2 rfl (by decide) _ 0 [] rfl hinit ⟨b, o, none⟩ n cp (l.map fun c => Value.int .u8 (c.toNat : Int)) rfl ?c0 ?c1 ?c2 ?c3 ?c4 ?c5 ?_))
    case c0 => rw [List.length_map, HL.out, Nat.mul_one]
    case c1 =>
      intro j u hu
      have hx := HCELL.out j u hu
      have e : (⟨b, o, none⟩ : Addr).add j = ⟨b, o + j, none⟩ := by unfold Addr.add; by_cases hj : j = 0 <;> simp [hj]
      rw [e]; exact ((Ext.refl w).alloc _).cell hx
    case c2 => intro u hu; simp at hu; obtain ⟨c, _, rfl⟩ := hu; rfl
    case c3 => unfold maxLen; omega
    case c4 => omega
    case c5 => simp
    intro v' w1 hown hg _
    have hE1 : Ext w w1 := ((Ext.refl w).alloc _).grown hg (fun k hk => by simp [Value.ownBlock] at hk; omega)
    obtain ⟨g, cap, cs, rfl, hgB, hcap, hcapm, hB, hcsl, hcst⟩ := own_form hown (by omega)
    rw [Nat.mul_one] at hcsl
    rw [Nat.mul_one] at hcst
    have hkl : atV l2 0 n < l.length := by rw [HL.out]; exact atV_lt _ _ _ hn0
    have hkn : atV l2 0 n < n := atV_lt _ _ _ hn0
    have hs8 : atV l2 1 8 < 8 := atV_lt _ _ _ (by omega)
    have hkc : atV l2 0 n < cs.length := by omega
    have hck : w1.cell? ⟨g, atV l2 0 n, none⟩ = some (.int .u8 (l[atV l2 0 n].toNat : Int)) := by
      rw [hB.cell hkc]
      have e1 : (cs.take n)[atV l2 0 n]? = (l.map fun c => Value.int .u8 (c.toNat : Int))[atV l2 0 n]? := by rw [hcst]
      rw [List.getElem?_take, if_pos hkn, List.getElem?_eq_getElem hkc] at e1
      rw [e1]; simp [hkl]
    have hfk := hB.frozen (atV l2 0 n)
    have hx8 : l[atV l2 0 n].toNat < 256 := l[atV l2 0 n].toNat_lt
    have hat1 : ∀ W, Ext w W → Calls Try.prog 19 #[.slice A2 n2 cp2, .int .i64 0, .int .i64 (n : Int)] W fun e w' => e = .returned (.int .i64 (atV l2 0 n : Nat)) ∧ ∃ k, w' = W.drewN k :=
      fun W hW => at_any A2 n2 cp2 0 n l2 W HL2.out hn2 (by omega) (by omega) (HR2.out.ext hW)
    have hat2 : ∀ W, Ext w W → Calls Try.prog 19 #[.slice A2 n2 cp2, .int .i64 1, .int .i64 8] W fun e w' => e = .returned (.int .i64 (atV l2 1 8 : Nat)) ∧ ∃ k, w' = W.drewN k :=
      fun W hW => at_any A2 n2 cp2 1 8 l2 W HL2.out hn2 (by omega) (by omega) (HR2.out.ext hW)
    generalize hk : atV l2 0 n = k at *
    generalize hs : atV l2 1 8 = s at *
    generalize hx : l[k] = x at *
    have HX := Lib.hid hx
    have H1 := Lib.hid hat1
    have H2 := Lib.hid hat2
    have HB := Lib.hid hB
    have HT := Lib.hid hcst
    have HCL := Lib.hid hcsl
    have HE1 := Lib.hid hE1
    clear hk hs hx hat1 hat2 hB hcst hcsl hE1 hown hg hinit
    have hkI : (k : Int) < (n : Int) := by omega
    go_wp2_with fail
    go_region_with (first | (go_at_call_of 19 (0 : Int); refine (H1.out _ ?_).mono ?_; (first | exact HE1.out.drew | exact HE1.out.drewN _); rintro e w' ⟨rfl, kk, rfl⟩) | (go_at_call_of 19 (8 : Int); refine (H2.out _ ?_).mono ?_; (first | exact HE1.out.drew | exact HE1.out.drewN _); rintro e w' ⟨rfl, kk, rfl⟩))
    all_goals
      go_wp2_with fail
      rw [flip_val x s hs8]
      refine (impl_Check32 _ n cap (l.set k (flip x s)) _ (by rw [List.length_set]; exact HL.out) hn (Rd.take_ (n := n) ((HB.out.drewN _).set k _) ?_)).mono ?_
      · rw [List.take_set, HT.out, List.map_set]
      rintro e w3 ⟨rfl, rfl⟩
      have hne : ((crcOf (l.set k (flip x s)) : Nat) : Int) ≠ (q : Int) := by
        have h1 : crcOf (l.set k (flip x s)) = crc (l.set k (flip x s)) := by unfold crcOf; rw [if_pos (by rw [List.length_set, HL.out]; omega)]
        have h2 : crcOf l = crc l := by unfold crcOf; rw [if_pos (by rw [HL.out]; omega)]
        have h3 := crc_set l k (flip x s) hkl (by rw [HX.out]; exact flip_ne x s hs8)
        rw [h1, ← HQ.out, h2]
        omega
      have hnb : (((crcOf (l.set k (flip x s)) : Nat) : Int) != (q : Int)) = true := by rw [bne_iff_ne]; exact hne
      clear hne
      generalize crcOf (l.set k (flip x s)) = z at hnb ⊢
      go_wp2_with fail
      go_ret
      exact ⟨rfl, (HE1.out.drewN _).set hgB _⟩
end Go.Proofs.Ytpjpkkninkpllaa
