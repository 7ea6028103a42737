/- The walks of what builds sealed bytes. -/
import Derived.Test.YteaefjicpefgnaaCrc
import Derived.Test.YteaefjicpefgnaaConv
import Derived.Test.YteaefjicpefgnaaCodecPlain
import Derived.Test.YteaefjicpefgnaaBytes
import Derived.Deep.RegionWith
namespace Go.Proofs.Yteaefjicpefgnaa
open Go.RowKit Go.Deep
set_option linter.unusedVariables false
set_option maxRecDepth 100000

/-- what a call owns reads as its cells -/
theorem own_rd {w : World} {B n : Nat} {e : TypeId} {v : Value} {xs : List Value} (h : w.ownsRow B e 1 v n xs) : ∃ A cap, v = .slice A n cap ∧ Rd w A xs ∧ cap ≤ maxLen ∧ n ≤ cap := by
  obtain ⟨hlen, h⟩ := h
  rcases h with ⟨rfl, rfl⟩ | ⟨g, cap, cur, rfl, hb, hh, h1, h2, h3, h4⟩
  · have : xs = [] := by cases xs with
      | nil => rfl
      | cons a r => simp at hlen
    subst this
    exact ⟨none, 0, rfl, Rd.nil _ _, by unfold maxLen; omega, Nat.le_refl _⟩
  · exact ⟨_, cap, rfl, Rd.take_ (t := e) (cs := cur.toList) (n := n) (by simpa [Blk] using hh) (by simpa using h4), h2, h1⟩
theorem own_len {w : World} {B n : Nat} {e : TypeId} {v : Value} {l : List UInt8} (h : w.ownsRow B e 1 v n (l.map fun c => Value.int .u8 (c.toNat : Int))) : l.length = n := by
  have := h.1; simpa using this
/-- a slice that reads as these bytes -/
def Sl (w : World) (v : Value) (l : List UInt8) : Prop := ∃ A cap, v = .slice A l.length cap ∧ Rd w A (l.map fun c => Value.int .u8 (c.toNat : Int))
theorem Sl.own {w : World} {B n : Nat} {e : TypeId} {v : Value} {l : List UInt8} (h : w.ownsRow B e 1 v n (l.map fun c => Value.int .u8 (c.toNat : Int))) : Sl w v l := by
  obtain ⟨A, cap, rfl, hr, _⟩ := own_rd h
  exact ⟨A, cap, by rw [own_len h], hr⟩
theorem Sl.mk' {w : World} {A : Option Addr} {n cap : Nat} {l : List UInt8} (hl : l.length = n) (hr : Rd w A (l.map fun c => Value.int .u8 (c.toNat : Int))) : Sl w (.slice A n cap) l := ⟨A, cap, by rw [hl], hr⟩
theorem Sl.nil' {w : World} {A : Option Addr} {cap : Nat} : Sl w (.slice A 0 cap) [] := ⟨A, cap, rfl, Rd.nil _ _⟩
theorem Sl.ext {w w' : World} {v : Value} {l : List UInt8} (h : Sl w v l) (E : Ext w w') : Sl w' v l := by
  obtain ⟨A, cap, e, hr⟩ := h
  exact ⟨A, cap, e, hr.ext E⟩
theorem four_len (n : Nat) : (four n).length = 4 := rfl
theorem four_cells (n : Nat) (hn : n < 4294967296) : [Value.int IntKind.u8 ((n : Int) / 16777216), Value.int IntKind.u8 ((n : Int) / 65536 % 256), Value.int IntKind.u8 ((n : Int) / 256 % 256), Value.int IntKind.u8 ((n : Int) % 256)] = (four n).map fun c => Value.int .u8 (c.toNat : Int) := by
  simp only [four, List.map_cons, List.map_nil, UInt8.toNat_ofNat']
  have e1 : ((n / 16777216 % 2 ^ 8 : Nat) : Int) = (n : Int) / 16777216 := by omega
  have e2 : ((n / 65536 % 2 ^ 8 : Nat) : Int) = (n : Int) / 65536 % 256 := by omega
  have e3 : ((n / 256 % 2 ^ 8 : Nat) : Int) = (n : Int) / 256 % 256 := by omega
  have e4 : ((n % 2 ^ 8 : Nat) : Int) = (n : Int) % 256 := by omega
  rw [e1, e2, e3, e4]
theorem own_ext {w w' : World} {B n size : Nat} {e : TypeId} {v : Value} {xs : List Value} (h : w.ownsRow B e size v n xs) (E : Ext w w') : w'.ownsRow B e size v n xs := by
  obtain ⟨h1, h2⟩ := h
  refine ⟨h1, ?_⟩
  rcases h2 with h2 | ⟨g, cap, cur, hv, hg, hh, r⟩
  · exact Or.inl h2
  · exact Or.inr ⟨g, cap, cur, hv, hg, (Blk.ext (w := w) (b := g) (cs := cur.toList) (by simpa [Blk] using hh) E), r⟩
theorem rd_add {w : World} {b o : Nat} {xs : List Value} (h : Rd w (some ⟨b, o, none⟩) xs) (j : Nat) (u : Value) (hu : xs[j]? = some u) : w.cell? ((⟨b, o, none⟩ : Addr).add j) = some u := by
  obtain ⟨b', o', e, h⟩ := h (by intro h0; rw [h0] at hu; simp at hu)
  injection e with e
  injection e with e1 e2 _
  subst e1; subst e2
  rw [addr_add]; exact h j u hu
theorem own_blk {w : World} {B n size : Nat} {e : TypeId} {v : Value} {xs : List Value} (h : w.ownsRow B e size v n xs) : ∀ k, v.ownBlock = some k → B ≤ k := by
  obtain ⟨_, h⟩ := h
  rcases h with ⟨rfl, _⟩ | ⟨g, cap, cur, rfl, hb, r⟩
  · intro k hk; cases hk
  · intro k hk; injection hk with hk; have hk : g = k := hk; omega
theorem one_bytes (l : List UInt8) : ∀ u ∈ (l.map fun c => Value.int .u8 (c.toNat : Int)), u.oneCell' = true := by
  intro u hu; simp at hu; obtain ⟨c, _, rfl⟩ := hu; rfl
set_option maxHeartbeats 400000 in
theorem impl_four (n : Nat) (w : World) (hn : n < 4294967296) :
    Calls Try.prog 119 #[.int .i64 (n : Int)] w fun e w' => e = .returned (.slice (some ⟨w.heap.size, 0, none⟩) 4 4) ∧ Blk w' w.heap.size 5 ((four n).map fun c => Value.int .u8 (c.toNat : Int)) ∧ w'.heap.size = w.heap.size + 1 ∧ Ext w w' := by
  go_enter Try.func119, Try.ntmps119
  go_wp2
  go_ret
  refine ⟨rfl, ?_, by simp, (Ext.refl _).alloc _⟩
  rw [← four_cells n hn]
  exact Blk.new w _ _
set_option maxHeartbeats 400000 in
theorem impl_sealed (B : Nat) (v : Value) (n : Nat) (l : List UInt8) (w : World) (hn : n ≤ 1099511627776) (hB : B ≤ w.heap.size) (hown : w.ownsRow B 5 1 v n (l.map fun c => Value.int .u8 (c.toNat : Int))) :
    Calls Try.prog 102 #[v] w fun e w' => ∃ v', e = .returned v' ∧ w'.ownsRow B 5 1 v' (n + 4) ((sealB l).map fun c => Value.int .u8 (c.toNat : Int)) ∧ Below B w w' := by
  have HL := Lib.hid (own_len hown)
  obtain ⟨A, cap, rfl, hr, hc, hnc⟩ := own_rd hown
  unfold maxLen at hc
  have HO := Lib.hid hown
  clear hown
  have hq : crc l < 4294967296 := crc_lt l
  have hC := impl_check32 A n cap l w HL.out hn hr
  generalize hqq : crc l = q at hq hC
  have HQ := Lib.hid hqq
  clear hqq
  obtain ⟨i0, hi, hz0, hz1, hz2⟩ := info_parts info_ByteS
  go_enter Try.func102, Try.ntmps102
  go_wp2_with fail
  refine hC.mono ?_
  rintro e w' ⟨rfl, rfl⟩
  go_wp2_with fail
  refine (impl_four q w hq).mono ?_
  rintro e w1 ⟨rfl, hb, hsz, hE⟩
  have hown1 := own_ext HO.out hE
  go_wp2_with (at_builtin; refine wpList_append_own _ rfl (.tmp 3) (.tmp 7) 22 rfl B 5 i0 (.int .u8 0) 1 1 Try.underlying22 hi hz0 hz1 hz2 rfl (by decide) _ n _ rfl hown1 ⟨w.heap.size, 0, none⟩ 4 4 ((four q).map fun c => Value.int .u8 (c.toNat : Int)) rfl rfl (rd_add hb.rd) (one_bytes _) (by unfold maxLen; omega) (by omega) (by omega) ?_)
  intro v' w2 ho hg _
  go_wp2_with fail
  go_ret
  refine ⟨v', rfl, ?_, (Below.mono hE hB).grown hg (by omega) (own_blk hown1)⟩
  unfold sealB
  rw [HQ.out, List.map_append]
  exact ho
set_option maxHeartbeats 1000000 in
theorem spec_l01Number (n : Nat) (w : World) (hn : n < 4294967296) :
    Calls Try.prog 107 #[.int .i64 (n : Int), .int .i64 4] w fun e w' => ∃ v', e = .returned v' ∧ w'.ownsRow w.heap.size 5 1 v' 4 ((four n).map fun c => Value.int .u8 (c.toNat : Int)) ∧ Ext w w' := by
  obtain ⟨i0, hi, hz0, hz1, hz2⟩ := info_parts info_ByteS
  have hinit := World.ownsRow_lit (base := w.heap.size) (e := 5) (size := 1) w #[] 0 (Nat.le_refl _) (by unfold maxLen; omega) rfl
  go_enter Try.func107, Try.ntmps107
  go_wp2
  go_loopw [6, 5] (fun i v wr => ∃ k : Nat, k ≤ 4 ∧ i = .int .i64 (3 - (k : Int)) ∧ wr.ownsRow w.heap.size 5 1 v k (((four n).take k).map fun c => Value.int .u8 (c.toNat : Int)) ∧ Ext w wr) (fun i _ _ => (intOf i + 1).toNat)
  case atStart => exact ⟨0, by omega, rfl, hinit, (Ext.refl _).alloc _⟩
  case round =>
    obtain ⟨k, hk, rfl, hown, hE⟩ := hrel
    have hcells := four_cells n hn
    have HF := Lib.hid hcells
    have HO := Lib.hid hown
    have hle := hE.le
    clear hcells hown
    obtain hk4 | hk4 : k = 4 ∨ k < 4 := by omega
    · subst hk4
      go_wp2
      go_ret
      exact ⟨_, rfl, HO.out, hE⟩
    · obtain rfl | rfl | rfl | rfl : k = 0 ∨ k = 1 ∨ k = 2 ∨ k = 3 := by omega
      · have e3 : (3 - ((0 : Nat) : Int)) = 3 := rfl
        have e4 : ((four n).take 0).map (fun c => Value.int .u8 (c.toNat : Int)) ++ [Value.int .u8 ((n : Int) / 16777216)] = ((four n).take 1).map fun c => Value.int .u8 (c.toNat : Int) := by rw [List.map_take, List.map_take, ← HF.out]; rfl
        rw [e3]
        go_wp2_with (at_builtin; refine wpList_append_own _ rfl (.tmp 14) (.tmp 21) 22 rfl w.heap.size 5 i0 (.int .u8 0) 1 1 Try.underlying22 hi hz0 hz1 hz2 rfl (by decide) _ 0 _ rfl (own_ext HO.out ((Ext.refl _).alloc _)) ⟨wr.heap.size, 0, none⟩ 1 1 [Value.int .u8 ((n : Int) / 16777216)] rfl rfl (rd_add (Blk.new wr _ _).rd) (by intro u hu; simp at hu; subst hu; rfl) (by unfold maxLen; omega) (by omega) (by simp; omega) ?_)
        intro v' w2 ho hg _
        go_wp2_with fail
        go_roundw
        case rel => exact ⟨1, by omega, by first | rfl | go_num, e4 ▸ ho, (hE.alloc _).grown hg (own_blk HO.out)⟩
        case measure => simp [intOf]
      · have e3 : (3 - ((1 : Nat) : Int)) = 2 := rfl
        have e4 : ((four n).take 1).map (fun c => Value.int .u8 (c.toNat : Int)) ++ [Value.int .u8 ((n : Int) / 65536 % 256)] = ((four n).take 2).map fun c => Value.int .u8 (c.toNat : Int) := by rw [List.map_take, List.map_take, ← HF.out]; rfl
        rw [e3]
        go_wp2_with (at_builtin; refine wpList_append_own _ rfl (.tmp 14) (.tmp 21) 22 rfl w.heap.size 5 i0 (.int .u8 0) 1 1 Try.underlying22 hi hz0 hz1 hz2 rfl (by decide) _ 1 _ rfl (own_ext HO.out ((Ext.refl _).alloc _)) ⟨wr.heap.size, 0, none⟩ 1 1 [Value.int .u8 ((n : Int) / 65536 % 256)] rfl rfl (rd_add (Blk.new wr _ _).rd) (by intro u hu; simp at hu; subst hu; rfl) (by unfold maxLen; omega) (by omega) (by simp; omega) ?_)
        intro v' w2 ho hg _
        go_wp2_with fail
        go_roundw
        case rel => exact ⟨2, by omega, by first | rfl | go_num, e4 ▸ ho, (hE.alloc _).grown hg (own_blk HO.out)⟩
        case measure => simp [intOf]
      · have e3 : (3 - ((2 : Nat) : Int)) = 1 := rfl
        have e4 : ((four n).take 2).map (fun c => Value.int .u8 (c.toNat : Int)) ++ [Value.int .u8 ((n : Int) / 256 % 256)] = ((four n).take 3).map fun c => Value.int .u8 (c.toNat : Int) := by rw [List.map_take, List.map_take, ← HF.out]; rfl
        rw [e3]
        go_wp2_with (at_builtin; refine wpList_append_own _ rfl (.tmp 14) (.tmp 21) 22 rfl w.heap.size 5 i0 (.int .u8 0) 1 1 Try.underlying22 hi hz0 hz1 hz2 rfl (by decide) _ 2 _ rfl (own_ext HO.out ((Ext.refl _).alloc _)) ⟨wr.heap.size, 0, none⟩ 1 1 [Value.int .u8 ((n : Int) / 256 % 256)] rfl rfl (rd_add (Blk.new wr _ _).rd) (by intro u hu; simp at hu; subst hu; rfl) (by unfold maxLen; omega) (by omega) (by simp; omega) ?_)
        intro v' w2 ho hg _
        go_wp2_with fail
        go_roundw
        case rel => exact ⟨3, by omega, by first | rfl | go_num, e4 ▸ ho, (hE.alloc _).grown hg (own_blk HO.out)⟩
        case measure => simp [intOf]
      · have e3 : (3 - ((3 : Nat) : Int)) = 0 := rfl
        have e4 : ((four n).take 3).map (fun c => Value.int .u8 (c.toNat : Int)) ++ [Value.int .u8 ((n : Int) % 256)] = ((four n).take 4).map fun c => Value.int .u8 (c.toNat : Int) := by rw [List.map_take, List.map_take, ← HF.out]; rfl
        rw [e3]
        go_wp2_with (at_builtin; refine wpList_append_own _ rfl (.tmp 14) (.tmp 21) 22 rfl w.heap.size 5 i0 (.int .u8 0) 1 1 Try.underlying22 hi hz0 hz1 hz2 rfl (by decide) _ 3 _ rfl (own_ext HO.out ((Ext.refl _).alloc _)) ⟨wr.heap.size, 0, none⟩ 1 1 [Value.int .u8 ((n : Int) % 256)] rfl rfl (rd_add (Blk.new wr _ _).rd) (by intro u hu; simp at hu; subst hu; rfl) (by unfold maxLen; omega) (by omega) (by simp; omega) ?_)
        intro v' w2 ho hg _
        go_wp2_with fail
        go_roundw
        case rel => exact ⟨4, by omega, by first | rfl | go_num, e4 ▸ ho, (hE.alloc _).grown hg (own_blk HO.out)⟩
        case measure => simp [intOf]
set_option maxHeartbeats 400000 in
theorem spec_l03Sealed (B : Nat) (v : Value) (n : Nat) (l : List UInt8) (w : World) (hn : n ≤ 1099511627776) (hB : B ≤ w.heap.size) (hown : w.ownsRow B 5 1 v n (l.map fun c => Value.int .u8 (c.toNat : Int))) :
    Calls Try.prog 101 #[v] w fun e w' => ∃ v', e = .returned v' ∧ w'.ownsRow B 5 1 v' (n + 4) ((sealB l).map fun c => Value.int .u8 (c.toNat : Int)) ∧ Below B w w' := by
  have HL := Lib.hid (own_len hown)
  obtain ⟨A, cap, rfl, hr, hc, hnc⟩ := own_rd hown
  unfold maxLen at hc
  have HO := Lib.hid hown
  clear hown
  have hq : crc l < 4294967296 := crc_lt l
  have hC := spec_check A n cap l w HL.out hn hr
  generalize hqq : crc l = q at hq hC
  have HQ := Lib.hid hqq
  clear hqq
  obtain ⟨i0, hi, hz0, hz1, hz2⟩ := info_parts info_ByteS
  go_enter Try.func101, Try.ntmps101
  go_wp2_with fail
  refine hC.mono ?_
  rintro e w' ⟨rfl, rfl⟩
  go_wp2_with fail
  refine (spec_l01Number q w hq).mono ?_
  rintro e w1 ⟨v1, rfl, ho1, hE⟩
  have hown1 := own_ext HO.out hE
  obtain ⟨g, cap1, cs, rfl, hgB, hcap, hcapm, hb, hcsl, hcst⟩ := own_form ho1 (by omega)
  have hrd := Rd.take_ (n := 4) hb (by simpa using hcst)
  go_wp2_with (at_builtin; refine wpList_append_own _ rfl (.tmp 3) (.tmp 6) 22 rfl B 5 i0 (.int .u8 0) 1 1 Try.underlying22 hi hz0 hz1 hz2 rfl (by decide) _ n _ rfl hown1 ⟨g, 0, none⟩ 4 cap1 ((four q).map fun c => Value.int .u8 (c.toNat : Int)) rfl rfl (rd_add hrd) (one_bytes _) (by unfold maxLen; omega) (by omega) (by have := hE.le; omega) ?_)
  intro v' w2 ho hg _
  go_wp2_with fail
  go_ret
  refine ⟨v', rfl, ?_, (Below.mono hE hB).grown hg (by have := hE.le; omega) (own_blk hown1)⟩
  unfold sealB
  rw [HQ.out, List.map_append]
  exact ho
end Go.Proofs.Yteaefjicpefgnaa
