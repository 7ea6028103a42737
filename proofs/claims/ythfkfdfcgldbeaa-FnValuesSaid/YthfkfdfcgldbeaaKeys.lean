/- The walks of the bytes of keys. -/
import Derived.Test.YthfkfdfcgldbeaaValue
import Derived.Test.YthfkfdfcgldbeaaFlatValue
import Derived.Test.YthfkfdfcgldbeaaFields
namespace Go.Proofs.Ythfkfdfcgldbeaa
open Go.RowKit Go.Deep
set_option linter.unusedVariables false
set_option maxRecDepth 100000
/-- the key of a value -/
def keyB (x : CValue) : List UInt8 := if x.a = 0 then [1] else if x.a = 1 then 2 :: four (x.b + 1000000000).toNat else (3 :: x.c.data.toList) ++ [0]
def keysB (l : List CValue) : List UInt8 := l.flatMap keyB
def okV (x : CValue) : Bool := valB x.a x.b x.c
theorem okV_cases {x : CValue} (h : okV x = true) : x.a = 0 ∨ (x.a = 1 ∧ -1000000000 ≤ x.b ∧ x.b ≤ 1000000000) ∨ (x.a = 2 ∧ x.c.size ≤ 10) := by
  unfold okV valB at h
  by_cases h0 : x.a = 0
  · exact .inl h0
  rw [if_neg h0] at h
  by_cases h1 : x.a = 1
  · rw [if_pos h1] at h
    simp at h
    exact .inr (.inl ⟨h1, h.1.1, h.1.2⟩)
  rw [if_neg h1] at h
  by_cases h2 : x.a = 2
  · rw [if_pos h2] at h
    unfold wordB at h
    simp at h
    exact .inr (.inr ⟨h2, h.2.2⟩)
  · rw [if_neg h2] at h; cases h
theorem keyB_len {x : CValue} (h : okV x = true) : (keyB x).length ≤ 12 := by
  unfold keyB
  rcases okV_cases h with h0 | ⟨h1, _, _⟩ | ⟨h2, h3⟩
  · rw [if_pos h0]; simp
  · rw [if_neg (by omega), if_pos h1]; simp [four_len]
  · rw [if_neg (by omega), if_neg (by omega)]; simp; omega
theorem keysB_len (l : List CValue) (h : ∀ x ∈ l, okV x = true) : (keysB l).length ≤ l.length * 12 := by
  unfold keysB
  induction l with
  | nil => simp
  | cons x r ih =>
    rw [List.flatMap_cons, List.length_append, List.length_cons]
    have h1 := keyB_len (h x List.mem_cons_self)
    have h2 := ih fun y hy => h y (List.mem_cons_of_mem _ hy)
    omega
theorem keysB_succ (l : List CValue) (k : Nat) (hk : k < l.length) : keysB (l.take (k + 1)) = keysB (l.take k) ++ keyB l[k] := by
  unfold keysB
  rw [List.take_succ_eq_append_getElem hk, List.flatMap_append]
  simp
/-- fresh bytes -/
def BytesPost (w : World) (T : TypeId) (L : List UInt8) (e : Ending) (w' : World) : Prop :=
  ∃ v', e = .returned v' ∧ w'.ownsRow w.heap.size T 1 v' L.length (L.map fun c => Value.int .u8 (c.toNat : Int)) ∧ Ext w w'
theorem impl_fourI (z : Int) (w : World) (h0 : 0 ≤ z) (h1 : z < 4294967296) :
    Calls Try.prog 152 #[.int .i64 z] w fun e w' => e = .returned (.slice (some ⟨w.heap.size, 0, none⟩) 4 4) ∧ Blk w' w.heap.size 5 ((four z.toNat).map fun c => Value.int .u8 (c.toNat : Int)) ∧ w'.heap.size = w.heap.size + 1 ∧ Ext w w' := by
  obtain ⟨n, rfl⟩ : ∃ n : Nat, z = (n : Int) := ⟨z.toNat, by omega⟩
  exact impl_four n w (by omega)
theorem spec_l01NumberI (z : Int) (w : World) (h0 : 0 ≤ z) (h1 : z < 4294967296) :
    Calls Try.prog 166 #[.int .i64 z, .int .i64 4] w fun e w' => ∃ v', e = .returned v' ∧ w'.ownsRow w.heap.size 5 1 v' 4 ((four z.toNat).map fun c => Value.int .u8 (c.toNat : Int)) ∧ Ext w w' := by
  obtain ⟨n, rfl⟩ : ∃ n : Nat, z = (n : Int) := ⟨z.toNat, by omega⟩
  exact spec_l01Number n w (by omega)
set_option maxHeartbeats 4000000 in
theorem impl_keyBytes (A : Option Addr) (n cp : Nat) (l : List CValue) (w : World) (hl : l.length = n) (hn : n ≤ 1000000000) (hok : ∀ x ∈ l, okV x = true) (hr : Rd w A (l.flatMap CValue.cs)) :
    Calls Try.prog 112 #[.slice A n cp] w (BytesPost w 5 (keysB l)) := by
  have HL := Lib.hid hl
  have HK := Lib.hid hok
  have hlen : ∀ k, k ≤ n → (keysB (l.take k)).length ≤ k * 12 := fun k hk => by
    have h1 := keysB_len (l.take k) fun x hx => hok x (List.mem_of_mem_take hx)
    rw [List.length_take] at h1
    omega
  have HN := Lib.hid hlen
  obtain ⟨i0, hi, hz0, hz1, hz2⟩ := info_parts info_ByteS
  have hinit := World.ownsRow_lit (base := w.heap.size) (e := 5) (size := 1) w #[] 0 (Nat.le_refl _) (by unfold maxLen; omega) rfl
  have HI := Lib.hid hinit
  clear hl hok hlen hinit
  go_enter Try.func112, Try.ntmps112
  go_wp2_with fail
  go_loopw [9, 3] (fun i v wr => ∃ k : Nat, k ≤ n ∧ i = .int .i64 k ∧ wr.ownsRow w.heap.size 5 1 v (keysB (l.take k)).length ((keysB (l.take k)).map fun c => Value.int .u8 (c.toNat : Int)) ∧ Ext w wr) (fun i _ _ => n - (intOf i).toNat)
  case atStart => exact ⟨0, Nat.zero_le _, rfl, HI.out, (Ext.refl _).alloc _⟩
  case round =>
    obtain ⟨k, hk, rfl, hown, hE⟩ := hrel
    have HR := Lib.hid hown
    clear hown
    by_cases hlt : k < n
    · have hkl : k < l.length := by rw [HL.out]; exact hlt
      obtain ⟨b, o, rfl, hc⟩ := (hr.ext hE).flat CValue.len (by decide) hkl
      have hlt2 : (k : Int) < (n : Int) := by omega
      have hl0 := HN.out k (by omega)
      have hl1 := HN.out (k + 1) (by omega)
      have HP := Lib.hid (keysB_succ l k hkl)
      have hx := okV_cases (HK.out _ (List.getElem_mem hkl))
      generalize hF1 : keysB (l.take (k + 1)) = F1 at HP hl1
      have HF1 := Lib.hid hF1
      clear hF1
      generalize keysB (l.take k) = F0 at HP HR hl0
      generalize l[k] = x at HP hc hx
      obtain ⟨xa, xb, xc⟩ := x
      have c0 : wr.cell? ⟨b, o + k * 3, none⟩ = some (.int .i64 xa) := by exact hc 0 _ rfl
      have c1 : wr.cell? ⟨b, o + k * 3 + 1, none⟩ = some (.int .i64 xb) := by rw [Nat.add_assoc]; exact hc 1 _ rfl
      have c2 : wr.cell? ⟨b, o + k * 3 + 2, none⟩ = some (.string xc) := by rw [Nat.add_assoc]; exact hc 2 _ rfl
      clear hc
      dsimp only at hx
      rcases hx with rfl | ⟨rfl, hb1, hb2⟩ | ⟨rfl, hb1⟩
      · have HW := Lib.hid (own_ext HR.out (((Ext.refl wr).alloc (.cells #[.int .i64 0, .int .i64 xb, .string xc] 30)).alloc (.cells #[Value.int .u8 1] 5)))
        have hnb := Blk.new (wr.alloc (.cells #[.int .i64 0, .int .i64 xb, .string xc] 30)) 5 [Value.int .u8 1]
        rw [World.size_alloc] at hnb
        have HNB := Lib.hid hnb
        have HA := Lib.hid ((Blk.new wr 30 [.int .i64 0, .int .i64 xb, .string xc]).alloc (.cells #[Value.int .u8 1] 5))
        have HEA := Lib.hid ((hE.alloc (.cells #[.int .i64 0, .int .i64 xb, .string xc] 30)).alloc (.cells #[Value.int .u8 1] 5))
        have hle := hE.le
        clear hnb
        go_wp2_with (at_builtin; refine wpList_append_own _ rfl (.tmp 13) (.tmp 18) 27 rfl w.heap.size 5 i0 (.int .u8 0) 1 1 Try.underlying27 hi hz0 hz1 hz2 rfl (by decide) _ F0.length _ rfl HW.out ⟨wr.heap.size + 1, 0, none⟩ 1 1 [Value.int .u8 1] rfl rfl (rd_add HNB.out.rd) (by intro u hu; simp at hu; subst hu; rfl) (by unfold maxLen; omega) (by omega) (by simp; omega) ?_)
        intro v2 w2 ho2 hg2 _
        have HE2 := Lib.hid (HEA.out.grown hg2 (own_blk HW.out))
        have HA2 := Lib.hid (show Blk w2 wr.heap.size 30 [.int .i64 0, .int .i64 xb, .string xc] from (hg2.block _ HA.out.lt (own_apart HW.out HA.out (by decide))).trans HA.out)
        have HO2 := Lib.hid ho2
        have hle2 := HE2.out.le
        clear ho2 hg2 HW HNB HA HEA c0 c1 c2
        obtain ⟨d0, d1, d2⟩ := HA2.out.cells3
        go_wp2_with fail
        go_roundw
        case rel => exact ⟨k + 1, by omega, by go_num, by rw [HF1.out]; exact own_join (y := [1]) HO2.out rfl (by rw [HP.out]; rfl) (by rw [HP.out, List.length_append]; try rfl), HE2.out⟩
        case measure => simp [intOf]; omega
      · have HW := Lib.hid (own_ext HR.out (((Ext.refl wr).alloc (.cells #[.int .i64 1, .int .i64 xb, .string xc] 30)).alloc (.cells #[Value.int .u8 2] 5)))
        have hnb := Blk.new (wr.alloc (.cells #[.int .i64 1, .int .i64 xb, .string xc] 30)) 5 [Value.int .u8 2]
        rw [World.size_alloc] at hnb
        have HNB := Lib.hid hnb
        have HA := Lib.hid ((Blk.new wr 30 [.int .i64 1, .int .i64 xb, .string xc]).alloc (.cells #[Value.int .u8 2] 5))
        have HEA := Lib.hid ((hE.alloc (.cells #[.int .i64 1, .int .i64 xb, .string xc] 30)).alloc (.cells #[Value.int .u8 2] 5))
        have hle := hE.le
        clear hnb
        go_wp2_with (at_builtin; refine wpList_append_own _ rfl (.tmp 13) (.tmp 18) 27 rfl w.heap.size 5 i0 (.int .u8 0) 1 1 Try.underlying27 hi hz0 hz1 hz2 rfl (by decide) _ F0.length _ rfl HW.out ⟨wr.heap.size + 1, 0, none⟩ 1 1 [Value.int .u8 2] rfl rfl (rd_add HNB.out.rd) (by intro u hu; simp at hu; subst hu; rfl) (by unfold maxLen; omega) (by omega) (by simp; omega) ?_)
        intro v2 w2 ho2 hg2 _
        have HE2 := Lib.hid (HEA.out.grown hg2 (own_blk HW.out))
        have HA2 := Lib.hid (show Blk w2 wr.heap.size 30 [.int .i64 1, .int .i64 xb, .string xc] from (hg2.block _ HA.out.lt (own_apart HW.out HA.out (by decide))).trans HA.out)
        have HO2 := Lib.hid ho2
        have hle2 := HE2.out.le
        clear ho2 hg2 HW HNB HA HEA c0 c1 c2
        obtain ⟨d0, d1, d2⟩ := HA2.out.cells3
        go_wp2_with fail
        refine (impl_fourI (xb + 1000000000) w2 (by omega) (by omega)).mono ?_
        rintro e w3 ⟨rfl, hB3, -, E3⟩
        have HB3 := Lib.hid hB3
        have HE3 := Lib.hid E3
        have HO3 := Lib.hid (own_ext HO2.out E3)
        have hle3 := E3.le
        clear d0 d1 d2 hB3 E3
        go_wp2_with (at_builtin; refine wpList_append_own _ rfl (.tmp 24) (.tmp 28) 27 rfl w.heap.size 5 i0 (.int .u8 0) 1 1 Try.underlying27 hi hz0 hz1 hz2 rfl (by decide) _ (F0.length + 1) _ rfl HO3.out ⟨w2.heap.size, 0, none⟩ 4 4 ((four (xb + 1000000000).toNat).map fun c => Value.int .u8 (c.toNat : Int)) rfl rfl (rd_add HB3.out.rd) (one_bytes _) (by unfold maxLen; omega) (by omega) (by omega) ?_)
        intro v4 w4 ho4 hg4 _
        have HE4 := Lib.hid ((HE2.out.trans HE3.out).grown hg4 (own_blk HO3.out))
        have HO4 := Lib.hid ho4
        clear ho4 hg4
        go_wp2_with fail
        go_roundw
        case rel => exact ⟨k + 1, by omega, by go_num, by rw [HF1.out]; exact own_join (x := F0) (y := 2 :: four (xb + 1000000000).toNat) HO4.out rfl (by rw [HP.out]; rfl) (by rw [HP.out, List.length_append]; try rfl), HE4.out⟩
        case measure => simp [intOf]; omega
      · have HW := Lib.hid (own_ext HR.out (((Ext.refl wr).alloc (.cells #[.int .i64 2, .int .i64 xb, .string xc] 30)).alloc (.cells #[Value.int .u8 3] 5)))
        have hnb := Blk.new (wr.alloc (.cells #[.int .i64 2, .int .i64 xb, .string xc] 30)) 5 [Value.int .u8 3]
        rw [World.size_alloc] at hnb
        have HNB := Lib.hid hnb
        have HA := Lib.hid ((Blk.new wr 30 [.int .i64 2, .int .i64 xb, .string xc]).alloc (.cells #[Value.int .u8 3] 5))
        have HEA := Lib.hid ((hE.alloc (.cells #[.int .i64 2, .int .i64 xb, .string xc] 30)).alloc (.cells #[Value.int .u8 3] 5))
        have hle := hE.le
        clear hnb
        go_wp2_with (at_builtin; refine wpList_append_own _ rfl (.tmp 13) (.tmp 18) 27 rfl w.heap.size 5 i0 (.int .u8 0) 1 1 Try.underlying27 hi hz0 hz1 hz2 rfl (by decide) _ F0.length _ rfl HW.out ⟨wr.heap.size + 1, 0, none⟩ 1 1 [Value.int .u8 3] rfl rfl (rd_add HNB.out.rd) (by intro u hu; simp at hu; subst hu; rfl) (by unfold maxLen; omega) (by omega) (by simp; omega) ?_)
        intro v2 w2 ho2 hg2 _
        have HE2 := Lib.hid (HEA.out.grown hg2 (own_blk HW.out))
        have HA2 := Lib.hid (show Blk w2 wr.heap.size 30 [.int .i64 2, .int .i64 xb, .string xc] from (hg2.block _ HA.out.lt (own_apart HW.out HA.out (by decide))).trans HA.out)
        have HO2 := Lib.hid ho2
        have hle2 := HE2.out.le
        clear ho2 hg2 HW HNB HA HEA c0 c1 c2
        obtain ⟨d0, d1, d2⟩ := HA2.out.cells3
        go_wp2_with (at_builtin; refine Lib.wpList_append_own_string _ rfl (.tmp 32) (.tmp 34) 27 9 rfl w.heap.size 5 i0 Try.underlying27 Try.underlying9 hi hz0 hz1 hz2 _ (F0.length + 1) _ rfl HO2.out xc rfl ?c1 ?c2 ?c3 ?_)
        case c1 => unfold maxLen; omega
        case c2 => omega
        case c3 => omega
        intro v3 w3 ho3 hg3 _
        have HE3 := Lib.hid (HE2.out.grown hg3 (own_blk HO2.out))
        have HO3 := Lib.hid (own_ext ho3 ((Ext.refl w3).alloc (.cells #[Value.int .u8 0] 5)))
        have hle3 := HE3.out.le
        clear ho3 hg3 d0 d1 d2
        go_wp2_with (at_builtin; refine wpList_append_own _ rfl (.tmp 35) (.tmp 36) 27 rfl w.heap.size 5 i0 (.int .u8 0) 1 1 Try.underlying27 hi hz0 hz1 hz2 rfl (by decide) _ (F0.length + 1 + xc.size) _ rfl HO3.out ⟨w3.heap.size, 0, none⟩ 1 1 [Value.int .u8 0] rfl rfl (rd_add (Blk.new w3 _ _).rd) (by intro u hu; simp at hu; subst hu; rfl) (by unfold maxLen; omega) (by omega) (by simp; omega) ?_)
        intro v4 w4 ho4 hg4 _
        have HE4 := Lib.hid ((HE3.out.alloc _).grown hg4 (own_blk HO3.out))
        have HO4 := Lib.hid ho4
        clear ho4 hg4
        go_wp2_with fail
        go_roundw
        case rel => exact ⟨k + 1, by omega, by go_num, by rw [HF1.out]; exact own_join (x := F0) (y := (3 :: xc.data.toList) ++ [0]) HO4.out (by simp [map_strCells]) (by rw [HP.out]; rfl) (by rw [HP.out, List.length_append]; simp [keyB]; try omega), HE4.out⟩
        case measure => simp [intOf]; omega
    · have hk4 : k = n := by omega
      have HK2 := Lib.hid (show l.take k = l by rw [hk4]; exact List.take_of_length_le (by rw [HL.out]; omega))
      clear hk4
      go_wp2_with fail
      go_ret
      refine ⟨_, rfl, ?_, hE⟩
      have h := HR.out
      rw [HK2.out] at h
      exact h
set_option maxHeartbeats 2000000 in
theorem spec_l01Key (x : CValue) (w : World) (hok : okV x = true) :
    Calls Try.prog 151 #[.agg #[.int .i64 x.a, .int .i64 x.b, .string x.c]] w (BytesPost w 5 (keyB x)) := by
  have hx := okV_cases hok
  have hF : keyB x = if x.a = 0 then [1] else if x.a = 1 then 2 :: four (x.b + 1000000000).toNat else (3 :: x.c.data.toList) ++ [0] := rfl
  generalize keyB x = F at hF ⊢
  obtain ⟨a, b, c⟩ := x
  dsimp only at hx hF ⊢
  obtain ⟨i0, hi, hz0, hz1, hz2⟩ := info_parts info_ByteS
  rcases hx with rfl | ⟨rfl, hb1, hb2⟩ | ⟨rfl, hb1⟩
  · have HF := Lib.hid (show F = [1] by rw [hF]; rfl)
    clear hF
    have hrow := World.ownsRow_lit (base := w.heap.size) (e := 5) (size := 1) (w.alloc (.cells #[.int .i64 0, .int .i64 b, .string c] 30)) #[Value.int .u8 1] 1 (by simp) (by unfold maxLen; omega) rfl
    rw [World.size_alloc] at hrow
    have HW := Lib.hid hrow
    clear hrow
    go_enter Try.func151, Try.ntmps151
    go_wp2_with fail
    go_ret
    exact ⟨_, rfl, own_join (x := []) (y := [1]) HW.out rfl (by rw [HF.out]; rfl) (by rw [HF.out]; rfl), (by repeat (first | exact Ext.refl _ | assumption | refine Ext.alloc ?_ _ | refine Ext.drewN ?_ _ | refine Ext.drew ?_ | refine Ext.set ?_ (by dsimp only; omega) _ | refine Ext.trans ?_ (by assumption)))⟩
  · have HF := Lib.hid (show F = 2 :: four (b + 1000000000).toNat by rw [hF]; rfl)
    clear hF
    have hrow := World.ownsRow_lit (base := w.heap.size) (e := 5) (size := 1) (w.alloc (.cells #[.int .i64 1, .int .i64 b, .string c] 30)) #[Value.int .u8 2] 1 (by simp) (by unfold maxLen; omega) rfl
    rw [World.size_alloc] at hrow
    have HW := Lib.hid hrow
    have HE := Lib.hid (show Ext w ((w.alloc (.cells #[.int .i64 1, .int .i64 b, .string c] 30)).alloc (.cells #[Value.int .u8 2] 5)) from (by repeat (first | exact Ext.refl _ | assumption | refine Ext.alloc ?_ _ | refine Ext.drewN ?_ _ | refine Ext.drew ?_ | refine Ext.set ?_ (by dsimp only; omega) _ | refine Ext.trans ?_ (by assumption))))
    clear hrow
    go_enter Try.func151, Try.ntmps151
    go_wp2_with fail
    generalize (w.alloc (.cells #[.int .i64 1, .int .i64 b, .string c] 30)).alloc (.cells #[Value.int .u8 2] 5) = w1 at HW HE ⊢
    refine (spec_l01NumberI (b + 1000000000) w1 (by omega) (by omega)).mono ?_
    rintro e w2 ⟨v2, rfl, ho2, E2⟩
    obtain ⟨g, cap, cs, rfl, hg, hc1, hc2, hB, hlc, ht⟩ := own_form ho2 (by omega)
    have HR2 := Lib.hid (Rd.take_ hB ht)
    have HW2 := Lib.hid (own_ext HW.out E2)
    have HE2 := Lib.hid (HE.out.trans E2)
    have hle := HE2.out.le
    clear ho2 E2 hB ht hlc
    go_wp2_with (at_builtin; refine wpList_append_own _ rfl (.tmp 10) (.tmp 14) 27 rfl w.heap.size 5 i0 (.int .u8 0) 1 1 Try.underlying27 hi hz0 hz1 hz2 rfl (by decide) _ 1 _ rfl HW2.out ⟨g, 0, none⟩ 4 cap ((four (b + 1000000000).toNat).map fun c => Value.int .u8 (c.toNat : Int)) rfl rfl (rd_add HR2.out) (one_bytes _) (by unfold maxLen; omega) (by omega) (by omega) ?_)
    intro v4 w4 ho4 hg4 _
    have HE4 := Lib.hid (HE2.out.grown hg4 (own_blk HW2.out))
    have HO4 := Lib.hid ho4
    clear ho4 hg4
    go_wp2_with fail
    go_ret
    exact ⟨_, rfl, own_join (x := [2]) (y := four (b + 1000000000).toNat) HO4.out rfl (by rw [HF.out]; rfl) (by rw [HF.out]; rfl), HE4.out⟩
  · have HF := Lib.hid (show F = (3 :: c.data.toList) ++ [0] by rw [hF]; rfl)
    clear hF
    have hrow := World.ownsRow_lit (base := w.heap.size) (e := 5) (size := 1) (w.alloc (.cells #[.int .i64 2, .int .i64 b, .string c] 30)) #[Value.int .u8 3] 1 (by simp) (by unfold maxLen; omega) rfl
    rw [World.size_alloc] at hrow
    have HW := Lib.hid hrow
    have HE := Lib.hid (show Ext w ((w.alloc (.cells #[.int .i64 2, .int .i64 b, .string c] 30)).alloc (.cells #[Value.int .u8 3] 5)) from (by repeat (first | exact Ext.refl _ | assumption | refine Ext.alloc ?_ _ | refine Ext.drewN ?_ _ | refine Ext.drew ?_ | refine Ext.set ?_ (by dsimp only; omega) _ | refine Ext.trans ?_ (by assumption))))
    have hle := HE.out.le
    clear hrow
    go_enter Try.func151, Try.ntmps151
    go_wp2_with (at_builtin; refine Lib.wpList_append_own_string _ rfl (.tmp 16) (.tmp 18) 27 9 rfl w.heap.size 5 i0 Try.underlying27 Try.underlying9 hi hz0 hz1 hz2 _ 1 _ rfl HW.out c rfl ?c1 ?c2 ?c3 ?_)
    case c1 => unfold maxLen; omega
    case c2 => omega
    case c3 => omega
    intro v3 w3 ho3 hg3 _
    have HE3 := Lib.hid (HE.out.grown hg3 (own_blk HW.out))
    have HO3 := Lib.hid (own_ext ho3 ((Ext.refl w3).alloc (.cells #[Value.int .u8 0] 5)))
    have hle3 := HE3.out.le
    clear ho3 hg3
    go_wp2_with (at_builtin; refine wpList_append_own _ rfl (.tmp 19) (.tmp 20) 27 rfl w.heap.size 5 i0 (.int .u8 0) 1 1 Try.underlying27 hi hz0 hz1 hz2 rfl (by decide) _ (1 + c.size) _ rfl HO3.out ⟨w3.heap.size, 0, none⟩ 1 1 [Value.int .u8 0] rfl rfl (rd_add (Blk.new w3 _ _).rd) (by intro u hu; simp at hu; subst hu; rfl) (by unfold maxLen; omega) (by omega) (by simp; omega) ?_)
    intro v4 w4 ho4 hg4 _
    have HE4 := Lib.hid ((HE3.out.alloc _).grown hg4 (own_blk HO3.out))
    have HO4 := Lib.hid ho4
    clear ho4 hg4
    go_wp2_with fail
    go_ret
    exact ⟨_, rfl, own_join (x := [3]) (y := c.data.toList ++ [0]) HO4.out (by simp [map_strCells]) (by rw [HF.out]; rfl) (by rw [HF.out]; simp; try omega), HE4.out⟩
set_option maxHeartbeats 2000000 in
theorem spec_l01Keys (A : Option Addr) (n cp : Nat) (l : List CValue) (w : World) (hl : l.length = n) (hn : n ≤ 1000000000) (hok : ∀ x ∈ l, okV x = true) (hr : Rd w A (l.flatMap CValue.cs)) :
    Calls Try.prog 110 #[.slice A n cp] w (BytesPost w 5 (keysB l)) := by
  have HL := Lib.hid hl
  have HK := Lib.hid hok
  have hlen : ∀ k, k ≤ n → (keysB (l.take k)).length ≤ k * 12 := fun k hk => by
    have h1 := keysB_len (l.take k) fun x hx => hok x (List.mem_of_mem_take hx)
    rw [List.length_take] at h1
    omega
  have HN := Lib.hid hlen
  obtain ⟨i0, hi, hz0, hz1, hz2⟩ := info_parts info_ByteS
  have hinit := World.ownsRow_lit (base := w.heap.size) (e := 5) (size := 1) w #[] 0 (Nat.le_refl _) (by unfold maxLen; omega) rfl
  have HI := Lib.hid hinit
  clear hl hok hlen hinit
  go_enter Try.func110, Try.ntmps110
  go_wp2_with fail
  go_loopw [4, 3] (fun i v wr => ∃ k : Nat, k ≤ n ∧ i = .int .i64 k ∧ wr.ownsRow w.heap.size 5 1 v (keysB (l.take k)).length ((keysB (l.take k)).map fun c => Value.int .u8 (c.toNat : Int)) ∧ Ext w wr) (fun i _ _ => n - (intOf i).toNat)
  case atStart => exact ⟨0, Nat.zero_le _, rfl, HI.out, (Ext.refl _).alloc _⟩
  case round =>
    obtain ⟨k, hk, rfl, hown, hE⟩ := hrel
    have HR := Lib.hid hown
    clear hown
    by_cases hlt : k < n
    · have hkl : k < l.length := by rw [HL.out]; exact hlt
      obtain ⟨b, o, rfl, hc⟩ := (hr.ext hE).flat CValue.len (by decide) hkl
      have hlt2 : (k : Int) < (n : Int) := by omega
      have hl0 := HN.out k (by omega)
      have hl1 := HN.out (k + 1) (by omega)
      have HP := Lib.hid (keysB_succ l k hkl)
      have hq := HK.out _ (List.getElem_mem hkl)
      have hpos : 0 < (keyB l[k]).length := by unfold keyB; split; simp; split <;> simp
      have hlk : (keysB (l.take (k + 1))).length = (keysB (l.take k)).length + (keyB l[k]).length := by rw [HP.out, List.length_append]
      have HC := Lib.hid (spec_l01Key l[k] wr hq)
      generalize hF1 : keysB (l.take (k + 1)) = F1 at HP hl1 hlk
      have HF1 := Lib.hid hF1
      clear hF1 hq
      generalize keysB (l.take k) = F0 at HP HR hl0 hlk
      generalize keyB l[k] = G at HP HC hpos hlk
      have c0 : wr.cell? ⟨b, o + k * 3, none⟩ = some (.int .i64 l[k].a) := by exact hc 0 _ rfl
      have c1 : wr.cell? ⟨b, o + k * 3 + 1, none⟩ = some (.int .i64 l[k].b) := by rw [Nat.add_assoc]; exact hc 1 _ rfl
      have c2 : wr.cell? ⟨b, o + k * 3 + 2, none⟩ = some (.string l[k].c) := by rw [Nat.add_assoc]; exact hc 2 _ rfl
      clear hc
      go_wp2_with fail
      refine HC.out.mono ?_
      rintro e w2 ⟨v2, rfl, ho2, E2⟩
      obtain ⟨g, cap, cs, rfl, hg, hc1, hc2, hB, hlc, ht⟩ := own_form ho2 hpos
      rw [Nat.mul_one] at ht
      have HR2 := Lib.hid (Rd.take_ hB ht)
      have HW2 := Lib.hid (own_ext HR.out E2)
      have HE2 := Lib.hid (hE.trans E2)
      have hle := HE2.out.le
      clear ho2 E2 hB ht hlc c0 c1 c2
      go_wp2_with (at_builtin; refine wpList_append_own _ rfl (.tmp 12) (.tmp 17) 27 rfl w.heap.size 5 i0 (.int .u8 0) 1 1 Try.underlying27 hi hz0 hz1 hz2 rfl (by decide) _ F0.length _ rfl HW2.out ⟨g, 0, none⟩ G.length cap (G.map fun c => Value.int .u8 (c.toNat : Int)) rfl (by simp) (rd_add HR2.out) (one_bytes _) (by unfold maxLen; omega) (by omega) (by omega) ?_)
      intro v4 w4 ho4 hg4 _
      have HE4 := Lib.hid (HE2.out.grown hg4 (own_blk HW2.out))
      have HO4 := Lib.hid ho4
      clear ho4 hg4
      go_wp2_with fail
      go_roundw
      case rel => exact ⟨k + 1, by omega, by go_num, by rw [HF1.out]; exact own_join (x := F0) (y := G) HO4.out rfl HP.out hlk, HE4.out⟩
      case measure => simp [intOf]; omega
    · have hk4 : k = n := by omega
      have HK2 := Lib.hid (show l.take k = l by rw [hk4]; exact List.take_of_length_le (by rw [HL.out]; omega))
      clear hk4
      go_wp2_with fail
      go_ret
      refine ⟨_, rfl, ?_, hE⟩
      have h := HR.out
      rw [HK2.out] at h
      exact h
end Go.Proofs.Ythfkfdfcgldbeaa
