/- The walks of what puts fields behind bytes. -/
import Derived.Test.YteaefjicpefgnaaCodec
import Derived.Test.YteaefjicpefgnaaMarkB
import Derived.Lib.AppendStr
import Derived.Deep.RegionLaw
namespace Go.Proofs.Yteaefjicpefgnaa
open Go.RowKit Go.Deep
set_option linter.unusedVariables false
set_option maxRecDepth 100000

theorem step_append_own {P : Program} {ops : Array Oper} {o : Oper} {a : Act} {w : World} {K : Act → World → Prop} {Q : Exit → Act → World → Prop} {E : Prop}
    (hg : o.guard = none) (s x : Operand) (t : TypeId) (hop : o.op = Op.call { callee := Callee.builtin Builtin.append, args := #[s, x], argTypes := #[t, t] })
    (base : Nat) (e : TypeId) (i : TypeInfo) (z : Value) (size bytes : Nat) (h1 : P.underlying t = some (.slice e)) (h2 : P.info? e = some i) (h3 : i.zero = some z) (h4 : i.size = size) (h5 : i.bytes = bytes) (h6 : z.cells.size = size) (h7 : 0 < size)
    (v : Value) (n : Nat) (xs : List Value) (hs : a.eval s = v) (hown : w.ownsRow base e size v n xs)
    (ad : Addr) (m c : Nat) (news : List Value) (hx : a.eval x = .slice (some ad) m c) (hn : news.length = m * size) (hc : ∀ j u, news[j]? = some u → w.cell? (ad.add j) = some u) (h1c : ∀ u ∈ news, u.oneCell' = true)
    (b1 : n + m ≤ maxLen) (b2 : (n + m) * bytes ≤ 140737488355328) (hb : base ≤ w.heap.size)
    (hK : ∀ v' w', w'.ownsRow base e size v' (n + m) (xs ++ news) → w.grownBy w' v.ownBlock → K (a.put o.dst v') w') :
    if Region.wanted o (yielded ops a.tmps) = true then Oper.wp P o a w K Q else E := by
  have hw : Region.wanted o (yielded ops a.tmps) = true := by simp [Region.wanted, hg]
  rw [if_pos hw]
  obtain ⟨v', w', hrun, r1, r2, _⟩ := run_append_own (P := P) w base t o.type e i z size bytes h1 h2 h3 h4 h5 h6 h7 v n xs hown ad m c news hn hc h1c b1 b2 hb
  unfold Oper.wp
  simp [execOp, hop, resolve, invoke, builtin, hs, hx, hrun, Result.andThen]
  exact hK v' w' r1 r2
theorem wp_append_own {P : Program} {d : Option Tmp} {ty : TypeId} {pos : String} {af : Array Edge} {g : Option (Nat × Bool)} {a : Act} {w : World} {K : Act → World → Prop} {Q : Exit → Act → World → Prop}
    (s x : Operand) (t : TypeId)
    (base : Nat) (e : TypeId) (i : TypeInfo) (z : Value) (size bytes : Nat) (h1 : P.underlying t = some (.slice e)) (h2 : P.info? e = some i) (h3 : i.zero = some z) (h4 : i.size = size) (h5 : i.bytes = bytes) (h6 : z.cells.size = size) (h7 : 0 < size)
    (v : Value) (n : Nat) (xs : List Value) (hs : a.eval s = v) (hown : w.ownsRow base e size v n xs)
    (ad : Addr) (m c : Nat) (news : List Value) (hx : a.eval x = .slice (some ad) m c) (hn : news.length = m * size) (hc : ∀ j u, news[j]? = some u → w.cell? (ad.add j) = some u) (h1c : ∀ u ∈ news, u.oneCell' = true)
    (b1 : n + m ≤ maxLen) (b2 : (n + m) * bytes ≤ 140737488355328) (hb : base ≤ w.heap.size)
    (hK : ∀ v' w', w'.ownsRow base e size v' (n + m) (xs ++ news) → w.grownBy w' v.ownBlock → K (a.put d v') w') :
    Oper.wp P ⟨d, Op.call { callee := Callee.builtin Builtin.append, args := #[s, x], argTypes := #[t, t] }, ty, pos, af, g⟩ a w K Q := by
  obtain ⟨v', w', hrun, r1, r2, _⟩ := run_append_own (P := P) w base t ty e i z size bytes h1 h2 h3 h4 h5 h6 h7 v n xs hown ad m c news hn hc h1c b1 b2 hb
  unfold Oper.wp
  simp [execOp, resolve, invoke, builtin, hs, hx, hrun, Result.andThen]
  exact hK v' w' r1 r2
theorem step_append_own_string {P : Program} {ops : Array Oper} {o : Oper} {a : Act} {w : World} {K : Act → World → Prop} {Q : Exit → Act → World → Prop} {E : Prop}
    (hg : o.guard = none) (sl x : Operand) (t u : TypeId) (hop : o.op = Op.call { callee := Callee.builtin Builtin.append, args := #[sl, x], argTypes := #[t, u] })
    (base : Nat) (e : TypeId) (i : TypeInfo) (h1 : P.underlying t = some (.slice e)) (hu : P.underlying u = some .string) (h2 : P.info? e = some i) (h3 : i.zero = some (.int .u8 0)) (h4 : i.size = 1) (h5 : i.bytes = 1)
    (v : Value) (n : Nat) (xs : List Value) (hs : a.eval sl = v) (hown : w.ownsRow base e 1 v n xs) (s : ByteArray) (hx : a.eval x = .string s)
    (b1 : n + s.size ≤ maxLen) (b2 : n + s.size ≤ 140737488355328) (hb : base ≤ w.heap.size)
    (hK : ∀ v' w', w'.ownsRow base e 1 v' (n + s.size) (xs ++ Lib.strCells s) → w.grownBy w' v.ownBlock → K (a.put o.dst v') w') :
    if Region.wanted o (yielded ops a.tmps) = true then Oper.wp P o a w K Q else E := by
  have hw : Region.wanted o (yielded ops a.tmps) = true := by simp [Region.wanted, hg]
  rw [if_pos hw]
  obtain ⟨v', w', hrun, r1, r2, _⟩ := Lib.run_append_own_string (P := P) w base t u o.type e i h1 hu h2 h3 h4 h5 v n xs hown s b1 b2 hb
  unfold Oper.wp
  simp [execOp, hop, resolve, invoke, builtin, hs, hx, hrun, Result.andThen]
  exact hK v' w' r1 r2

/-- the bytes of one field -/
def oneF (t : ByteArray) : List UInt8 := UInt8.ofNat t.size :: t.data.toList
/-- what lies there after k fields -/
def preF (l : List UInt8) (m : Nat) (ts : List ByteArray) (k : Nat) : List UInt8 := l ++ UInt8.ofNat m :: (ts.take k).flatMap oneF
theorem preF_succ (l : List UInt8) (m : Nat) (ts : List ByteArray) (k : Nat) (hk : k < ts.length) : preF l m ts (k + 1) = (preF l m ts k ++ [UInt8.ofNat ts[k].size]) ++ ts[k].data.toList := by
  unfold preF
  rw [List.take_succ_eq_append_getElem hk, List.flatMap_append]
  simp [oneF]
theorem preF_all (l : List UInt8) (ts : List ByteArray) : preF l ts.length ts ts.length = l ++ fieldsB ts := by
  unfold preF fieldsB oneF; rw [List.take_length]
theorem preF_len_le (l : List UInt8) (m : Nat) (ts : List ByteArray) (k : Nat) (hk : k ≤ ts.length) : (preF l m ts k).length ≤ (preF l m ts ts.length).length := by
  unfold preF
  have h : ts.flatMap oneF = (ts.take k).flatMap oneF ++ (ts.drop k).flatMap oneF := by rw [← List.flatMap_append, List.take_append_drop]
  rw [List.take_length, h]; simp
theorem byteN (m : Nat) : (m : Int) % 256 = ((UInt8.ofNat m).toNat : Int) := by rw [UInt8.toNat_ofNat']; omega
theorem map_strCells (s : ByteArray) : Lib.strCells s = s.data.toList.map fun c => Value.int .u8 (c.toNat : Int) := rfl
theorem own_join {w : World} {B n m : Nat} {e : TypeId} {v : Value} {x y z : List UInt8} {Y : List Value} (h : w.ownsRow B e 1 v n ((x.map fun c => Value.int .u8 (c.toNat : Int)) ++ Y)) (hy : Y = y.map fun c => Value.int .u8 (c.toNat : Int)) (hz : z = x ++ y) (hm : m = n) : w.ownsRow B e 1 v m (z.map fun c => Value.int .u8 (c.toNat : Int)) := by
  subst hz; subst hy; subst hm; rw [List.map_append]; exact h
/-- the block under A is one of type T, as it was in w -/
def Stay (w w' : World) (A : Option Addr) (T : TypeId) : Prop := ∀ a, A = some a → w'.heap[a.block]? = w.heap[a.block]? ∧ ∃ c fz, w'.heap[a.block]? = some (.cells c T fz)
theorem Stay.grown {w w1 w2 : World} {A : Option Addr} {T e : TypeId} {B n size : Nat} {v : Value} {xs : List Value} (h : Stay w w1 A T) (ho : w1.ownsRow B e size v n xs) (hg : w1.grownBy w2 v.ownBlock) (hne : e ≠ T) : Stay w w2 A T := fun a ha => by
  obtain ⟨h1, c, fz, h2⟩ := h a ha
  have hlt : a.block < w1.heap.size := by
    rcases Nat.lt_or_ge a.block w1.heap.size with hlt | hge
    · exact hlt
    · rw [Array.getElem?_eq_none hge] at h2; cases h2
  have e1 := hg.block a.block hlt (own_apart ho h2 hne)
  exact ⟨e1.trans h1, c, fz, e1.trans h2⟩
theorem Stay.ext {w w1 w2 : World} {A : Option Addr} {T : TypeId} (h : Stay w w1 A T) (E : Ext w1 w2) : Stay w w2 A T := fun a ha => by
  obtain ⟨h1, c, fz, h2⟩ := h a ha
  have hlt : a.block < w1.heap.size := by
    rcases Nat.lt_or_ge a.block w1.heap.size with hlt | hge
    · exact hlt
    · rw [Array.getElem?_eq_none hge] at h2; cases h2
  have e1 := Below.block E a.block hlt
  exact ⟨e1.trans h1, c, fz, e1.trans h2⟩
theorem Stay.move {w w1 : World} {A : Option Addr} {T : TypeId} (h : Stay w w A T) (E : Ext w w1) : Stay w1 w1 A T := fun a ha => by
  obtain ⟨_, c, fz, h2⟩ := h.ext E a ha
  exact ⟨rfl, c, fz, h2⟩
theorem Blk.stay {w : World} {b : Nat} {t : TypeId} {cs : List Value} (h : Blk w b t cs) : Stay w w (some ⟨b, 0, none⟩) t := fun a ha => by
  injection ha with ha
  subst ha
  exact ⟨rfl, _, _, h⟩
theorem Stay.rd {w w1 : World} {A : Option Addr} {T : TypeId} {xs : List Value} (h : Stay w w1 A T) (hr : Rd w A xs) : Rd w1 A xs := fun hx => by
  obtain ⟨b, o, e, hr⟩ := hr hx
  refine ⟨b, o, e, fun j u hu => ?_⟩
  exact (World.cell?_of_block (w := w) (a := ⟨b, o + j, none⟩) (h _ e).1).trans (hr j u hu)
set_option maxHeartbeats 1000000 in
theorem impl_putFields (B : Nat) (v : Value) (n : Nat) (l : List UInt8) (A : Option Addr) (m cp : Nat) (ts : List ByteArray) (w : World) (hm : ts.length = m) (hn : (l ++ fieldsB ts).length ≤ 1099511627776) (hB : B ≤ w.heap.size)
    (hr : Rd w A (ts.map fun c => Value.string c)) (hs : Stay w w A 9) (hown : w.ownsRow B 5 1 v n (l.map fun c => Value.int .u8 (c.toNat : Int))) :
    Calls Try.prog 73 #[v, .slice A m cp] w fun e w' => ∃ v', e = .returned v' ∧ w'.ownsRow B 5 1 v' (l ++ fieldsB ts).length ((l ++ fieldsB ts).map fun c => Value.int .u8 (c.toNat : Int)) ∧ Below B w w' := by
  have hln := own_len hown
  have HALL := Lib.hid (preF_all l ts)
  have hlen : ∀ k, k ≤ m → (preF l m ts k).length ≤ 1099511627776 := by
    intro k hk
    have h1 := preF_len_le l m ts k (by omega)
    have h2 := HALL.out
    rw [hm] at h1 h2
    rw [h2] at h1
    omega
  have hmm : m ≤ 1099511627776 := by
    have h1 : (fieldsB ts).length ≥ 1 + m := by
      unfold fieldsB
      rw [List.length_cons, List.length_flatMap]
      have : ∀ us : List ByteArray, us.length ≤ (us.map fun t => (UInt8.ofNat t.size :: t.data.toList).length).sum := by
        intro us
        induction us with
        | nil => simp
        | cons a r ih => simp only [List.map_cons, List.sum_cons, List.length_cons] at *; omega
      have h3 := this ts
      omega
    rw [List.length_append] at hn
    omega
  have hn1 : n + 1 ≤ 1099511627776 := by
    have h1 := hlen 0 (by omega)
    unfold preF at h1
    simp at h1
    omega
  have HL := Lib.hid hlen
  have HM := Lib.hid hm
  have HO := Lib.hid hown
  obtain ⟨i0, hi, hz0, hz1, hz2⟩ := info_parts info_ByteS
  clear hlen hm hown hn
  have hrow0 := own_ext HO.out ((Ext.refl w).alloc (.cells #[Value.int .u8 ((m : Int) % 256)] 5))
  go_enter Try.func73, Try.ntmps73
  go_wp2_with (at_builtin; refine wpList_append_own _ rfl (.tmp 7) (.tmp 11) 22 rfl B 5 i0 (.int .u8 0) 1 1 Try.underlying22 hi hz0 hz1 hz2 rfl (by decide) _ n _ rfl hrow0 ⟨w.heap.size, 0, none⟩ 1 1 [Value.int .u8 ((m : Int) % 256)] rfl rfl (rd_add (Blk.new w _ _).rd) (by intro u hu; simp at hu; subst hu; rfl) (by unfold maxLen; omega) (by omega) (by simp; omega) ?_)
  intro v1 w1 ho1 hg1 _
  have hst1 : Stay w w1 A 9 := (hs.ext ((Ext.refl w).alloc _)).grown hrow0 hg1 (by decide)
  have hbe1 : Below B w w1 := (Below.mono ((Ext.refl w).alloc _) hB).grown hg1 (by simp; omega) (own_blk hrow0)
  have HO1 := Lib.hid (own_join (m := (preF l m ts 0).length) ho1 (y := [UInt8.ofNat m]) (z := preF l m ts 0) (by rw [byteN]; rfl) (by unfold preF; simp) (by unfold preF; simp; omega))
  clear ho1 hg1
  go_wp2_with fail
  go_loopw [15, 0] (fun i v wr => ∃ k : Nat, k ≤ m ∧ i = .int .i64 k ∧ wr.ownsRow B 5 1 v (preF l m ts k).length ((preF l m ts k).map fun c => Value.int .u8 (c.toNat : Int)) ∧ Stay w wr A 9 ∧ Below B w wr) (fun i _ _ => m - (intOf i).toNat)
  case atStart => exact ⟨0, Nat.zero_le _, rfl, HO1.out, hst1, hbe1⟩
  case round =>
    obtain ⟨k, hk, rfl, hown, hst, hbe⟩ := hrel
    have HR := Lib.hid hown
    have hsz := Below.size hbe
    clear hown
    by_cases hlt : k < m
    · have hkl : k < ts.length := by rw [HM.out]; exact hlt
      obtain ⟨b, o, rfl, hc⟩ := (hst.rd hr).map_ hkl
      have hlt2 : (k : Int) < (m : Int) := by omega
      have hl1 := HL.out (k + 1) (by omega)
      have HP := Lib.hid (preF_succ l m ts k hkl)
      have hls : (preF l m ts k).length + 1 + ts[k].size = (preF l m ts (k + 1)).length := by rw [HP.out]; simp; omega
      generalize hF1 : preF l m ts (k + 1) = F1 at HP hl1 hls
      have HF1 := Lib.hid hF1
      clear hF1
      generalize ts[k] = x at HP hc hls
      generalize preF l m ts k = F0 at HP HR hls
      have hrow := own_ext HR.out ((Ext.refl wr).alloc (.cells #[Value.int .u8 ((x.size : Int) % 256)] 5))
      go_wp2_with (at_builtin; refine wpList_append_own _ rfl (.tmp 19) (.tmp 23) 22 rfl B 5 i0 (.int .u8 0) 1 1 Try.underlying22 hi hz0 hz1 hz2 rfl (by decide) _ F0.length _ rfl hrow ⟨wr.heap.size, 0, none⟩ 1 1 [Value.int .u8 ((x.size : Int) % 256)] rfl rfl (rd_add (Blk.new wr _ _).rd) (by intro u hu; simp at hu; subst hu; rfl) (by unfold maxLen; omega) (by omega) (by simp; omega) ?_)
      intro v2 w2 ho2 hg2 _
      have hst2 : Stay w w2 (some ⟨b, o, none⟩) 9 := (hst.ext ((Ext.refl wr).alloc _)).grown hrow hg2 (by decide)
      have hbe2 : Below B w w2 := (Below.trans hbe (Below.mono ((Ext.refl wr).alloc _) (by omega))).grown hg2 (by simp; omega) (own_blk hrow)
      have hsz2 := Below.size hbe2
      have HO2 := Lib.hid ho2
      clear ho2 hg2 hrow
      go_wp2_with (at_builtin; refine Lib.wpList_append_own_string _ rfl (.tmp 24) (.tmp 25) 22 9 rfl B 5 i0 Try.underlying22 Try.underlying9 hi hz0 hz1 hz2 _ (F0.length + 1) _ rfl HO2.out x rfl ?c1 ?c2 ?c3 ?_)
      case c1 => unfold maxLen; omega
      case c2 => omega
      case c3 => omega
      intro v3 w3 ho3 hg3 _
      have hst3 := hst2.grown HO2.out hg3 (by decide)
      have hbe3 := hbe2.grown hg3 (by omega) (own_blk HO2.out)
      have HO3 := Lib.hid (own_join (x := F0) (y := UInt8.ofNat x.size :: x.data.toList) (z := F1) (m := F1.length) ho3 (by rw [List.map_cons, ← byteN, map_strCells]) (by rw [HP.out]; simp) rfl)
      clear ho3 hg3
      go_wp2_with fail
      go_roundw
      case rel => exact ⟨k + 1, by omega, by go_num, by rw [HF1.out]; exact HO3.out, hst3, hbe3⟩
      case measure => simp [intOf]; omega
    · have hk4 : k = m := by omega
      subst hk4
      have hF : preF l k ts k = l ++ fieldsB ts := by have := HALL.out; rw [HM.out] at this; exact this
      have HF := Lib.hid hF
      clear hF
      go_wp2_with fail
      go_ret
      exact ⟨_, rfl, by have := HR.out; rw [HF.out] at this; exact this, hbe⟩
end Go.Proofs.Yteaefjicpefgnaa
