/- The walks of what puts fields behind bytes. -/
import Derived.Test.YtnbfjkebakaigaaCodec
import Derived.Test.YtnbfjkebakaigaaMarkB
import Derived.Lib.AppendStr
import Derived.Deep.RegionLaw
namespace Go.Proofs.Ytnbfjkebakaigaa
open Go.RowKit Go.Deep
set_option linter.unusedVariables false
set_option maxRecDepth 100000

theorem step_append_own {P : Program} {ops : Array Oper} {o : Oper} {a : Act} {w : World} {K : Act → World → Prop} {Q : Exit → Act → World → Prop} {E : Prop}
    (hg : o.guard = none) (s x : Operand) (t : TypeId) (hop : o.op = Op.call { callee := Callee.builtin Builtin.append, args := #[s, x], argTypes := #[t, t] })
    (base : Nat) (e : TypeId) (i : TypeInfo) (z : Value) (size bytes : Nat) (h1 : P.underlying t = some (.slice e)) (h2 : P.info? e = some i) (h3 : i.zero = some z) (h4 : i.size = size) (h5 : i.bytes = bytes) (h6 : z.cells.size = size) (h7 : 0 < size)
    (v : Value) (n : Nat) (xs : List Value) (hs : a.eval s = v) (hown : w.ownsRow base e size v n xs)
    (ad : Addr) (m c : Nat) (news : List Value) (hx : a.eval x = .slice (some ad) m c) (hn : news.length = m * size) (hc : ∀ j u, news[j]? = some u → w.cell? (ad.add j) = some u) (h1c : ∀ u ∈ news, u.oneCell' = true)
    (b1 : n + m ≤ maxLen) (b2 : (n + m) * bytes ≤ 140737488355328) (hb : base ≤ w.heap.size)
    (hK : ∀ v' w', w'.ownsRow base e size v' (n + m) (xs ++ news) → w.grownBy w' v.ownBlock → K (a.put o.dst v') w') :
    if Region.wanted o (yielded ops a.tmps) = true then Oper.wp P o a w K Q else E := by
  have hw : Region.wanted o (yielded ops a.tmps) = true := by simp [Region.wanted, hg]
  rw [if_pos hw]
  obtain ⟨v', w', hrun, r1, r2, _⟩ := run_append_own (P := P) w base t o.type e i z size bytes h1 h2 h3 h4 h5 h6 h7 v n xs hown ad m c news hn hc h1c b1 b2 hb
  unfold Oper.wp
  simp [execOp, hop, resolve, invoke, builtin, hs, hx, hrun, Result.andThen]
  exact hK v' w' r1 r2
theorem wp_append_own {P : Program} {d : Option Tmp} {ty : TypeId} {pos : String} {af : Array Edge} {g : Option (Nat × Bool)} {a : Act} {w : World} {K : Act → World → Prop} {Q : Exit → Act → World → Prop}
    (s x : Operand) (t : TypeId)
    (base : Nat) (e : TypeId) (i : TypeInfo) (z : Value) (size bytes : Nat) (h1 : P.underlying t = some (.slice e)) (h2 : P.info? e = some i) (h3 : i.zero = some z) (h4 : i.size = size) (h5 : i.bytes = bytes) (h6 : z.cells.size = size) (h7 : 0 < size)
    (v : Value) (n : Nat) (xs : List Value) (hs : a.eval s = v) (hown : w.ownsRow base e size v n xs)
    (ad : Addr) (m c : Nat) (news : List Value) (hx : a.eval x = .slice (some ad) m c) (hn : news.length = m * size) (hc : ∀ j u, news[j]? = some u → w.cell? (ad.add j) = some u) (h1c : ∀ u ∈ news, u.oneCell' = true)
    (b1 : n + m ≤ maxLen) (b2 : (n + m) * bytes ≤ 140737488355328) (hb : base ≤ w.heap.size)
    (hK : ∀ v' w', w'.ownsRow base e size v' (n + m) (xs ++ news) → w.grownBy w' v.ownBlock → K (a.put d v') w') :
    Oper.wp P ⟨d, Op.call { callee := Callee.builtin Builtin.append, args := #[s, x], argTypes := #[t, t] }, ty, pos, af, g⟩ a w K Q := by
  obtain ⟨v', w', hrun, r1, r2, _⟩ := run_append_own (P := P) w base t ty e i z size bytes h1 h2 h3 h4 h5 h6 h7 v n xs hown ad m c news hn hc h1c b1 b2 hb
  unfold Oper.wp
  simp [execOp, resolve, invoke, builtin, hs, hx, hrun, Result.andThen]
  exact hK v' w' r1 r2
theorem step_append_own_string {P : Program} {ops : Array Oper} {o : Oper} {a : Act} {w : World} {K : Act → World → Prop} {Q : Exit → Act → World → Prop} {E : Prop}
    (hg : o.guard = none) (sl x : Operand) (t u : TypeId) (hop : o.op = Op.call { callee := Callee.builtin Builtin.append, args := #[sl, x], argTypes := #[t, u] })
    (base : Nat) (e : TypeId) (i : TypeInfo) (h1 : P.underlying t = some (.slice e)) (hu : P.underlying u = some .string) (h2 : P.info? e = some i) (h3 : i.zero = some (.int .u8 0)) (h4 : i.size = 1) (h5 : i.bytes = 1)
    (v : Value) (n : Nat) (xs : List Value) (hs : a.eval sl = v) (hown : w.ownsRow base e 1 v n xs) (s : ByteArray) (hx : a.eval x = .string s)
    (b1 : n + s.size ≤ maxLen) (b2 : n + s.size ≤ 140737488355328) (hb : base ≤ w.heap.size)
    (hK : ∀ v' w', w'.ownsRow base e 1 v' (n + s.size) (xs ++ Lib.strCells s) → w.grownBy w' v.ownBlock → K (a.put o.dst v') w') :
    if Region.wanted o (yielded ops a.tmps) = true then Oper.wp P o a w K Q else E := by
  have hw : Region.wanted o (yielded ops a.tmps) = true := by simp [Region.wanted, hg]
  rw [if_pos hw]
  obtain ⟨v', w', hrun, r1, r2, _⟩ := Lib.run_append_own_string (P := P) w base t u o.type e i h1 hu h2 h3 h4 h5 v n xs hown s b1 b2 hb
  unfold Oper.wp
  simp [execOp, hop, resolve, invoke, builtin, hs, hx, hrun, Result.andThen]
  exact hK v' w' r1 r2

/-- the bytes of one field -/
def oneF (t : ByteArray) : List UInt8 := UInt8.ofNat t.size :: t.data.toList
/-- what lies there after k fields -/
def preF (l : List UInt8) (m : Nat) (ts : List ByteArray) (k : Nat) : List UInt8 := l ++ UInt8.ofNat m :: (ts.take k).flatMap oneF
theorem preF_succ (l : List UInt8) (m : Nat) (ts : List ByteArray) (k : Nat) (hk : k < ts.length) : preF l m ts (k + 1) = (preF l m ts k ++ [UInt8.ofNat ts[k].size]) ++ ts[k].data.toList := by
  unfold preF
  rw [List.take_succ_eq_append_getElem hk, List.flatMap_append]
  simp [oneF]
theorem preF_all (l : List UInt8) (ts : List ByteArray) : preF l ts.length ts ts.length = l ++ fieldsB ts := by
  unfold preF fieldsB oneF; rw [List.take_length]
theorem preF_len_le (l : List UInt8) (m : Nat) (ts : List ByteArray) (k : Nat) (hk : k ≤ ts.length) : (preF l m ts k).length ≤ (preF l m ts ts.length).length := by
  unfold preF
  have h : ts.flatMap oneF = (ts.take k).flatMap oneF ++ (ts.drop k).flatMap oneF := by rw [← List.flatMap_append, List.take_append_drop]
  rw [List.take_length, h]; simp
theorem byteN (m : Nat) : (m : Int) % 256 = ((UInt8.ofNat m).toNat : Int) := by rw [UInt8.toNat_ofNat']; omega
theorem map_strCells (s : ByteArray) : Lib.strCells s = s.data.toList.map fun c => Value.int .u8 (c.toNat : Int) := rfl
theorem own_join {w : World} {B n m : Nat} {e : TypeId} {v : Value} {x y z : List UInt8} {Y : List Value} (h : w.ownsRow B e 1 v n ((x.map fun c => Value.int .u8 (c.toNat : Int)) ++ Y)) (hy : Y = y.map fun c => Value.int .u8 (c.toNat : Int)) (hz : z = x ++ y) (hm : m = n) : w.ownsRow B e 1 v m (z.map fun c => Value.int .u8 (c.toNat : Int)) := by
  subst hz; subst hy; subst hm; rw [List.map_append]; exact h
/-- the block under A is one of type T, as it was in w -/
def Stay (w w' : World) (A : Option Addr) (T : TypeId) : Prop := ∀ a, A = some a → w'.heap[a.block]? = w.heap[a.block]? ∧ ∃ c fz, w'.heap[a.block]? = some (.cells c T fz)
theorem Stay.grown {w w1 w2 : World} {A : Option Addr} {T e : TypeId} {B n size : Nat} {v : Value} {xs : List Value} (h : Stay w w1 A T) (ho : w1.ownsRow B e size v n xs) (hg : w1.grownBy w2 v.ownBlock) (hne : e ≠ T) : Stay w w2 A T := fun a ha => by
  obtain ⟨h1, c, fz, h2⟩ := h a ha
  have hlt : a.block < w1.heap.size := by
    rcases Nat.lt_or_ge a.block w1.heap.size with hlt | hge
    · exact hlt
    · rw [Array.getElem?_eq_none hge] at h2; cases h2
  have e1 := hg.block a.block hlt (own_apart ho h2 hne)
  exact ⟨e1.trans h1, c, fz, e1.trans h2⟩
theorem Stay.ext {w w1 w2 : World} {A : Option Addr} {T : TypeId} (h : Stay w w1 A T) (E : Ext w1 w2) : Stay w w2 A T := fun a ha => by
  obtain ⟨h1, c, fz, h2⟩ := h a ha
  have hlt : a.block < w1.heap.size := by
    rcases Nat.lt_or_ge a.block w1.heap.size with hlt | hge
    · exact hlt
    · rw [Array.getElem?_eq_none hge] at h2; cases h2
  have e1 := Below.block E a.block hlt
  exact ⟨e1.trans h1, c, fz, e1.trans h2⟩
theorem Stay.move {w w1 : World} {A : Option Addr} {T : TypeId} (h : Stay w w A T) (E : Ext w w1) : Stay w1 w1 A T := fun a ha => by
  obtain ⟨_, c, fz, h2⟩ := h.ext E a ha
  exact ⟨rfl, c, fz, h2⟩
theorem Blk.stay {w : World} {b : Nat} {t : TypeId} {cs : List Value} (h : Blk w b t cs) : Stay w w (some ⟨b, 0, none⟩) t := fun a ha => by
  injection ha with ha
  subst ha
  exact ⟨rfl, _, _, h⟩
theorem Stay.rd {w w1 : World} {A : Option Addr} {T : TypeId} {xs : List Value} (h : Stay w w1 A T) (hr : Rd w A xs) : Rd w1 A xs := fun hx => by
  obtain ⟨b, o, e, hr⟩ := hr hx
  refine ⟨b, o, e, fun j u hu => ?_⟩
  exact (World.cell?_of_block (w := w) (a := ⟨b, o + j, none⟩) (h _ e).1).trans (hr j u hu)
end Go.Proofs.Ytnbfjkebakaigaa
