/- Plain facts about memory, used by every walk: what it is to read as a list, a whole block, and to have grown. No program in sight. -/
import Derived.WalkKit
import Derived.Lib.Hide
import Derived.Deep.OwnRows
import Derived.Deep.Draws
import Derived.Deep.QuietTactic
import Derived.BigQuiet
import Derived.StillTailTactics
import Derived.Deep.RegionWith
namespace Go.Proofs.Yteaefjicpefgnaa
open Go.RowKit
set_option linter.unusedVariables false
set_option maxRecDepth 100000

theorem ret_val {a b : Value} (h : a = b) : Ending.returned a = .returned b := by rw [h]
theorem ret_bool {a b : Bool} (h : a = b) : Ending.returned (.bool a) = .returned (.bool b) := by rw [h]
theorem ret_int {k : IntKind} {a b : Int} (h : a = b) : Ending.returned (.int k a) = .returned (.int k b) := by rw [h]

/-- memory has at most grown: all that was there is as it was -/
def Ext (w w' : World) : Prop := Below w.heap.size w w'
section
variable {w w' w'' : World}
theorem Ext.refl (w : World) : Ext w w := Below.refl _ _
theorem Ext.trans (h : Ext w w') (k : Ext w' w'') : Ext w w'' := Below.trans h (Below.mono k (Below.size h))
theorem Ext.alloc (h : Ext w w') (o : Obj) : Ext w (w'.alloc o) := Below.alloc h (Below.size h) o
theorem Ext.drew (h : Ext w w') : Ext w w'.drew := Below.drew h
theorem Ext.drewN (h : Ext w w') (n : Nat) : Ext w (w'.drewN n) := ⟨h.os, h.tape, h.output, h.size, h.block⟩
theorem Ext.set (h : Ext w w') {p : Addr} (hp : w.heap.size ≤ p.block) (u : Value) : Ext w (w'.setCell p u) := Below.setCell h hp u
theorem Ext.grown (h : Ext w w') {row : Option Nat} (hg : w'.grownBy w'' row) (hr : ∀ k, row = some k → w.heap.size ≤ k) : Ext w w'' := Below.grown h hg (Below.size h) hr
theorem Ext.le (h : Ext w w') : w.heap.size ≤ w'.heap.size := Below.size h

theorem lt_of_cell {a : Addr} {v : Value} (h : w.cell? a = some v) : a.block < w.heap.size := by
  rcases Nat.lt_or_ge a.block w.heap.size with hlt | hge
  · exact hlt
  · simp [World.cell?, Array.getElem?_eq_none hge] at h
theorem Ext.cell (h : Ext w w') {a : Addr} {v : Value} (hc : w.cell? a = some v) : w'.cell? a = some v := (Below.cell h (lt_of_cell hc)).trans hc

/-- the slice value over A reads as the cells xs -/
def Rd (w : World) (A : Option Addr) (xs : List Value) : Prop := xs ≠ [] → ∃ b o, A = some ⟨b, o, none⟩ ∧ ∀ j u, xs[j]? = some u → w.cell? ⟨b, o + j, none⟩ = some u
variable {A : Option Addr} {xs : List Value}
theorem Rd.nil (w : World) (A : Option Addr) : Rd w A [] := fun h => absurd rfl h
theorem Rd.ext (h : Rd w A xs) (e : Ext w w') : Rd w' A xs := fun hx => by
  obtain ⟨b, o, e1, e2⟩ := h hx
  exact ⟨b, o, e1, fun j u hu => e.cell (e2 j u hu)⟩
theorem Rd.at_ {k : Nat} (h : Rd w A xs) (hk : k < xs.length) : ∃ b o, A = some ⟨b, o, none⟩ ∧ w.cell? ⟨b, o + k, none⟩ = some xs[k] := by
  obtain ⟨b, o, e1, e2⟩ := h (by intro e; subst e; simp at hk)
  exact ⟨b, o, e1, e2 k _ (List.getElem?_eq_getElem hk)⟩
theorem Rd.map_ {α : Type} {f : α → Value} {l : List α} {k : Nat} (h : Rd w A (l.map f)) (hk : k < l.length) : ∃ b o, A = some ⟨b, o, none⟩ ∧ w.cell? ⟨b, o + k, none⟩ = some (f l[k]) := by
  obtain ⟨b, o, e1, e2⟩ := h.at_ (k := k) (by simpa using hk)
  exact ⟨b, o, e1, by simpa using e2⟩

/-- block b is just the cells cs of type t, none frozen -/
def Blk (w : World) (b : Nat) (t : TypeId) (cs : List Value) : Prop := w.heap[b]? = some (.cells cs.toArray t (0, 0))
variable {b : Nat} {t : TypeId} {cs : List Value}
theorem Blk.lt (h : Blk w b t cs) : b < w.heap.size := by
  rcases Nat.lt_or_ge b w.heap.size with hlt | hge
  · exact hlt
  · unfold Blk at h; rw [Array.getElem?_eq_none hge] at h; cases h
theorem Blk.cell (h : Blk w b t cs) {i : Nat} (hi : i < cs.length) : w.cell? ⟨b, i, none⟩ = some cs[i] := by
  unfold Blk at h
  simp [World.cell?, h, hi]
theorem Blk.frozen (h : Blk w b t cs) (i : Nat) : w.frozen? ⟨b, i, none⟩ = false := by
  unfold Blk at h
  simp [World.frozen?, h]
theorem Blk.ext (h : Blk w b t cs) (e : Ext w w') : Blk w' b t cs := (Below.block e b h.lt).trans h
theorem Blk.of_eq (h : Blk w b t cs) {ds : List Value} (e : cs = ds) : Blk w b t ds := e ▸ h
theorem Blk.new (w : World) (t : TypeId) (cs : List Value) : Blk (w.alloc (.cells cs.toArray t)) w.heap.size t cs := heap_alloc_new w _
theorem Blk.alloc (h : Blk w b t cs) (o : Obj) : Blk (w.alloc o) b t cs := (Below.heap_alloc w o b h.lt).trans h
theorem Blk.drew (h : Blk w b t cs) : Blk w.drew b t cs := h
theorem Blk.drewN (h : Blk w b t cs) (n : Nat) : Blk (w.drewN n) b t cs := h
theorem Blk.set (h : Blk w b t cs) (i : Nat) (u : Value) : Blk (w.setCell ⟨b, i, none⟩ u) b t (cs.set i u) := by
  unfold Blk at h ⊢
  simp [World.setCell, Array.getElem?_modify, h]
theorem Blk.far (h : Blk w b t cs) {p : Addr} (hp : b ≠ p.block) (u : Value) : Blk (w.setCell p u) b t cs := (Below.heap_setCell w p u b hp).trans h
theorem Blk.rd (h : Blk w b t cs) : Rd w (some ⟨b, 0, none⟩) cs := fun _ => ⟨b, 0, rfl, fun j u hu => by
  obtain ⟨hj, rfl⟩ := List.getElem?_eq_some_iff.1 hu
  rw [Nat.zero_add]; exact h.cell hj⟩
theorem Blk.made (w : World) (t : TypeId) (z : Value) (n : Nat) : Blk (w.alloc (.cells (madeCells #[z] n) t)) w.heap.size t (List.replicate n z) := by
  have e : madeCells #[z] n = (List.replicate n z).toArray := by rw [← toList_madeCells_one]
  rw [e]; exact Blk.new _ _ _
/-- what append leaves, with its whole block -/
theorem own_form {base : Nat} {e : TypeId} {size n : Nat} {v : Value} {ys : List Value} (h : w.ownsRow base e size v n ys) (hn : 0 < n) :
    ∃ g cap cs, v = .slice (some ⟨g, 0, none⟩) n cap ∧ base ≤ g ∧ n ≤ cap ∧ cap ≤ maxLen ∧ Blk w g e cs ∧ cs.length = cap * size ∧ cs.take (n * size) = ys := by
  obtain ⟨_, h⟩ := h
  rcases h with ⟨_, h0⟩ | ⟨g, cap, cur, hv, hb, hh, h1, h2, h3, h4⟩
  · omega
  · exact ⟨g, cap, cur.toList, hv, hb, h1, h2, by simpa [Blk] using hh, by simpa using h3, h4⟩
theorem Rd.take_ {ys : List Value} {n : Nat} (h : Blk w b t cs) (e : cs.take n = ys) : Rd w (some ⟨b, 0, none⟩) ys := fun _ => ⟨b, 0, rfl, fun j u hu => by
  subst e
  have hj : j < n := by
    rcases Nat.lt_or_ge j n with hj | hj
    · exact hj
    · rw [List.getElem?_take, if_neg (by omega)] at hu; cases hu
  rw [List.getElem?_take, if_pos hj] at hu
  obtain ⟨hj, rfl⟩ := List.getElem?_eq_some_iff.1 hu
  rw [Nat.zero_add]; exact h.cell hj⟩
end

/-- what a copying loop has made after k rounds -/
theorem fill_step {α : Type} (f : α → Value) (z : Value) (l : List α) (k n : Nat) (hk : k < l.length) (hn : l.length = n) :
    ((l.take k).map f ++ List.replicate (n - k) z).set k (f l[k]) = (l.take (k + 1)).map f ++ List.replicate (n - (k + 1)) z := by
  obtain ⟨m, hm⟩ : ∃ m, n - k = m + 1 := ⟨n - k - 1, by omega⟩
  have hl : ((l.take k).map f).length = k := by simp; omega
  rw [show n - (k + 1) = m from by omega, hm, List.set_append, if_neg (by omega), hl, Nat.sub_self, List.replicate_succ, List.set_cons_zero, List.take_succ_eq_append_getElem hk, List.map_append, List.append_assoc]
  rfl
theorem fill_done {α : Type} (f : α → Value) (z : Value) (l : List α) (n : Nat) (hn : l.length = n) : (l.take n).map f ++ List.replicate (n - n) z = l.map f := by
  rw [Nat.sub_self, List.take_of_length_le (by omega)]; simp
theorem fill_at {α : Type} (f : α → Value) (z : Value) (l : List α) (k n : Nat) (hk : k < n) (hn : l.length = n) : ∃ u, ((l.take k).map f ++ List.replicate (n - k) z)[k]? = some u := by
  have hl : k < ((l.take k).map f ++ List.replicate (n - k) z).length := by simp; omega
  exact ⟨_, List.getElem?_eq_getElem hl⟩
/-- a world that has at most grown -/
structure Gr (w : World) where
  val : World
  ext : Ext w val
instance (w : World) : Nonempty (Gr w) := ⟨⟨w, Ext.refl w⟩⟩
theorem Gr.cell {w : World} {a : Addr} {v : Value} (h : w.cell? a = some v) : ∀ x : Gr w, x.val.cell? a = some v := fun x => x.ext.cell h
/-- a region that draws its order, whose operations read old memory and whose calls answer by value: one walk -/
theorem wp_region_gr {P : Program} {id : Nat} {Q : Exit → Act → World → Prop} {a : Act} {w : World} {l : List Oper} (hm : P.follows .mixedOrders = true) (hB : Region.lexB .any l.toArray = true)
    (h : wpQuiet P l.toArray (fun W => ∃ x : Gr w, W = x.val) (fun a' => ∀ x : Gr w, Q .normal a' x.val) l a) : (Code.region id l.toArray true).wp P Q a w := by
  refine wp_region_quiet (C := fun W => ∃ x : Gr w, W = x.val) hm hB ⟨⟨w.drew, (Ext.refl _).drew⟩, rfl⟩ ?_
  have e : (fun a' : Act => ∀ w' : World, (∃ x : Gr w, w' = x.val) → Q .normal a' w') = fun a' => ∀ x : Gr w, Q .normal a' x.val := by
    funext a'
    exact propext ⟨fun h x => h _ ⟨x, rfl⟩, fun h w' ⟨x, hx⟩ => by rw [hx]; exact h x⟩
  rw [e]
  simpa using h
/-- a contract that answers by value, met in such a region -/
theorem Calls.gr {P : Program} {f : FuncId} {args : Array Value} {w : World} {x : Gr w} {v : Value}
    (h : Calls P f args x.val fun e w' => e = .returned v ∧ Ext x.val w') : Calls P f args x.val fun e w'' => e = .returned v ∧ ∃ y : Gr w, w'' = y.val :=
  h.mono fun _ w' ⟨he, hE⟩ => ⟨he, ⟨w', x.ext.trans hE⟩, rfl⟩
theorem Calls.gr_same {P : Program} {f : FuncId} {args : Array Value} {w : World} {x : Gr w} {v : Value}
    (h : Calls P f args x.val fun e w' => e = .returned v ∧ x.val = w') : Calls P f args x.val fun e w'' => e = .returned v ∧ ∃ y : Gr w, w'' = y.val :=
  h.mono fun _ w' ⟨he, hE⟩ => ⟨he, x, hE.symm⟩
/-- the cells of a struct of three -/
theorem Blk.cells3 {w : World} {b : Nat} {t : TypeId} {x y z : Value} (h : Blk w b t [x, y, z]) : w.cell? ⟨b, 0, none⟩ = some x ∧ w.cell? ⟨b, 1, none⟩ = some y ∧ w.cell? ⟨b, 2, none⟩ = some z :=
  ⟨h.cell (i := 0) (by simp), h.cell (i := 1) (by simp), h.cell (i := 2) (by simp)⟩
theorem Blk.cells2 {w : World} {b : Nat} {t : TypeId} {x y : Value} (h : Blk w b t [x, y]) : w.cell? ⟨b, 0, none⟩ = some x ∧ w.cell? ⟨b, 1, none⟩ = some y :=
  ⟨h.cell (i := 0) (by simp), h.cell (i := 1) (by simp)⟩
theorem Blk.cells1 {w : World} {b : Nat} {t : TypeId} {x : Value} (h : Blk w b t [x]) : w.cell? ⟨b, 0, none⟩ = some x := h.cell (i := 0) (by simp)
theorem Blk.cells4 {w : World} {b : Nat} {t : TypeId} {x y z u : Value} (h : Blk w b t [x, y, z, u]) : w.cell? ⟨b, 0, none⟩ = some x ∧ w.cell? ⟨b, 1, none⟩ = some y ∧ w.cell? ⟨b, 2, none⟩ = some z ∧ w.cell? ⟨b, 3, none⟩ = some u :=
  ⟨h.cell (i := 0) (by simp), h.cell (i := 1) (by simp), h.cell (i := 2) (by simp), h.cell (i := 3) (by simp)⟩
/-- Derived/StillTail's law, the draw under its name -/
theorem wp_region_tail {P : Program} {id : Nat} {Q : Exit → Act → World → Prop} {a : Act} {w : World} {l : List Oper} (n : Nat) (hm : P.follows .mixedOrders = true) (hB : Region.lexTailB .any l.toArray n = true)
    (h : wpStill P l.toArray w.drew (fun a' => wpList P l.toArray Q (l.drop n) a' w.drew) (l.take n) a) : (Code.region id l.toArray true).wp P Q a w :=
  wp_region_still_tail n hm hB h
/-- what the laws' measuring functions answer: a number at least -1; if it is not negative, what was measured is small -/
def SzPost (w : World) (left : Int) (G : Prop) (e : Ending) (w' : World) : Prop := ∃ v : Int, e = .returned (.int .i64 v) ∧ -1 ≤ v ∧ v ≤ left ∧ (0 ≤ v → G) ∧ Ext w w'
end Go.Proofs.Yteaefjicpefgnaa
