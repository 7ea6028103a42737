/- Plain facts about memory, used by every walk: what it is to read as a list, a whole block, and to have grown. No program in sight. -/
import Derived.WalkKit
import Derived.Lib.Hide
import Derived.Deep.OwnRows
import Derived.Deep.Draws
import Derived.Deep.QuietTactic
import Derived.BigQuiet
namespace Go.Proofs.Ytpjpkkninkpllaa
open Go.RowKit

theorem ret_val {a b : Value} (h : a = b) : Ending.returned a = .returned b := by rw [h]
theorem ret_bool {a b : Bool} (h : a = b) : Ending.returned (.bool a) = .returned (.bool b) := by rw [h]
theorem ret_int {k : IntKind} {a b : Int} (h : a = b) : Ending.returned (.int k a) = .returned (.int k b) := by rw [h]

/-- memory has at most grown: all that was there is as it was -/
def Ext (w w' : World) : Prop := Below w.heap.size w w'
section
variable {w w' w'' : World}
theorem Ext.refl (w : World) : Ext w w := Below.refl _ _
theorem Ext.trans (h : Ext w w') (k : Ext w' w'') : Ext w w'' := Below.trans h (Below.mono k (Below.size h))
theorem Ext.alloc (h : Ext w w') (o : Obj) : Ext w (w'.alloc o) := Below.alloc h (Below.size h) o
theorem Ext.drew (h : Ext w w') : Ext w w'.drew := Below.drew h
theorem Ext.drewN (h : Ext w w') (n : Nat) : Ext w (w'.drewN n) := ⟨h.os, h.tape, h.output, h.size, h.block⟩
theorem Ext.set (h : Ext w w') {p : Addr} (hp : w.heap.size ≤ p.block) (u : Value) : Ext w (w'.setCell p u) := Below.setCell h hp u
theorem Ext.grown (h : Ext w w') {row : Option Nat} (hg : w'.grownBy w'' row) (hr : ∀ k, row = some k → w.heap.size ≤ k) : Ext w w'' := Below.grown h hg (Below.size h) hr
theorem Ext.le (h : Ext w w') : w.heap.size ≤ w'.heap.size := Below.size h

theorem lt_of_cell {a : Addr} {v : Value} (h : w.cell? a = some v) : a.block < w.heap.size := by
  rcases Nat.lt_or_ge a.block w.heap.size with hlt | hge
  · exact hlt
  · simp [World.cell?, Array.getElem?_eq_none hge] at h
theorem Ext.cell (h : Ext w w') {a : Addr} {v : Value} (hc : w.cell? a = some v) : w'.cell? a = some v := (Below.cell h (lt_of_cell hc)).trans hc

/-- the slice value over A reads as the cells xs -/
def Rd (w : World) (A : Option Addr) (xs : List Value) : Prop := xs ≠ [] → ∃ b o, A = some ⟨b, o, none⟩ ∧ ∀ j u, xs[j]? = some u → w.cell? ⟨b, o + j, none⟩ = some u
variable {A : Option Addr} {xs : List Value}
theorem Rd.nil (w : World) (A : Option Addr) : Rd w A [] := fun h => absurd rfl h
theorem Rd.ext (h : Rd w A xs) (e : Ext w w') : Rd w' A xs := fun hx => by
  obtain ⟨b, o, e1, e2⟩ := h hx
  exact ⟨b, o, e1, fun j u hu => e.cell (e2 j u hu)⟩
theorem Rd.at_ {k : Nat} (h : Rd w A xs) (hk : k < xs.length) : ∃ b o, A = some ⟨b, o, none⟩ ∧ w.cell? ⟨b, o + k, none⟩ = some xs[k] := by
  obtain ⟨b, o, e1, e2⟩ := h (by intro e; subst e; simp at hk)
  exact ⟨b, o, e1, e2 k _ (List.getElem?_eq_getElem hk)⟩
theorem Rd.map_ {α : Type} {f : α → Value} {l : List α} {k : Nat} (h : Rd w A (l.map f)) (hk : k < l.length) : ∃ b o, A = some ⟨b, o, none⟩ ∧ w.cell? ⟨b, o + k, none⟩ = some (f l[k]) := by
  obtain ⟨b, o, e1, e2⟩ := h.at_ (k := k) (by simpa using hk)
  exact ⟨b, o, e1, by simpa using e2⟩

/-- block b is just the cells cs of type t, none frozen -/
def Blk (w : World) (b : Nat) (t : TypeId) (cs : List Value) : Prop := w.heap[b]? = some (.cells cs.toArray t (0, 0))
variable {b : Nat} {t : TypeId} {cs : List Value}
theorem Blk.lt (h : Blk w b t cs) : b < w.heap.size := by
  rcases Nat.lt_or_ge b w.heap.size with hlt | hge
  · exact hlt
  · unfold Blk at h; rw [Array.getElem?_eq_none hge] at h; cases h
theorem Blk.cell (h : Blk w b t cs) {i : Nat} (hi : i < cs.length) : w.cell? ⟨b, i, none⟩ = some cs[i] := by
  unfold Blk at h
  simp [World.cell?, h, hi]
theorem Blk.frozen (h : Blk w b t cs) (i : Nat) : w.frozen? ⟨b, i, none⟩ = false := by
  unfold Blk at h
  simp [World.frozen?, h]
theorem Blk.ext (h : Blk w b t cs) (e : Ext w w') : Blk w' b t cs := (Below.block e b h.lt).trans h
theorem Blk.of_eq (h : Blk w b t cs) {ds : List Value} (e : cs = ds) : Blk w b t ds := e ▸ h
theorem Blk.new (w : World) (t : TypeId) (cs : List Value) : Blk (w.alloc (.cells cs.toArray t)) w.heap.size t cs := heap_alloc_new w _
theorem Blk.alloc (h : Blk w b t cs) (o : Obj) : Blk (w.alloc o) b t cs := (Below.heap_alloc w o b h.lt).trans h
theorem Blk.drew (h : Blk w b t cs) : Blk w.drew b t cs := h
theorem Blk.drewN (h : Blk w b t cs) (n : Nat) : Blk (w.drewN n) b t cs := h
theorem Blk.set (h : Blk w b t cs) (i : Nat) (u : Value) : Blk (w.setCell ⟨b, i, none⟩ u) b t (cs.set i u) := by
  unfold Blk at h ⊢
  simp [World.setCell, Array.getElem?_modify, h]
theorem Blk.far (h : Blk w b t cs) {p : Addr} (hp : b ≠ p.block) (u : Value) : Blk (w.setCell p u) b t cs := (Below.heap_setCell w p u b hp).trans h
theorem Blk.rd (h : Blk w b t cs) : Rd w (some ⟨b, 0, none⟩) cs := fun _ => ⟨b, 0, rfl, fun j u hu => by
  obtain ⟨hj, rfl⟩ := List.getElem?_eq_some_iff.1 hu
  rw [Nat.zero_add]; exact h.cell hj⟩
theorem Blk.made (w : World) (t : TypeId) (z : Value) (n : Nat) : Blk (w.alloc (.cells (madeCells #[z] n) t)) w.heap.size t (List.replicate n z) := by
  have e : madeCells #[z] n = (List.replicate n z).toArray := by rw [← toList_madeCells_one]
  rw [e]; exact Blk.new _ _ _
/-- what append leaves, with its whole block -/
theorem own_form {base : Nat} {e : TypeId} {size n : Nat} {v : Value} {ys : List Value} (h : w.ownsRow base e size v n ys) (hn : 0 < n) :
    ∃ g cap cs, v = .slice (some ⟨g, 0, none⟩) n cap ∧ base ≤ g ∧ n ≤ cap ∧ cap ≤ maxLen ∧ Blk w g e cs ∧ cs.length = cap * size ∧ cs.take (n * size) = ys := by
  obtain ⟨_, h⟩ := h
  rcases h with ⟨_, h0⟩ | ⟨g, cap, cur, hv, hb, hh, h1, h2, h3, h4⟩
  · omega
  · exact ⟨g, cap, cur.toList, hv, hb, h1, h2, by simpa [Blk] using hh, by simpa using h3, h4⟩
theorem Rd.take_ {ys : List Value} {n : Nat} (h : Blk w b t cs) (e : cs.take n = ys) : Rd w (some ⟨b, 0, none⟩) ys := fun _ => ⟨b, 0, rfl, fun j u hu => by
  subst e
  have hj : j < n := by
    rcases Nat.lt_or_ge j n with hj | hj
    · exact hj
    · rw [List.getElem?_take, if_neg (by omega)] at hu; cases hu
  rw [List.getElem?_take, if_pos hj] at hu
  obtain ⟨hj, rfl⟩ := List.getElem?_eq_some_iff.1 hu
  rw [Nat.zero_add]; exact h.cell hj⟩
end

/-- what a copying loop has made after k rounds -/
theorem fill_step {α : Type} (f : α → Value) (z : Value) (l : List α) (k n : Nat) (hk : k < l.length) (hn : l.length = n) :
    ((l.take k).map f ++ List.replicate (n - k) z).set k (f l[k]) = (l.take (k + 1)).map f ++ List.replicate (n - (k + 1)) z := by
  obtain ⟨m, hm⟩ : ∃ m, n - k = m + 1 := ⟨n - k - 1, by omega⟩
  have hl : ((l.take k).map f).length = k := by simp; omega
  rw [show n - (k + 1) = m from by omega, hm, List.set_append, if_neg (by omega), hl, Nat.sub_self, List.replicate_succ, List.set_cons_zero, List.take_succ_eq_append_getElem hk, List.map_append, List.append_assoc]
  rfl
theorem fill_done {α : Type} (f : α → Value) (z : Value) (l : List α) (n : Nat) (hn : l.length = n) : (l.take n).map f ++ List.replicate (n - n) z = l.map f := by
  rw [Nat.sub_self, List.take_of_length_le (by omega)]; simp
theorem fill_at {α : Type} (f : α → Value) (z : Value) (l : List α) (k n : Nat) (hk : k < n) (hn : l.length = n) : ∃ u, ((l.take k).map f ++ List.replicate (n - k) z)[k]? = some u := by
  have hl : k < ((l.take k).map f ++ List.replicate (n - k) z).length := by simp; omega
  exact ⟨_, List.getElem?_eq_getElem hl⟩
end Go.Proofs.Ytpjpkkninkpllaa
