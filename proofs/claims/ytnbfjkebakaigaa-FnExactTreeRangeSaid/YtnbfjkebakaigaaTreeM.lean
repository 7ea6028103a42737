/- A look at a tree in memory. No program in sight. -/
import Derived.Test.YtnbfjkebakaigaaTreeC2
import Derived.Test.YtnbfjkebakaigaaMarkB
namespace Go.Proofs.Ytnbfjkebakaigaa
open Go.RowKit Go.Deep
set_option linter.unusedVariables false
set_option maxRecDepth 100000
/-- blocks of other types stay as they are -/
def TFr (LT BT ST : TypeId) (w w' : World) : Prop := ∀ (k : Nat) (t : TypeId) (cs : List Value), Blk w k t cs → t ≠ LT → t ≠ BT → t ≠ ST → Blk w' k t cs
theorem TFr.refl (LT BT ST : TypeId) (w : World) : TFr LT BT ST w w := fun _ _ _ h _ _ _ => h
theorem TFr.trans {LT BT ST : TypeId} {w w' w'' : World} (h : TFr LT BT ST w w') (k : TFr LT BT ST w' w'') : TFr LT BT ST w w'' := fun a t cs hb h1 h2 h3 => k a t cs (h a t cs hb h1 h2 h3) h1 h2 h3
theorem TFr.ext {LT BT ST : TypeId} {w w' w'' : World} (h : TFr LT BT ST w w') (E : Ext w' w'') : TFr LT BT ST w w'' := fun a t cs hb h1 h2 h3 => (h a t cs hb h1 h2 h3).ext E
theorem blk_ty {w : World} {k : Nat} {t t' : TypeId} {cs cs' : List Value} (h : Blk w k t cs) (h' : Blk w k t' cs') : t = t' := by
  unfold Blk at h h'
  rw [h] at h'
  injection h' with h'; injection h' with _ h' _
theorem own_some_blk {w : World} {B n size g : Nat} {e : TypeId} {v : Value} {xs : List Value} (h : w.ownsRow B e size v n xs) (hg : v.ownBlock = some g) : ∃ cs, Blk w g e cs := by
  obtain ⟨_, h⟩ := h
  rcases h with ⟨rfl, _⟩ | ⟨g', cap, cur, rfl, _, hh, _⟩
  · cases hg
  · injection hg with hg
    subst hg
    exact ⟨cur.toList, by simpa [Blk] using hh⟩
theorem TFr.set {LT BT ST : TypeId} {w w' : World} (h : TFr LT BT ST w w') {b : Nat} {T : TypeId} {cs0 : List Value} (hb : Blk w' b T cs0) (hT : T = LT ∨ T = BT) (i : Nat) (u : Value) : TFr LT BT ST w (w'.setCell ⟨b, i, none⟩ u) := fun a t cs ha h1 h2 h3 => by
  have h4 := h a t cs ha h1 h2 h3
  refine h4.far (p := ⟨b, i, none⟩) (fun e => ?_) u
  have e : a = b := e
  subst e
  have := blk_ty h4 hb
  rcases hT with rfl | rfl
  · exact h1 this
  · exact h2 this
theorem TFr.row {LT BT ST : TypeId} {w w' w'' : World} (h : TFr LT BT ST w w') {B n size : Nat} {v : Value} {xs : List Value} (ho : w'.ownsRow B ST size v n xs) (hg : w'.grownBy w'' v.ownBlock) : TFr LT BT ST w w'' := fun a t cs ha h1 h2 h3 => by
  have h4 := h a t cs ha h1 h2 h3
  refine (hg.block a h4.lt (fun e => ?_)).trans h4
  obtain ⟨cs', hb⟩ := own_some_blk ho e.symm
  exact h3 (blk_ty h4 hb)
/-- where a look lies, and what has turned since two worlds -/
structure TSt (LT BT ST : TypeId) (B xb sb : Nat) (w0 wc : World) (hd : List Value) (v : Value) (s : List Bool) (q : List ByteArray) (w : World) : Prop where
  lb : LT ≠ BT
  ls : LT ≠ ST
  bt : BT ≠ ST
  hB : w0.heap.size ≤ B
  hx : w0.heap.size ≤ xb
  hs : w0.heap.size ≤ sb
  bx : Blk w xb LT hd
  bs : Blk w sb BT (s.map Value.bool)
  row : w.ownsRow B ST 1 v q.length (q.map fun c => Value.string c)
  ex : Ext w0 w
  fr : TFr LT BT ST wc w
  hBw : B ≤ w.heap.size
section
variable {LT BT ST : TypeId} {B xb sb : Nat} {w0 wc w w' : World} {hd : List Value} {v : Value} {s : List Bool} {q : List ByteArray}
theorem TSt.ext (h : TSt LT BT ST B xb sb w0 wc hd v s q w) (E : Ext w w') : TSt LT BT ST B xb sb w0 wc hd v s q w' :=
  ⟨h.lb, h.ls, h.bt, h.hB, h.hx, h.hs, h.bx.ext E, h.bs.ext E, own_ext h.row E, h.ex.trans E, h.fr.ext E, Nat.le_trans h.hBw E.le⟩
theorem TSt.here (h : TSt LT BT ST B xb sb w0 wc hd v s q w) : TSt LT BT ST B xb sb w0 w hd v s q w := { h with fr := TFr.refl _ _ _ _ }
theorem TSt.since {wd : World} (h : TSt LT BT ST B xb sb w0 wc hd v s q w) (k : TFr LT BT ST wd wc) : TSt LT BT ST B xb sb w0 wd hd v s q w := { h with fr := k.trans h.fr }
theorem TSt.ne (h : TSt LT BT ST B xb sb w0 wc hd v s q w) : xb ≠ sb := fun e => by
  have h1 := h.bx
  rw [e] at h1
  exact h.lb (blk_ty h1 h.bs)
theorem TSt.setX (h : TSt LT BT ST B xb sb w0 wc hd v s q w) (i : Nat) (u : Value) : TSt LT BT ST B xb sb w0 wc (hd.set i u) v s q (w.setCell ⟨xb, i, none⟩ u) :=
  ⟨h.lb, h.ls, h.bt, h.hB, h.hx, h.hs, h.bx.set i u, h.bs.far (p := ⟨xb, i, none⟩) (Ne.symm h.ne) u,
   own_far h.row (grown_step (World.grownBy.refl _ _) (Ext.refl _) xb i u) (fun e => by obtain ⟨cs', hb⟩ := own_some_blk h.row e; exact h.ls (blk_ty h.bx hb)),
   h.ex.set (p := ⟨xb, i, none⟩) h.hx u, h.fr.set h.bx (.inl rfl) i u, by rw [World.size_setCell]; exact h.hBw⟩
theorem TSt.setV (h : TSt LT BT ST B xb sb w0 wc hd v s q w) (i : Nat) (u : Value) {hd' : List Value} (e : hd.set i u = hd') : TSt LT BT ST B xb sb w0 wc hd' v s q (w.setCell ⟨xb, i, none⟩ u) := e ▸ h.setX i u
theorem TSt.mark (h : TSt LT BT ST B xb sb w0 wc hd v s q w) (j : Nat) (b : Bool) : TSt LT BT ST B xb sb w0 wc hd v (s.set j b) q (w.setCell ⟨sb, j, none⟩ (.bool b)) :=
  ⟨h.lb, h.ls, h.bt, h.hB, h.hx, h.hs, h.bx.far (p := ⟨sb, j, none⟩) h.ne _, (h.bs.set j (.bool b)).of_eq (by rw [List.map_set]),
   own_far h.row (grown_step (World.grownBy.refl _ _) (Ext.refl _) sb j _) (fun e => by obtain ⟨cs', hb⟩ := own_some_blk h.row e; exact h.bt (blk_ty h.bs hb)),
   h.ex.set (p := ⟨sb, j, none⟩) h.hs _, h.fr.set h.bs (.inr rfl) j _, by rw [World.size_setCell]; exact h.hBw⟩
theorem TSt.app {v' : Value} {n : Nat} {q' : List ByteArray} (h : TSt LT BT ST B xb sb w0 wc hd v s q w) (hn : q'.length = n) (ho : w'.ownsRow B ST 1 v' n (q'.map fun c => Value.string c)) (hg : w.grownBy w' v.ownBlock) : TSt LT BT ST B xb sb w0 wc hd v' s q' w' :=
  ⟨h.lb, h.ls, h.bt, h.hB, h.hx, h.hs,
   (hg.block xb h.bx.lt (fun e => by obtain ⟨cs', hb⟩ := own_some_blk h.row e.symm; exact h.ls (blk_ty h.bx hb))).trans h.bx,
   (hg.block sb h.bs.lt (fun e => by obtain ⟨cs', hb⟩ := own_some_blk h.row e.symm; exact h.bt (blk_ty h.bs hb))).trans h.bs,
   by rw [hn]; exact ho, h.ex.grown hg (fun k hk => Nat.le_trans h.hB (own_blk h.row k hk)), h.fr.row h.row hg, Nat.le_trans h.hBw hg.size⟩
theorem TSt.seen (h : TSt LT BT ST B xb sb w0 wc hd v s q w) {j : Nat} {b : Bool} (hj : s[j]? = some b) : w.cell? ⟨sb, j, none⟩ = some (.bool b) := by
  obtain ⟨hl, rfl⟩ := List.getElem?_eq_some_iff.1 hj
  have := h.bs.cell (i := j) (by simpa using hl)
  rw [this]; simp
theorem TSt.key (h : TSt LT BT ST B xb sb w0 wc hd v s q w) {j : Nat} {x : ByteArray} (hj : q[j]? = some x) : ∃ g cap, v = .slice (some ⟨g, 0, none⟩) q.length cap ∧ w.cell? ⟨g, j, none⟩ = some (.string x) := by
  obtain ⟨hl, rfl⟩ := List.getElem?_eq_some_iff.1 hj
  obtain ⟨g, cap, cs, rfl, hg, h1, h2, hb, h3, h4⟩ := own_form h.row (by omega)
  refine ⟨g, cap, rfl, ?_⟩
  obtain ⟨b', o', e', hx⟩ := (Rd.take_ hb h4) (by intro e; have h0 := congrArg List.length e; rw [List.length_map, List.length_nil] at h0; omega)
  injection e' with e'
  injection e' with e1 e2 _
  subst e1; subst e2
  have := hx j (.string q[j]) (by simp [List.getElem?_map, List.getElem?_eq_getElem hl])
  rwa [Nat.zero_add] at this
theorem TSt.form (h : TSt LT BT ST B xb sb w0 wc hd v s q w) : ∃ A cap, v = .slice A q.length cap := own_slice h.row
end
/-- what the look at a place answers: whether it went well, and the look -/
def TPost (LT BT ST : TypeId) (B xb sb : Nat) (w0 wc : World) (hd : Bool → Value → List Value) (f : Nat) (q : List ByteArray) (pot : Nat) (R : Option VSt) (e : Ending) (w' : World) : Prop :=
  ∃ (d : Int) (ok : Bool) (v' : Value) (s' : List Bool) (q' : List ByteArray), e = .returned (.int .i64 d) ∧ TSt LT BT ST B xb sb w0 wc (hd ok v') v' s' q' w' ∧ q.length ≤ q'.length ∧ q'.length + 4 * unseen s' ≤ pot ∧ 0 ≤ d ∧ d ≤ (f : Int) ∧
    ((ok = true ∧ R = some (d.toNat, s', q')) ∨ (ok = false ∧ R = none))
end Go.Proofs.Ytnbfjkebakaigaa
