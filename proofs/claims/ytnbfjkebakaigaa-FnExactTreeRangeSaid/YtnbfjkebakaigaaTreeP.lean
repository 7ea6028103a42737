/- What it is to look through a tree. No program in sight. -/
import Derived.Test.YtnbfjkebakaigaaInRange
namespace Go.Proofs.Ytnbfjkebakaigaa
open Go.RowKit
set_option linter.unusedVariables false
set_option maxRecDepth 100000
/-- a node: whether it is a leaf, its keys, its kids -/
structure CNode where
  lf : Bool
  ks : List ByteArray
  ds : List Int
abbrev VSt := Nat × List Bool × List ByteArray
def unseen (s : List Bool) : Nat := s.count false
/-- is the kid number i right behind the others -/
def kidOK (i d d' b : Nat) (q nk : List ByteArray) : Bool := i == 0 || (d' == d && match q[b]?, nk[i - 1]? with | some x, some y => x.toList == y.toList | _, _ => false)
def kidsV (vis : Int → List Bool → List ByteArray → Option VSt) (nk : List ByteArray) : List Int → Nat → VSt → Option VSt
  | [], _, st => some st
  | k :: r, i, (d, s, q) => match vis k s q with
    | none => none
    | some (d', s', q') => if kidOK i d d' q.length q' nk then kidsV vis nk r (i + 1) (d', s', q') else none
/-- the shape of an inner node -/
def innerB (n : CNode) : Bool := decide (n.ds.length = n.ks.length + 1) && decide (2 ≤ n.ds.length)
def leafB (r : Bool) (n : CNode) : Bool := decide (n.ds.length = 0) && (r || decide (0 < n.ks.length))
def visit (N : List CNode) : Nat → Bool → Int → List Bool → List ByteArray → Option VSt
  | 0, _, _, _, _ => none
  | f + 1, r, k, s, q =>
    if 0 ≤ k then match N[k.toNat]? with
      | none => none
      | some n =>
        if s[k.toNat]? = some false then
          if 4 < n.ks.length then none else
          if n.lf then (if leafB r n then some (1, s.set k.toNat true, q ++ n.ks) else none)
          else if innerB n then match kidsV (visit N f false) n.ks n.ds 0 (0, s.set k.toNat true, q) with
            | none => none
            | some (d, s', q') => some (d + 1, s', q')
          else none
        else none
    else none
/-- how a look grows -/
structure VGr (s s' : List Bool) (q q' : List ByteArray) : Prop where
  len : s'.length = s.length
  mono : ∀ j : Nat, s[j]? = some true → s'[j]? = some true
  un : unseen s' ≤ unseen s
  pre : ∃ m, q' = q ++ m ∧ m.length + 4 * unseen s' ≤ 4 * unseen s
theorem VGr.refl (s : List Bool) (q : List ByteArray) : VGr s s q q := ⟨rfl, fun _ h => h, Nat.le_refl _, [], by simp, by simp⟩
theorem VGr.trans {s s1 s2 : List Bool} {q q1 q2 : List ByteArray} (h : VGr s s1 q q1) (k : VGr s1 s2 q1 q2) : VGr s s2 q q2 := by
  obtain ⟨m, rfl, hm⟩ := h.pre
  obtain ⟨m2, rfl, hm2⟩ := k.pre
  exact ⟨k.len.trans h.len, fun j hj => k.mono j (h.mono j hj), Nat.le_trans k.un h.un, m ++ m2, by simp, by rw [List.length_append]; omega⟩
theorem VGr.qle {s s' : List Bool} {q q' : List ByteArray} (h : VGr s s' q q') : q.length ≤ q'.length := by obtain ⟨m, rfl, _⟩ := h.pre; simp
theorem unseen_set : ∀ {s : List Bool} {j : Nat}, s[j]? = some false → unseen (s.set j true) + 1 = unseen s
  | [], j, h => by simp at h
  | b :: s, 0, h => by
    simp at h; subst h
    simp [unseen]
  | b :: s, j + 1, h => by
    have ih := unseen_set (s := s) (j := j) (by simpa using h)
    unfold unseen at ih ⊢
    simp only [List.set_cons_succ, List.count_cons]
    omega
theorem set_mono {s : List Bool} {j : Nat} (i : Nat) (h : s[i]? = some true) : (s.set j true)[i]? = some true := by
  rw [List.getElem?_set]
  split
  · next e => subst e; rw [if_pos (by rcases Nat.lt_or_ge j s.length with h1 | h1; exact h1; rw [List.getElem?_eq_none h1] at h; cases h)]
  · exact h
theorem set_self {s : List Bool} {j : Nat} (h : s[j]? = some false) : (s.set j true)[j]? = some true := by
  rw [List.getElem?_set]
  rcases Nat.lt_or_ge j s.length with h1 | h1
  · simp [h1]
  · rw [List.getElem?_eq_none h1] at h; cases h
theorem VGr.mark {s : List Bool} {j : Nat} (h : s[j]? = some false) (q m : List ByteArray) (hm : m.length ≤ 4) : VGr s (s.set j true) q (q ++ m) := by
  have := unseen_set h
  exact ⟨by simp, fun i hi => set_mono i hi, by omega, m, rfl, by omega⟩
theorem kidsV_gr {vis : Int → List Bool → List ByteArray → Option VSt} (hv : ∀ k s q d s' q', vis k s q = some (d, s', q') → VGr s s' q q') (nk : List ByteArray) :
    ∀ (r : List Int) (i : Nat) (d : Nat) (s : List Bool) (q : List ByteArray) (d' : Nat) (s' : List Bool) (q' : List ByteArray), kidsV vis nk r i (d, s, q) = some (d', s', q') → VGr s s' q q' := by
  intro r
  induction r with
  | nil => intro i d s q d' s' q' h; simp only [kidsV, Option.some.injEq, Prod.mk.injEq] at h; obtain ⟨-, rfl, rfl⟩ := h; exact VGr.refl _ _
  | cons k r ih =>
    intro i d s q d' s' q' h
    rw [kidsV] at h
    rcases hk : vis k s q with _ | ⟨d1, s1, q1⟩
    · rw [hk] at h; cases h
    · rw [hk] at h
      dsimp only at h
      split at h
      · exact (hv _ _ _ _ _ _ hk).trans (ih _ _ _ _ _ _ _ h)
      · cases h
theorem kidsV_depth {vis : Int → List Bool → List ByteArray → Option VSt} (nk : List ByteArray) :
    ∀ (r : List Int) (i : Nat) (d : Nat) (s : List Bool) (q : List ByteArray) (d' : Nat) (s' : List Bool) (q' : List ByteArray), 0 < i → kidsV vis nk r i (d, s, q) = some (d', s', q') → d' = d := by
  intro r
  induction r with
  | nil => intro i d s q d' s' q' hi h; simp only [kidsV, Option.some.injEq, Prod.mk.injEq] at h; exact h.1.symm
  | cons k r ih =>
    intro i d s q d' s' q' hi h
    rw [kidsV] at h
    rcases hk : vis k s q with _ | ⟨d1, s1, q1⟩
    · rw [hk] at h; cases h
    · rw [hk] at h
      dsimp only at h
      split at h
      · next hok =>
        have := ih _ _ _ _ _ _ _ (by omega) h
        unfold kidOK at hok
        have h0 : (i == 0) = false := by simp; omega
        rw [h0, Bool.false_or, Bool.and_eq_true] at hok
        have h1 := hok.1
        simp at h1
        omega
      · cases h
theorem visit_gr (N : List CNode) : ∀ (f : Nat) (r : Bool) (k : Int) (s : List Bool) (q : List ByteArray) (d : Nat) (s' : List Bool) (q' : List ByteArray), visit N f r k s q = some (d, s', q') → VGr s s' q q' := by
  intro f
  induction f with
  | zero => intro r k s q d s' q' h; cases h
  | succ f ih =>
    intro r k s q d s' q' h
    rw [visit] at h
    split at h
    · split at h
      · cases h
      · next n hn =>
        split at h
        · next hs =>
          split at h
          · cases h
          · next h4 =>
            split at h
            · split at h
              · simp only [Option.some.injEq, Prod.mk.injEq] at h
                obtain ⟨-, rfl, rfl⟩ := h
                exact VGr.mark hs q _ (by omega)
              · cases h
            · split at h
              · split at h
                · cases h
                · next hk =>
                  simp only [Option.some.injEq, Prod.mk.injEq] at h
                  obtain ⟨-, rfl, rfl⟩ := h
                  have h1 := kidsV_gr (fun k s q d s' q' h => ih false k s q d s' q' h) _ _ _ _ _ _ _ _ _ hk
                  have h2 := VGr.mark hs q [] (by simp)
                  rw [List.append_nil] at h2
                  exact h2.trans h1
              · cases h
        · cases h
    · cases h
/-- a look below the root finds keys -/
theorem visit_new (N : List CNode) : ∀ (f : Nat) (k : Int) (s : List Bool) (q : List ByteArray) (d : Nat) (s' : List Bool) (q' : List ByteArray), visit N f false k s q = some (d, s', q') → q.length < q'.length ∧ 1 ≤ d := by
  intro f
  induction f with
  | zero => intro k s q d s' q' h; cases h
  | succ f ih =>
    intro k s q d s' q' h
    rw [visit] at h
    split at h
    · split at h
      · cases h
      · next n hn =>
        split at h
        · next hs =>
          split at h
          · cases h
          · next h4 =>
            split at h
            · split at h
              · next hl =>
                simp only [Option.some.injEq, Prod.mk.injEq] at h
                obtain ⟨rfl, rfl, rfl⟩ := h
                unfold leafB at hl
                simp at hl
                rw [List.length_append]
                omega
              · cases h
            · split at h
              · next hi =>
                split at h
                · cases h
                · next hk =>
                  simp only [Option.some.injEq, Prod.mk.injEq] at h
                  obtain ⟨rfl, rfl, rfl⟩ := h
                  unfold innerB at hi
                  simp at hi
                  rcases hds : n.ds with _ | ⟨k0, r⟩
                  · rw [hds] at hi; simp at hi
                  · rw [hds, kidsV] at hk
                    rcases hv : visit N f false k0 (s.set k.toNat true) q with _ | ⟨d1, s1, q1⟩
                    · rw [hv] at hk; cases hk
                    · rw [hv] at hk
                      dsimp only at hk
                      split at hk
                      · have h1 := ih _ _ _ _ _ _ hv
                        have h2 := (kidsV_gr (fun k s q d s' q' h => visit_gr N f false k s q d s' q' h) _ _ _ _ _ _ _ _ _ hk).qle
                        omega
                      · cases hk
              · cases h
        · cases h
    · cases h
/-- the way down the first kids -/
def chain (N : List CNode) : Nat → Int → Prop
  | 0, _ => False
  | d + 1, k => 0 ≤ k ∧ ∃ n, N[k.toNat]? = some n ∧ ((d = 0 ∧ n.lf = true) ∨ (n.lf = false ∧ ∃ k', n.ds[0]? = some k' ∧ chain N d k'))
theorem visit_chain (N : List CNode) : ∀ (f : Nat) (r : Bool) (k : Int) (s : List Bool) (q : List ByteArray) (d : Nat) (s' : List Bool) (q' : List ByteArray), visit N f r k s q = some (d, s', q') → chain N d k := by
  intro f
  induction f with
  | zero => intro r k s q d s' q' h; cases h
  | succ f ih =>
    intro r k s q d s' q' h
    rw [visit] at h
    split at h
    · next h0 =>
      split at h
      · cases h
      · next n hn =>
        split at h
        · next hs =>
          split at h
          · cases h
          · next h4 =>
            split at h
            · next hlf =>
              split at h
              · simp only [Option.some.injEq, Prod.mk.injEq] at h
                obtain ⟨rfl, rfl, rfl⟩ := h
                exact ⟨h0, n, hn, .inl ⟨rfl, hlf⟩⟩
              · cases h
            · next hlf =>
              split at h
              · next hi =>
                split at h
                · cases h
                · next hk =>
                  simp only [Option.some.injEq, Prod.mk.injEq] at h
                  obtain ⟨rfl, rfl, rfl⟩ := h
                  unfold innerB at hi
                  simp at hi
                  rcases hds : n.ds with _ | ⟨k0, r⟩
                  · rw [hds] at hi; simp at hi
                  · rw [hds, kidsV] at hk
                    rcases hv : visit N f false k0 (s.set k.toNat true) q with _ | ⟨d1, s1, q1⟩
                    · rw [hv] at hk; cases hk
                    · rw [hv] at hk
                      dsimp only at hk
                      split at hk
                      · have h1 := kidsV_depth _ _ _ _ _ _ _ _ _ (by omega) hk
                        subst h1
                        exact ⟨h0, n, hn, .inr ⟨by simpa using hlf, k0, by rw [hds]; rfl, ih _ _ _ _ _ _ _ hv⟩⟩
                      · cases hk
              · cases h
        · cases h
    · cases h
/-- is the key number i right behind the others -/
def keyAt (q : List ByteArray) (i : Nat) : Bool := match q[i]? with
  | none => false
  | some x => inB (x.size : Int) 1 30 && (i == 0 || match q[i - 1]? with | none => false | some y => Op.bytesLess y.toList x.toList)
def keysUp (q : List ByteArray) (i : Nat) : Bool := (List.range i).all (keyAt q)
theorem keysUp_succ (q : List ByteArray) (i : Nat) : keysUp q (i + 1) = (keysUp q i && keyAt q i) := by unfold keysUp; rw [List.range_succ, List.all_append]; simp
theorem keysUp_false {q : List ByteArray} {i j : Nat} (hij : i ≤ j) (h : keysUp q i = false) : keysUp q j = false := by
  induction j with
  | zero => obtain rfl : i = 0 := by omega
            exact h
  | succ j ih =>
    rcases Nat.lt_or_ge i (j + 1) with h1 | h1
    · rw [keysUp_succ, ih (by omega)]; rfl
    · obtain rfl : i = j + 1 := by omega
      exact h
/-- the depth of a tree and its keys, where it is right -/
def treeV (N : List CNode) (root : Int) : Option (Nat × List ByteArray) :=
  if 200 < N.length then none else match visit N 201 true root (List.replicate N.length false) [] with
    | none => none
    | some (d, s, q) => if (!s.contains false) && (decide (q.length ≤ 60) && keysUp q q.length) then some (d, q) else none
theorem unseen_rep (n : Nat) : unseen (List.replicate n false) = n := by simp [unseen]
end Go.Proofs.Ytnbfjkebakaigaa
