/- How the program's look at a tree answers the reference's. No program in sight. -/
import Derived.Test.YtnbfjkebakaigaaTreeA
namespace Go.Proofs.Ytnbfjkebakaigaa
open Go.RowKit
set_option linter.unusedVariables false
set_option maxRecDepth 100000
/-- what the program's look has found, from a depth g of the leaves (0: not known yet) at the depth p -/
def IRes (g p : Nat) (R : Option VSt) (bad : Bool) (s' : List Bool) (q' : List ByteArray) (g' : Nat) : Prop :=
  (bad = false ∧ ∃ d, R = some (d, s', q') ∧ (g = 0 ∨ g + 1 = p + d) ∧ g' + 1 = p + d) ∨ (bad = true ∧ ∀ d s2 q2, R = some (d, s2, q2) → g ≠ 0 ∧ g + 1 ≠ p + d)
theorem IRes.none {g p g' : Nat} {s' : List Bool} {q' : List ByteArray} : IRes g p .none true s' q' g' := .inr ⟨rfl, fun _ _ _ h => by cases h⟩
theorem IRes.bad {g p g' d : Nat} {s s' : List Bool} {q q' : List ByteArray} (h : g ≠ 0) (h2 : g + 1 ≠ p + d) : IRes g p (some (d, s, q)) true s' q' g' := .inr ⟨rfl, fun d' _ _ h3 => by
  injection h3 with h3; injection h3 with h3 _; subst h3; exact ⟨h, h2⟩⟩
theorem IRes.good {g p g' d : Nat} {s : List Bool} {q : List ByteArray} (h : g = 0 ∨ g + 1 = p + d) (h2 : g' + 1 = p + d) : IRes g p (some (d, s, q)) false s q g' := .inl ⟨rfl, d, rfl, h, h2⟩
/-- how far the kids' rounds have come: RK is what they answer at the end -/
def KI (vis : Int → List Bool → List ByteArray → Option VSt) (ks : List ByteArray) (ds : List Int) (RK : Option VSt) (g0 p i d g : Nat) (s : List Bool) (q : List ByteArray) : Prop :=
  kidsV vis ks (ds.drop i) i (d, s, q) = RK ∧ ((i = 0 ∧ d = 0 ∧ g = g0) ∨ (0 < i ∧ 1 ≤ d ∧ g = p + d ∧ (g0 = 0 ∨ g0 = p + d)))
section
variable {vis : Int → List Bool → List ByteArray → Option VSt} {ks : List ByteArray} {ds : List Int} {RK : Option VSt} {g0 p i d g g2 g3 : Nat} {s s2 s3 : List Bool} {q q2 q3 : List ByteArray} {k : Int}
theorem KI.start (vis : Int → List Bool → List ByteArray → Option VSt) (ks : List ByteArray) (ds : List Int) (s : List Bool) (q : List ByteArray) (g0 p : Nat) : KI vis ks ds (kidsV vis ks ds 0 (0, s, q)) g0 p 0 0 g0 s q := ⟨rfl, .inl ⟨rfl, rfl, rfl⟩⟩
theorem KI.head (h : KI vis ks ds RK g0 p i d g s q) (hi : ds[i]? = some k) : kidsV vis ks (k :: ds.drop (i + 1)) i (d, s, q) = RK := by
  obtain ⟨hl, rfl⟩ := List.getElem?_eq_some_iff.1 hi
  rw [← List.drop_eq_getElem_cons hl]; exact h.1
theorem KI.fail (h : KI vis ks ds RK g0 p i d g s q) (hi : ds[i]? = some k) (hR : IRes g (p + 1) (vis k s q) true s2 q2 g2) : IRes g0 p (upV RK) true s3 q3 g3 := by
  have h1 := h.head hi
  rcases hR with ⟨h2, -⟩ | ⟨-, h2⟩
  · cases h2
  rw [kidsV] at h1
  rcases hv : vis k s q with _ | ⟨d2, s2, q2⟩
  · rw [hv] at h1
    rw [← h1]; exact .none
  rw [hv] at h1
  dsimp only at h1
  obtain ⟨h3, h4⟩ := h2 _ _ _ hv
  split at h1
  · next hk =>
    rcases RK with _ | ⟨d3, s4, q4⟩
    · exact .none
    have h5 := kidsV_depth _ _ _ _ _ _ _ _ _ (Nat.succ_pos i) h1
    subst h5
    rcases h.2 with ⟨rfl, -, rfl⟩ | ⟨hi0, hd1, hg, hg0⟩
    · exact .bad h3 (by omega)
    · exfalso
      unfold kidOK at hk
      have h0 : (i == 0) = false := by simp; omega
      rw [h0, Bool.false_or, Bool.and_eq_true] at hk
      have := hk.1
      simp at this
      omega
  · rw [← h1]; exact .none
theorem KI.first (h : KI vis ks ds RK g0 p 0 d g s q) (hi : ds[0]? = some k) (hR : IRes g (p + 1) (vis k s q) false s2 q2 g2) (hd : ∀ d' s' q', vis k s q = some (d', s', q') → 1 ≤ d') : ∃ d2, KI vis ks ds RK g0 p 1 d2 g2 s2 q2 := by
  have h1 := h.head hi
  rcases hR with ⟨-, d2, hv, h3, h4⟩ | ⟨h2, -⟩
  · have hd1 := hd _ _ _ hv
    rw [kidsV, hv] at h1
    dsimp only at h1
    rw [if_pos (kidOK_zero _ _ _ _ _)] at h1
    rcases h.2 with ⟨-, -, rfl⟩ | ⟨h0, _⟩
    · exact ⟨d2, h1, .inr ⟨by omega, hd1, by omega, by omega⟩⟩
    · omega
  · cases h2
theorem KI.wrong (h : KI vis ks ds RK g0 p (i + 1) d g s q) (hi : ds[i + 1]? = some k) (hR : IRes g (p + 1) (vis k s q) false s2 q2 g2) {x y : ByteArray} (hx : q2[q.length]? = some x) (hy : ks[i]? = some y) (hn : (x.toList == y.toList) = false) : IRes g0 p (upV RK) true s3 q3 g3 := by
  have h1 := h.head hi
  rcases hR with ⟨-, d2, hv, h3, h4⟩ | ⟨h2, -⟩
  · rw [kidsV, hv] at h1
    dsimp only at h1
    have hk : kidOK (i + 1) d d2 q.length q2 ks = false := by
      unfold kidOK
      rw [hx, Nat.add_sub_cancel, hy]
      dsimp only
      rw [hn, Bool.and_false, Bool.or_false]; simp
    rw [if_neg (by rw [hk]; decide)] at h1
    rw [← h1]; exact .none
  · cases h2
theorem KI.next (h : KI vis ks ds RK g0 p (i + 1) d g s q) (hi : ds[i + 1]? = some k) (hR : IRes g (p + 1) (vis k s q) false s2 q2 g2) {x y : ByteArray} (hx : q2[q.length]? = some x) (hy : ks[i]? = some y) (hn : (x.toList == y.toList) = true) : KI vis ks ds RK g0 p (i + 1 + 1) d g2 s2 q2 := by
  have h1 := h.head hi
  rcases hR with ⟨-, d2, hv, h3, h4⟩ | ⟨h2, -⟩
  · rw [kidsV, hv] at h1
    dsimp only at h1
    rcases h.2 with ⟨h0, _⟩ | ⟨-, hd1, hg, hg0⟩
    · omega
    obtain rfl : d2 = d := by omega
    rw [if_pos (by rw [kidOK_key hx hy]; exact hn)] at h1
    exact ⟨h1, .inr ⟨by omega, hd1, by omega, hg0⟩⟩
  · cases h2
theorem KI.done (h : KI vis ks ds RK g0 p i d g s q) (hi : ds.length ≤ i) (h0 : 0 < i) : IRes g0 p (upV RK) false s q g := by
  obtain ⟨h1, h2⟩ := h
  rw [List.drop_of_length_le hi, kidsV] at h1
  rw [← h1]
  rcases h2 with ⟨h3, _⟩ | ⟨-, hd1, hg, hg0⟩
  · omega
  · exact .good (by omega) (by omega)
end
/-- what the program's look at a place answers -/
def IPost (LT BT ST : TypeId) (B xb sb : Nat) (w0 wc : World) (hd : Bool → Nat → Value → List Value) (p g : Nat) (q : List ByteArray) (pot : Nat) (R : Option VSt) (e : Ending) (w' : World) : Prop :=
  ∃ (bad : Bool) (g' : Nat) (v' : Value) (s' : List Bool) (q' : List ByteArray), e = .returned (.int .i64 (q.length : Nat)) ∧ TSt LT BT ST B xb sb w0 wc (hd bad g' v') v' s' q' w' ∧ IRes g p R bad s' q' g' ∧ (bad = false → q.length ≤ q'.length ∧ q'.length + 4 * unseen s' ≤ pot ∧ g' ≤ 600)
end Go.Proofs.Ytnbfjkebakaigaa
