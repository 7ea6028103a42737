/- The walks of the laws' marking helpers over bytes. -/
import Derived.Test.YtnbfjkebakaigaaCodec
namespace Go.Proofs.Ytnbfjkebakaigaa
open Go.RowKit Go.Deep
set_option linter.unusedVariables false
set_option maxRecDepth 100000
/-- the marks of bytes from k on -/
def bmarks (k : Int) (n : Nat) : List Value := (List.range n).map fun (i : Nat) => Value.int .u8 ((k + (i : Int)) % 256)
theorem bmarks_len (k : Int) (n : Nat) : (bmarks k n).length = n := by simp [bmarks]
theorem bmarks_at (k : Int) (n j : Nat) (h : j < n) : (bmarks k n)[j]? = some (Value.int .u8 ((k + (j : Int)) % 256)) := by simp [bmarks, h]
theorem bmarks_step (k : Int) (cs : List Value) (j : Nat) (hj : j < cs.length) :
    (bmarks k j ++ cs.drop j).set j (Value.int .u8 ((k + (j : Int)) % 256)) = bmarks k (j + 1) ++ cs.drop (j + 1) := by
  have e : cs.drop j = cs[j] :: cs.drop (j + 1) := List.drop_eq_getElem_cons hj
  have e2 : bmarks k (j + 1) = bmarks k j ++ [Value.int .u8 ((k + (j : Int)) % 256)] := by unfold bmarks; rw [List.range_succ, List.map_append]; rfl
  rw [e, List.set_append, if_neg (by rw [bmarks_len]; omega), bmarks_len, Nat.sub_self, List.set_cons_zero, e2, List.append_assoc]
  rfl
theorem own_rd' {w : World} {B n m : Nat} {e : TypeId} {A : Option Addr} {cap : Nat} {xs : List Value} (h : w.ownsRow B e 1 (.slice A m cap) n xs) : m = n ∧ Rd w A xs := by
  obtain ⟨A', cap', e, hr, _⟩ := own_rd h
  injection e with e1 e2 e3
  subst e1
  exact ⟨e2, hr⟩
theorem own_slice {w : World} {B n : Nat} {e : TypeId} {v : Value} {xs : List Value} (h : w.ownsRow B e 1 v n xs) : ∃ A cap, v = .slice A n cap := by
  obtain ⟨A, cap, e, _⟩ := own_rd h
  exact ⟨A, cap, e⟩
theorem own_apart {w : World} {B n b size : Nat} {e e' : TypeId} {v : Value} {xs : List Value} {c : Array Value} {fz : Nat × Nat} (h : w.ownsRow B e size v n xs) (hb : w.heap[b]? = some (.cells c e' fz)) (hne : e ≠ e') : some b ≠ v.ownBlock := by
  obtain ⟨_, h⟩ := h
  rcases h with ⟨rfl, _⟩ | ⟨g, cap, cur, rfl, _, hh, _⟩
  · intro h; cases h
  · intro h
    have h : b = g := by injection h
    subst h
    rw [hb] at hh
    injection hh with hh
    injection hh with _ hh _
    exact hne hh.symm
theorem own_base {w : World} {B B' n size : Nat} {e : TypeId} {v : Value} {xs : List Value} (h : w.ownsRow B' e size v n xs) (hb : B ≤ B') : w.ownsRow B e size v n xs := by
  obtain ⟨h1, h2⟩ := h
  refine ⟨h1, ?_⟩
  rcases h2 with h2 | ⟨g, cap, cur, hv, hg, r⟩
  · exact Or.inl h2
  · exact Or.inr ⟨g, cap, cur, hv, by omega, r⟩
theorem own_far {w w' : World} {B n b size : Nat} {e : TypeId} {v : Value} {xs : List Value} (h : w.ownsRow B e size v n xs) (hg : w.grownBy w' (some b)) (hne : v.ownBlock ≠ some b) : w'.ownsRow B e size v n xs := by
  obtain ⟨h1, h2⟩ := h
  refine ⟨h1, ?_⟩
  rcases h2 with h2 | ⟨g, cap, cur, rfl, hb, hh, r⟩
  · exact Or.inl h2
  · refine Or.inr ⟨g, cap, cur, rfl, hb, ?_, r⟩
    have hlt : g < w.heap.size := by
      rcases Nat.lt_or_ge g w.heap.size with hlt | hge
      · exact hlt
      · rw [Array.getElem?_eq_none hge] at hh; cases hh
    exact (hg.block g hlt (by intro e; exact hne e)).trans hh
end Go.Proofs.Ytnbfjkebakaigaa
