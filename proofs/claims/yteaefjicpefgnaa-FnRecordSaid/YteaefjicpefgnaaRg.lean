/- A region that draws its order, walked by hand: what yields in every world that has at most grown is taken first, one operation at a time; the others one at a time where they alone may come up. No program in sight. -/
import Derived.Test.YteaefjicpefgnaaMem
import Derived.OrdersHeld
import Derived.RegionTactic
namespace Go.Proofs.Yteaefjicpefgnaa
open Go.RowKit
set_option linter.unusedVariables false
set_option maxRecDepth 100000
section
variable {P : Program} {ops : Array Oper} {Q : Exit → Act → World → Prop} {md : Region.Mode} {S : World → Prop}

theorem rg_start {w0 : World} {id : Nat} {a : Act} {w : World} {l : List Oper} (hm : P.follows .mixedOrders = true) (E : Ext w0 w)
    (h : Ext w0 w.drew → wpAnyH P .any l.toArray Q (Ext w0) l.length (Array.replicate l.length false) a w.drew) : (Code.region id l.toArray true).wp P Q a w :=
  wp_region_held (S := Ext w0) hm (by simpa using h E.drew)
theorem rg_startS {id : Nat} {a : Act} {w : World} {l : List Oper} (S : World → Prop) (hm : P.follows .mixedOrders = true) (hS : S w.drew)
    (h : S w.drew → wpAnyH P .any l.toArray Q S l.length (Array.replicate l.length false) a w.drew) : (Code.region id l.toArray true).wp P Q a w :=
  wp_region_held (S := S) hm (by simpa using h hS)
theorem rg_take {d : Tmp} {op : Op} {ty : TypeId} {pos : String} {af : Array Edge} {g : Option (Nat × Bool)} {v : Value} {fuel : Nat} {listed : Array Bool} {tmps : Array Value} {dfs : List Deferred} {w : World}
    (i : Nat) (hi : ops[i]? = some ⟨some d, op, ty, pos, af, g⟩) (hs : Region.noSelect ops = true) (hf : Region.free md ops listed i = true) (hr : (Region.ready md ops listed).contains i = true)
    (hQ : ∀ c a w, Q (.panic c) (a.put (some d) v) w → Q (.panic c) a w) (hw : Region.wanted ⟨some d, op, ty, pos, af, g⟩ (yielded ops tmps) = true)
    (hS : S w) (hy : ∀ W, S W → (execOp (Act.eval ⟨tmps, dfs⟩) ⟨some d, op, ty, pos, af, g⟩).run P W = .ok (.value v) W)
    (h : wpAnyH P md ops Q S fuel (listed.setIfInBounds i true) ⟨tmps.setIfInBounds d v, dfs⟩ w) : wpAnyH P md ops Q S (fuel + 1) listed ⟨tmps, dfs⟩ w :=
  wpAnyH_take hi hs hf hr hQ (Or.inl ⟨hw, hy⟩) hS h
theorem rg_skip {d : Tmp} {op : Op} {ty : TypeId} {pos : String} {af : Array Edge} {g : Option (Nat × Bool)} {fuel : Nat} {listed : Array Bool} {tmps : Array Value} {dfs : List Deferred} {w : World}
    (i : Nat) (hi : ops[i]? = some ⟨some d, op, ty, pos, af, g⟩) (hs : Region.noSelect ops = true) (hf : Region.free md ops listed i = true) (hr : (Region.ready md ops listed).contains i = true)
    (hQ : ∀ c a w, Q (.panic c) (a.put (some d) undef) w → Q (.panic c) a w) (hw : Region.wanted ⟨some d, op, ty, pos, af, g⟩ (yielded ops tmps) = false)
    (hS : S w)
    (h : wpAnyH P md ops Q S fuel (listed.setIfInBounds i true) ⟨tmps.setIfInBounds d undef, dfs⟩ w) : wpAnyH P md ops Q S (fuel + 1) listed ⟨tmps, dfs⟩ w :=
  wpAnyH_take hi hs hf hr hQ (Or.inr ⟨hw, rfl⟩) hS h
theorem rg_one {d : Option Tmp} {op : Op} {ty : TypeId} {pos : String} {af : Array Edge} {g : Option (Nat × Bool)} {fuel : Nat} {listed : Array Bool} {a : Act} {w : World}
    (i : Nat) (hr : Region.ready md ops listed = [i]) (hi : ops[i]? = some ⟨d, op, ty, pos, af, g⟩) (hw : Region.wanted ⟨d, op, ty, pos, af, g⟩ (yielded ops a.tmps) = true)
    (h : ∀ K : Act → World → Prop, (∀ a' w', S w' → (S w' → wpAnyH P md ops Q S fuel (listed.setIfInBounds i true) a' w') → K a' w') → Oper.wp P ⟨d, op, ty, pos, af, g⟩ a w K Q) : wpAnyH P md ops Q S (fuel + 1) listed a w := by
  refine wpAnyH_all hr (by simp) fun j hj => ?_
  rw [List.mem_singleton] at hj
  subst hj
  refine wpOp_step hi fun K hK => ?_
  rw [if_pos hw]
  exact h K fun a' w' E hh => hK a' w' ⟨E, hh E⟩
theorem rg_two {d d2 : Option Tmp} {op op2 : Op} {ty ty2 : TypeId} {pos pos2 : String} {af af2 : Array Edge} {g g2 : Option (Nat × Bool)} {fuel : Nat} {listed : Array Bool} {a : Act} {w : World}
    (i j : Nat) (hr : Region.ready md ops listed = [i, j]) (hi : ops[i]? = some ⟨d, op, ty, pos, af, g⟩) (hw : Region.wanted ⟨d, op, ty, pos, af, g⟩ (yielded ops a.tmps) = true)
    (hi2 : ops[j]? = some ⟨d2, op2, ty2, pos2, af2, g2⟩) (hw2 : Region.wanted ⟨d2, op2, ty2, pos2, af2, g2⟩ (yielded ops a.tmps) = true)
    (h : ∀ K : Act → World → Prop, (∀ a' w', S w' → (S w' → wpAnyH P md ops Q S fuel (listed.setIfInBounds i true) a' w') → K a' w') → Oper.wp P ⟨d, op, ty, pos, af, g⟩ a w K Q)
    (h2 : ∀ K : Act → World → Prop, (∀ a' w', S w' → (S w' → wpAnyH P md ops Q S fuel (listed.setIfInBounds j true) a' w') → K a' w') → Oper.wp P ⟨d2, op2, ty2, pos2, af2, g2⟩ a w K Q) : wpAnyH P md ops Q S (fuel + 1) listed a w := by
  refine wpAnyH_all hr (by simp) fun q hq => ?_
  rcases List.mem_cons.1 hq with rfl | hq
  · refine wpOp_step hi fun K hK => ?_
    rw [if_pos hw]
    exact h K fun a' w' E hh => hK a' w' ⟨E, hh E⟩
  · rw [List.mem_singleton] at hq
    subst hq
    refine wpOp_step hi2 fun K hK => ?_
    rw [if_pos hw2]
    exact h2 K fun a' w' E hh => hK a' w' ⟨E, hh E⟩
theorem rg_done {fuel : Nat} {listed : Array Bool} {a : Act} {w : World} (hr : Region.ready md ops listed = []) (h : Q .normal a w) : wpAnyH P md ops Q S fuel listed a w := wpAnyH_done hr h fuel
end
end Go.Proofs.Yteaefjicpefgnaa
