/- The walks of the laws' marking helpers over []string that a call owns. -/
import Derived.Test.YteaefjicpefgnaaMark
import Derived.Test.YteaefjicpefgnaaMarkB
import Derived.Test.YteaefjicpefgnaaTexts
namespace Go.Proofs.Yteaefjicpefgnaa
open Go.RowKit Go.Deep
set_option linter.unusedVariables false
set_option maxRecDepth 100000
/-- a slice that reads as these texts -/
def StS (w : World) (v : Value) (l : List ByteArray) : Prop := ∃ A cap, v = .slice A l.length cap ∧ Rd w A (l.map fun c => Value.string c)
theorem StS.own {w : World} {B : Nat} {e : TypeId} {v : Value} {l : List ByteArray} (h : w.ownsRow B e 1 v l.length (l.map fun c => Value.string c)) : StS w v l := by
  obtain ⟨A, cap, rfl, hr, _⟩ := own_rd h
  exact ⟨A, cap, rfl, hr⟩
theorem StS.ext {w w' : World} {v : Value} {l : List ByteArray} (h : StS w v l) (E : Ext w w') : StS w' v l := by
  obtain ⟨A, cap, e, hr⟩ := h
  exact ⟨A, cap, e, hr.ext E⟩
theorem StS.blk {w : World} {b : Nat} {t : TypeId} {n : Nat} {l : List ByteArray} (hn : l.length = n) (h : Blk w b t (l.map fun c => Value.string c)) : StS w (.slice (some ⟨b, 0, none⟩) n n) l := ⟨_, n, by rw [hn], h.rd⟩
theorem eqStringS_st {w : World} {v v' : Value} {l : List ByteArray} (h : StS w v l) (h' : StS w v' l) (hn : l.length ≤ 1099511627776) :
    Calls Try.prog 25 #[v, v'] w fun e w' => e = .returned (.bool true) ∧ Ext w w' := by
  obtain ⟨A, cap, rfl, hr⟩ := h
  obtain ⟨A', cap', rfl, hr'⟩ := h'
  exact (eqStringS_same A A' l.length cap cap' l w rfl hn hr hr').mono fun _ _ h => ⟨h.1, h.2.1⟩
theorem markStringS_none (A : Option Addr) (cp : Nat) (k : Int) (w : World) :
    Calls Try.prog 26 #[.slice A 0 cp, .int .i64 k] w fun e w' => e = .returned (.int .i64 k) ∧ w = w' := by
  go_enter Try.func26, Try.ntmps26
  go_wp2
  go_loopw [5, 1] (fun i t wr => i = .int .i64 0 ∧ t = .int .i64 k ∧ wr = w) (fun i _ _ => 0)
  case atStart => exact ⟨rfl, rfl, rfl⟩
  case round =>
    obtain ⟨rfl, rfl, rfl⟩ := hrel
    go_wp2_with fail
    go_ret
    exact ⟨rfl, rfl⟩
theorem map_marks_len (k : Int) (n : Nat) : ((marks k n).map fun c => Value.string c).length = n := by rw [List.length_map, marks_len]
/-- over what a call owns -/
theorem markStringS_own (B : Nat) (v : Value) (k : Int) (l : List ByteArray) (w : World) (hn : l.length ≤ 2000000) (h1 : 1 ≤ k) (h2 : k ≤ 4000000) (ho : w.ownsRow B 9 1 v l.length (l.map fun c => Value.string c)) :
    Calls Try.prog 26 #[v, .int .i64 k] w fun e w' => e = .returned (.int .i64 (k + l.length)) ∧ w'.ownsRow B 9 1 v l.length ((marks k l.length).map fun c => Value.string c) ∧ w.grownBy w' v.ownBlock := by
  by_cases h0 : l = []
  · subst h0
    obtain ⟨A, cap, rfl, _⟩ := own_rd ho
    refine (markStringS_none A cap k w).mono ?_
    rintro e w' ⟨rfl, rfl⟩
    exact ⟨by simp, by simpa [marks] using ho, World.grownBy.refl _ _⟩
  · have hpos : 0 < l.length := List.length_pos_iff.2 h0
    obtain ⟨g, cap, cs, rfl, hg, hc1, hc2, hB, hl, ht⟩ := own_form ho hpos
    rw [Nat.mul_one] at hl ht
    have hcs : cs = (l.map fun c => Value.string c) ++ cs.drop l.length := by rw [← ht, List.take_append_drop]
    rw [hcs] at hB
    refine (markStringS_any g l.length cap k l (cs.drop l.length) w hn h1 h2 rfl hB).mono ?_
    rintro e w' ⟨rfl, hB', hG⟩
    refine ⟨rfl, ⟨by rw [map_marks_len]; omega, Or.inr ⟨g, cap, ((marks k l.length).map (fun c => Value.string c) ++ cs.drop l.length).toArray, rfl, hg, hB', hc1, hc2, ?_, ?_⟩⟩, hG⟩
    · simp [marks_len]; omega
    · simp [marks_len]
end Go.Proofs.Yteaefjicpefgnaa
