/- The walks of ReadRow. -/
import Derived.Test.YthfkfdfcgldbeaaKeyR5
import Derived.Test.YthfkfdfcgldbeaaRowS
namespace Go.Proofs.Ythfkfdfcgldbeaa
open Go.RowKit Go.Deep
set_option linter.unusedVariables false
set_option maxRecDepth 100000
theorem rvV_small (c : UInt8) (r : List UInt8) : (rvV c r).c.size ≤ r.length := by
  unfold rvV; split
  · exact Nat.zero_le _
  · split
    · show ((r.take (idx0 r)).toArray).size ≤ _; simp; omega
    · exact Nat.zero_le _
theorem kR_small (n : Nat) : ∀ (l : List UInt8) (xs : List CValue), kR n l = some xs → ∀ x ∈ xs, x.c.size ≤ l.length := by
  induction n with
  | zero => intro l xs h; injection h with h; subst h; intro x hx; cases hx
  | succ n ih =>
    intro l xs h
    cases l with
    | nil => injection h with h; subst h; intro x hx; cases hx
    | cons c r =>
      rw [kR_cons] at h
      split at h
      · cases h
      · rw [Option.map_eq_some_iff] at h
        obtain ⟨ys, h1, rfl⟩ := h
        intro x hx
        rcases List.mem_cons.1 hx with rfl | hx
        · have := rvV_small c r; simp; omega
        · have := ih _ _ h1 x hx
          have := rvR_le c r
          simp; omega
/-- which four values are a row -/
def isR (x0 x1 x2 x3 : CValue) : Bool := (x0.a == 1) && (x1.a == 1) && inB x0.b 1 3 && rowB ⟨x1.b, x2, x3⟩
/-- the table and the row whose bytes are -/
def rrO (o : Option (List CValue)) : Option (Int × CRow) := match o with
  | some [x0, x1, x2, x3] => if isR x0 x1 x2 x3 then some (x0.b, ⟨x1.b, x2, x3⟩) else none
  | _ => none
theorem rrO_len {xs : List CValue} (h : xs.length ≠ 4) : rrO (some xs) = none := by
  match xs, h with
  | [], _ => rfl
  | [_], _ => rfl
  | [_, _], _ => rfl
  | [_, _, _], _ => rfl
  | [_, _, _, _], h => exact absurd rfl h
  | _ :: _ :: _ :: _ :: _ :: _, _ => rfl
theorem len_four {xs : List CValue} (h : xs.length = 4) : ∃ x0 x1 x2 x3, xs = [x0, x1, x2, x3] := by
  match xs, h with
  | [x0, x1, x2, x3], _ => exact ⟨x0, x1, x2, x3, rfl⟩
def CRow.ag (r : CRow) : Value := .agg #[.int .i64 r.id, .int .i64 r.p.a, .int .i64 r.p.b, .string r.p.c, .int .i64 r.q.a, .int .i64 r.q.b, .string r.q.c]
/-- what l07Read hands back -/
def R7Post (w : World) (o : Option (Int × CRow)) (e : Ending) (w' : World) : Prop :=
  (∃ t r, e = .returned (.tuple #[.int .i64 t, CRow.ag r, .bool o.isSome]) ∧ (∀ x, o = some x → x = (t, r))) ∧ Ext w w'
theorem R7Post.no {w w' : World} {o : Option (Int × CRow)} {t : Int} {r : CRow} (ho : o = none) (E : Ext w w') : R7Post w o (.returned (.tuple #[.int .i64 t, CRow.ag r, .bool false])) w' := by
  subst ho; exact ⟨⟨t, r, rfl, fun x h => by cases h⟩, E⟩
theorem R7Post.yes {w w' : World} {o : Option (Int × CRow)} {t : Int} {r : CRow} (ho : o = some (t, r)) (E : Ext w w') : R7Post w o (.returned (.tuple #[.int .i64 t, CRow.ag r, .bool true])) w' := by
  subst ho; exact ⟨⟨t, r, rfl, fun x h => by injection h with h; exact h.symm⟩, E⟩
/-- the cells of four values -/
theorem four_vals {w : World} {B : Nat} {T : TypeId} {v : Value} {x0 x1 x2 x3 : CValue} (h : w.ownsRow B T 3 v 4 ([x0, x1, x2, x3].flatMap CValue.cs)) : ∃ g cap, v = .slice (some ⟨g, 0, none⟩) 4 cap ∧ ∃ cs, Blk w g T ([.int .i64 x0.a, .int .i64 x0.b, .string x0.c, .int .i64 x1.a, .int .i64 x1.b, .string x1.c, .int .i64 x2.a, .int .i64 x2.b, .string x2.c, .int .i64 x3.a, .int .i64 x3.b, .string x3.c] ++ cs) := by
  obtain ⟨g, cap, cs, rfl, _, _, _, hblk, _, htk⟩ := own_form h (by omega)
  refine ⟨g, cap, rfl, cs.drop 12, ?_⟩
  have hcs : cs = cs.take 12 ++ cs.drop 12 := (List.take_append_drop 12 cs).symm
  rw [show cs.take 12 = _ from htk] at hcs
  rw [hcs] at hblk
  exact hblk
theorem Blk.cells12 {w : World} {g : Nat} {T : TypeId} {a0 a1 a2 a3 a4 a5 a6 a7 a8 a9 aa ab : Value} {cs : List Value} (h : Blk w g T ([a0, a1, a2, a3, a4, a5, a6, a7, a8, a9, aa, ab] ++ cs)) :
    w.cell? ⟨g, 0, none⟩ = some a0 ∧ w.cell? ⟨g, 1, none⟩ = some a1 ∧ w.cell? ⟨g, 2, none⟩ = some a2 ∧ w.cell? ⟨g, 3, none⟩ = some a3 ∧ w.cell? ⟨g, 4, none⟩ = some a4 ∧ w.cell? ⟨g, 5, none⟩ = some a5 ∧ w.cell? ⟨g, 6, none⟩ = some a6 ∧ w.cell? ⟨g, 7, none⟩ = some a7 ∧ w.cell? ⟨g, 8, none⟩ = some a8 ∧ w.cell? ⟨g, 9, none⟩ = some a9 ∧ w.cell? ⟨g, 10, none⟩ = some aa ∧ w.cell? ⟨g, 11, none⟩ = some ab :=
  ⟨h.cell (i := 0) (by simp), h.cell (i := 1) (by simp), h.cell (i := 2) (by simp), h.cell (i := 3) (by simp), h.cell (i := 4) (by simp), h.cell (i := 5) (by simp), h.cell (i := 6) (by simp), h.cell (i := 7) (by simp), h.cell (i := 8) (by simp), h.cell (i := 9) (by simp), h.cell (i := 10) (by simp), h.cell (i := 11) (by simp)⟩
end Go.Proofs.Ythfkfdfcgldbeaa
