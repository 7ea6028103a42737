/- The walk of the laws' choosing function. -/
import Derived.Test.YteaefjicpefgnaaRows
import Derived.Test.YteaefjicpefgnaaMem
namespace Go.Proofs.Yteaefjicpefgnaa
open Go.RowKit Go.Deep
set_option linter.unusedVariables false
set_option maxRecDepth 100000

/-- the i-th choice out of n that some bytes make -/
def atV (l : List UInt8) (i n : Nat) : Nat :=
  if n ≤ 1 then 0
  else if l.length = 0 then i * 7 % n
  else ((l[i % l.length]?.getD 0).toNat * 31 + (l[(i + 1) % l.length]?.getD 0).toNat + i / l.length) % n
theorem atV_lt (l : List UInt8) (i n : Nat) (h : 0 < n) : atV l i n < n := by
  unfold atV
  split
  · exact h
  · split
    · exact Nat.mod_lt _ h
    · exact Nat.mod_lt _ h
set_option maxHeartbeats 1000000 in
theorem at_any (A : Option Addr) (n cp i m : Nat) (l : List UInt8) (w : World) (hl : l.length = n) (hn : n ≤ 1099511627776) (hi : i ≤ 1000) (hm : m ≤ 1099511627776) (hr : Rd w A (l.map fun c => Value.int .u8 (c.toNat : Int))) :
    Calls Try.prog 53 #[.slice A n cp, .int .i64 (i : Int), .int .i64 (m : Int)] w fun e w' => e = .returned (.int .i64 (atV l i m : Nat)) ∧ ∃ k, w' = w.drewN k := by
  by_cases h1 : m ≤ 1
  · have HV := Lib.hid (show atV l i m = 0 from by unfold atV; rw [if_pos h1])
    have h1' : (m : Int) ≤ 1 := by omega
    go_enter Try.func53, Try.ntmps53
    go_wp2
    go_ret
    exact ⟨by rw [HV.out]; rfl, 0, rfl⟩
  · have h1' : ¬ (m : Int) ≤ 1 := by omega
    by_cases h0 : n = 0
    · have HV := Lib.hid (show atV l i m = i * 7 % m from by unfold atV; rw [if_neg h1, if_pos (by omega)])
      have h0' : ((n : Int) == 0) = true := by rw [h0]; rfl
      clear hl
      go_enter Try.func53, Try.ntmps53
      go_wp2
      go_ret
      exact ⟨ret_int (by rw [HV.out]; simp), 0, rfl⟩
    · have h0' : ((n : Int) == 0) = false := beq_eq_false_iff_ne.2 (by omega)
      have hn0 : 0 < n := by omega
      have hk1 : i % n < l.length := by rw [hl]; exact Nat.mod_lt _ hn0
      have hk2 : (i + 1) % n < l.length := by rw [hl]; exact Nat.mod_lt _ hn0
      obtain ⟨b, o, rfl, c1⟩ := hr.map_ hk1
      obtain ⟨b', o', e', c2⟩ := hr.map_ hk2
      injection e' with e'
      injection e' with e1 e2 _
      subst e1; subst e2
      have u1 : l[i % n].toNat < 256 := l[i % n].toNat_lt
      have u2 : l[(i + 1) % n].toNat < 256 := l[(i + 1) % n].toNat_lt
      have HV := Lib.hid (show atV l i m = (l[i % n].toNat * 31 + l[(i + 1) % n].toNat + i / n) % m from by
        subst hl
        unfold atV; rw [if_neg h1, if_neg (by omega), List.getElem?_eq_getElem hk1, List.getElem?_eq_getElem hk2]; rfl)
      have b1 : i % n < n := Nat.mod_lt _ hn0
      have b2 : (i + 1) % n < n := Nat.mod_lt _ hn0
      have em1 : (i : Int).tmod (n : Int) = ((i % n : Nat) : Int) := by rw [Int.tmod_eq_emod_of_nonneg (by omega)]; push_cast; rfl
      have em2 : ((i : Int) + 1).tmod (n : Int) = (((i + 1) % n : Nat) : Int) := by rw [Int.tmod_eq_emod_of_nonneg (by omega)]; push_cast; rfl
      have ed : (i : Int).tdiv (n : Int) = ((i / n : Nat) : Int) := by rw [Int.tdiv_eq_ediv_of_nonneg (by omega)]; push_cast; rfl
      have bd : i / n ≤ 1000 := Nat.le_trans (Nat.div_le_self _ _) hi
      generalize l[i % n].toNat = x1 at *
      generalize l[(i + 1) % n].toNat = x2 at *
      generalize i % n = q1 at *
      generalize (i + 1) % n = q2 at *
      generalize i / n = q3 at *
      have ef : ((x1 : Int) * 31 + (x2 : Int) + (q3 : Int)).tmod (m : Int) = (((x1 * 31 + x2 + q3) % m : Nat) : Int) := by rw [Int.tmod_eq_emod_of_nonneg (by omega)]; push_cast; rfl
      have es : IntKind.i64.wrap ((i : Int) + 1) = (i : Int) + 1 := IntWalk.i64_in _ (by omega)
      have es1 : IntKind.i64.wrap ((x1 : Int) * 31) = (x1 : Int) * 31 := IntWalk.i64_in _ (by omega)
      have es2 : IntKind.i64.wrap ((x1 : Int) * 31 + (x2 : Int)) = (x1 : Int) * 31 + (x2 : Int) := IntWalk.i64_in _ (by omega)
      have es3 : IntKind.i64.wrap ((x1 : Int) * 31 + (x2 : Int) + (q3 : Int)) = (x1 : Int) * 31 + (x2 : Int) + (q3 : Int) := IntWalk.i64_in _ (by omega)
      clear hl hk1 hk2
      go_enter Try.func53, Try.ntmps53
      go_wp2
      go_quiet (fail)
      go_wp2
      go_ret
      exact ⟨ret_int (by rw [HV.out]; push_cast; rfl), _, rfl⟩
end Go.Proofs.Yteaefjicpefgnaa
