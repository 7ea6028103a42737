/- Plain facts about a record's bytes: they are read back; with a byte changed the sum is wrong. -/
import Derived.Test.YteaefjicpefgnaaTextsOf
import Derived.Test.YteaefjicpefgnaaReadRec2
namespace Go.Proofs.Yteaefjicpefgnaa
open Go.RowKit Go.Deep
set_option linter.unusedVariables false
set_option maxRecDepth 100000
theorem bigN_four (n : Nat) (h : n < 4294967296) : bigN (four n) = n := by
  unfold bigN four
  simp only [List.foldl_cons, List.foldl_nil, UInt8.toNat_ofNat']
  omega
theorem bigN_four_eq (a b c d : UInt8) : bigN [a, b, c, d] = ((a.toNat * 256 + b.toNat) * 256 + c.toNat) * 256 + d.toNat := by
  unfold bigN; simp
theorem bigN_set {l : List UInt8} (hl : l.length = 4) (k : Nat) (y : UInt8) (hk : k < l.length) (hy : y ≠ l[k]) : bigN (l.set k y) ≠ bigN l := by
  match l, hl with
  | [a, b, c, d], _ =>
    have ha := a.toNat_lt
    have hb := b.toNat_lt
    have hc := c.toNat_lt
    have hd := d.toNat_lt
    have hY := y.toNat_lt
    intro h
    apply hy
    match k, hk with
    | 0, _ => simp only [List.set_cons_zero, bigN_four_eq] at h; exact UInt8.toNat_inj.1 (by show y.toNat = a.toNat; omega)
    | 1, _ => simp only [List.set_cons_succ, List.set_cons_zero, bigN_four_eq] at h; exact UInt8.toNat_inj.1 (by show y.toNat = b.toNat; omega)
    | 2, _ => simp only [List.set_cons_succ, List.set_cons_zero, bigN_four_eq] at h; exact UInt8.toNat_inj.1 (by show y.toNat = c.toNat; omega)
    | 3, _ => simp only [List.set_cons_succ, List.set_cons_zero, bigN_four_eq] at h; exact UInt8.toNat_inj.1 (by show y.toNat = d.toNat; omega)
theorem seal_len (d : List UInt8) : (sealB d).length = d.length + 4 := by unfold sealB; rw [List.length_append]; rfl
theorem seal_ok (d : List UInt8) : sealB? (sealB d) = true ∧ bodyB (sealB d) = d := by
  have hl := seal_len d
  have e : (sealB d).length - 4 = d.length := by omega
  have h1 : (sealB d).take d.length = d := by unfold sealB; exact List.take_left' rfl
  have h2 : (sealB d).drop d.length = four (crc d) := by unfold sealB; exact List.drop_left' rfl
  refine ⟨?_, by unfold bodyB; rw [e, h1]⟩
  unfold sealB?
  rw [e, h1, h2, bigN_four _ (crc_lt d), decide_eq_true (by omega)]
  simp
theorem seal_set (d : List UInt8) (k : Nat) (y : UInt8) (hk : k < (sealB d).length) (hy : y ≠ (sealB d)[k]) : sealB? ((sealB d).set k y) = false := by
  have hl := seal_len d
  have e : ((sealB d).set k y).length - 4 = d.length := by rw [List.length_set]; omega
  have h1 : (sealB d).take d.length = d := by unfold sealB; exact List.take_left' rfl
  have h2 : (sealB d).drop d.length = four (crc d) := by unfold sealB; exact List.drop_left' rfl
  unfold sealB?
  rw [e, List.take_set, List.drop_set, h1, h2]
  by_cases hkd : k < d.length
  · rw [if_pos hkd, bigN_four _ (crc_lt d)]
    have hy2 : y ≠ d[k] := by
      have : (sealB d)[k] = d[k] := (show (d ++ four (crc d))[k]'hk = d[k] from List.getElem_append_left hkd)
      rwa [this] at hy
    have := crc_set d k y hkd hy2
    rw [Bool.and_eq_false_iff]
    exact .inr (beq_eq_false_iff_ne.2 this)
  · rw [if_neg hkd, List.set_eq_of_length_le (l := d) (Nat.le_of_not_lt hkd)]
    have hk4 : k - d.length < (four (crc d)).length := by show _ < 4; omega
    have hy2 : y ≠ (four (crc d))[k - d.length] := by
      have : (sealB d)[k] = (four (crc d))[k - d.length] := (show (d ++ four (crc d))[k]'hk = (four (crc d))[k - d.length] from List.getElem_append_right (Nat.le_of_not_lt hkd))
      rwa [this] at hy
    have := bigN_set (l := four (crc d)) rfl _ y hk4 hy2
    rw [bigN_four _ (crc_lt d)] at this
    rw [Bool.and_eq_false_iff]
    exact .inr (beq_eq_false_iff_ne.2 (fun h => this h.symm))
/-- a right record that is small: what its bytes are read back as -/
theorem rec_back {e ls tx k p nx pg sl : Int} {bf af : ByteArray} (h : recB e ls tx k p nx pg sl bf af = true) (hb : bf.size ≤ 30) (ha : af.size ≤ 30) :
    ∃ d : List UInt8, rbL e ls tx k p nx pg sl bf af = sealB d ∧ (sealB d).length ≤ 160 ∧ 0 < (sealB d).length ∧ rrC (sealB d) = 0 ∧ rrN (sealB d) 1 = e ∧ rrN (sealB d) 2 = ls ∧ rrN (sealB d) 3 = tx ∧ rrN (sealB d) 4 = k ∧ rrN (sealB d) 5 = p ∧ rrN (sealB d) 6 = nx ∧ rrN (sealB d) 7 = pg ∧ rrN (sealB d) 8 = sl ∧ rrS (sealB d) 0 = bf ∧ rrS (sealB d) 1 = af := by
  obtain ⟨⟨a0, b0⟩, ⟨a1, b1⟩, ⟨a2, b2⟩, ⟨a3, b3⟩, ⟨a4, b4⟩, ⟨a5, b5⟩, ⟨a6, b6⟩, ⟨a7, b7⟩⟩ := rec_nats h
  obtain ⟨e, rfl⟩ := Int.eq_ofNat_of_zero_le a0
  obtain ⟨ls, rfl⟩ := Int.eq_ofNat_of_zero_le a1
  obtain ⟨tx, rfl⟩ := Int.eq_ofNat_of_zero_le a2
  obtain ⟨k, rfl⟩ := Int.eq_ofNat_of_zero_le a3
  obtain ⟨p, rfl⟩ := Int.eq_ofNat_of_zero_le a4
  obtain ⟨nx, rfl⟩ := Int.eq_ofNat_of_zero_le a5
  obtain ⟨pg, rfl⟩ := Int.eq_ofNat_of_zero_le a6
  obtain ⟨sl, rfl⟩ := Int.eq_ofNat_of_zero_le a7
  have hlen := recRaw_len e ls tx k p nx pg sl bf af
  have hraw := (rb_yes h).1
  simp only [Int.toNat_natCast] at hraw
  unfold recRaw at hlen hraw
  refine ⟨recH e ls tx k p nx pg sl ++ fieldsB [bf, af], hraw, by omega, by omega, ?_⟩
  generalize hd : recH e ls tx k p nx pg sl ++ fieldsB [bf, af] = d at hlen
  obtain ⟨s1, s2⟩ := seal_ok d
  have hlF : longF [bf, af] = false := by
    unfold longF
    rw [List.any_eq_false]
    intro t ht
    rcases List.mem_cons.1 ht with rfl | ht
    · simp; omega
    · rw [List.mem_singleton.1 ht]; simp; omega
  have hdl : 10 ≤ d.length := by rw [seal_len] at hlen; omega
  have h9 : d.drop 9 = fieldsB [bf, af] := by rw [← hd]; exact List.drop_left' rfl
  have hro : rfO (d.drop 9) = some [bf, af] := by rw [h9]; exact rfO_back _ (by simp) hlF
  have nb : ∀ n : Nat, n ≤ 60 → (UInt8.ofNat n).toNat = n := fun n hn => by rw [UInt8.toNat_ofNat']; omega
  have n0 : nmV d = 108 := by rw [← hd]; rfl
  have n1 : nmV (d.drop 1) = e := by rw [← hd]; exact nb _ (by omega)
  have n2 : nmV (d.drop 2) = ls := by rw [← hd]; exact nb _ (by omega)
  have n3 : nmV (d.drop 3) = tx := by rw [← hd]; exact nb _ (by omega)
  have n4 : nmV (d.drop 4) = k := by rw [← hd]; exact nb _ (by omega)
  have n5 : nmV (d.drop 5) = p := by rw [← hd]; exact nb _ (by omega)
  have n6 : nmV (d.drop 6) = nx := by rw [← hd]; exact nb _ (by omega)
  have n7 : nmV (d.drop 7) = pg := by rw [← hd]; exact nb _ (by omega)
  have n8 : nmV (d.drop 8) = sl := by rw [← hd]; exact nb _ (by omega)
  have hrs : rsOK d = true := by
    unfold rsOK
    rw [hro, n0, n1, n2, n3, n4, n5, n6, n7, n8, decide_eq_true hdl]
    exact h
  obtain ⟨q1, q2⟩ := rr_eq d
  rw [hrs] at q1
  have q3 := q2 hrs
  rw [hro] at q3
  have hlong : ¬ 65536 < (sealB d).length := by omega
  obtain ⟨g1, g2⟩ := rr_good hlong s1 (by rw [s2]; exact q1)
  unfold rrN rrS
  rw [g1, s2, n1, n2, n3, n4, n5, n6, n7, n8, q3]
  exact ⟨g2, rfl, rfl, rfl, rfl, rfl, rfl, rfl, rfl, rfl, rfl⟩
theorem rec_bad (d : List UInt8) (k : Nat) (y : UInt8) (hd : (sealB d).length ≤ 160) (hk : k < (sealB d).length) (hy : y ≠ (sealB d)[k]) : rrC ((sealB d).set k y) = 8 :=
  (rr_sum (by rw [List.length_set]; omega) (seal_set d k y hk hy)).2
/-- a byte that is changed by a number -/
def xorB (x : UInt8) (m : Nat) : UInt8 := UInt8.ofNat (x.toNat ^^^ m)
theorem xorB_toNat (x : UInt8) (m : Nat) (hm : m < 256) : (xorB x m).toNat = x.toNat ^^^ m := by
  have h1 : x.toNat < 2 ^ 8 := x.toNat_lt
  have := Nat.xor_lt_two_pow h1 (show m < 2 ^ 8 from hm)
  unfold xorB
  rw [UInt8.toNat_ofNat']; omega
theorem xorB_ne (x : UInt8) (m : Nat) (hm : m < 256) (h0 : 0 < m) : xorB x m ≠ x := fun h => by
  have e := congrArg UInt8.toNat h
  rw [xorB_toNat x m hm] at e
  have : m = 0 := xor_cancel' (c := x.toNat) (by rw [e, Nat.xor_zero])
  omega
theorem xorB_val (x : UInt8) (m : Nat) (hm : m < 256) : bits .xor .u8 (x.toNat : Int) (m : Int) = ((xorB x m).toNat : Int) := by
  rw [xorB_toNat x m hm]
  exact u8_xor_nat _ _ x.toNat_lt hm
end Go.Proofs.Yteaefjicpefgnaa
