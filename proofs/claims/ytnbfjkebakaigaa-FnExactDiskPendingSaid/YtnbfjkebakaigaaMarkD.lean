/- Marks over numbers, and what marks a value of Disk. -/
import Derived.Test.YtnbfjkebakaigaaMarkB
import Derived.Test.YtnbfjkebakaigaaCompDisk
import Derived.Test.YtnbfjkebakaigaaOfTx
import Derived.Test.YtnbfjkebakaigaaRound2
namespace Go.Proofs.Ytnbfjkebakaigaa
open Go.RowKit Go.Deep
set_option linter.unusedVariables false
set_option maxRecDepth 100000
/-- the marks of numbers from k on -/
def imarks (k : Int) (n : Nat) : List Value := (List.range n).map fun (i : Nat) => Value.int .i64 (k + (i : Int))
theorem imarks_len (k : Int) (n : Nat) : (imarks k n).length = n := by simp [imarks]
theorem imarks_at (k : Int) (n j : Nat) (h : j < n) : (imarks k n)[j]? = some (Value.int .i64 (k + (j : Int))) := by simp [imarks, h]
theorem imarks_step (k : Int) (cs : List Value) (j : Nat) (hj : j < cs.length) :
    (imarks k j ++ cs.drop j).set j (Value.int .i64 (k + (j : Int))) = imarks k (j + 1) ++ cs.drop (j + 1) := by
  have e : cs.drop j = cs[j] :: cs.drop (j + 1) := List.drop_eq_getElem_cons hj
  have e2 : imarks k (j + 1) = imarks k j ++ [Value.int .i64 (k + (j : Int))] := by unfold imarks; rw [List.range_succ, List.map_append]; rfl
  rw [e, List.set_append, if_neg (by rw [imarks_len]; omega), imarks_len, Nat.sub_self, List.set_cons_zero, e2, List.append_assoc]
  rfl
/-- a slice of numbers that reads as these -/
def InS (w : World) (v : Value) (l : List Int) : Prop := ∃ A cap, v = .slice A l.length cap ∧ Rd w A (intR l)
theorem own_rdI {w : World} {B n size : Nat} {e : TypeId} {v : Value} {xs : List Value} (h : w.ownsRow B e size v n xs) : ∃ A cap, v = .slice A n cap ∧ Rd w A xs := by
  obtain ⟨hlen, h⟩ := h
  rcases h with ⟨rfl, rfl⟩ | ⟨g, cap, cur, rfl, hb, hh, h1, h2, h3, h4⟩
  · have : xs = [] := by cases xs with
      | nil => rfl
      | cons a r => simp at hlen
    subst this; exact ⟨none, 0, rfl, Rd.nil _ _⟩
  · exact ⟨_, cap, rfl, Rd.take_ (t := e) (cs := cur.toList) (by simpa [Blk] using hh) h4⟩
theorem InS.own {w : World} {B : Nat} {e : TypeId} {v : Value} {l : List Int} (h : w.ownsRow B e 1 v l.length (intR l)) : InS w v l := by
  obtain ⟨A, cap, rfl, hr⟩ := own_rdI h
  exact ⟨A, cap, rfl, hr⟩
theorem InS.ext {w w' : World} {v : Value} {l : List Int} (h : InS w v l) (E : Ext w w') : InS w' v l := by
  obtain ⟨A, cap, e, hr⟩ := h
  exact ⟨A, cap, e, hr.ext E⟩
theorem eqIntS_in {v v' : Value} {l : List Int} {w : World} (h : InS w v l) (h' : InS w v' l) (hn : l.length ≤ 1099511627776) :
    Calls Try.prog 30 #[v, v'] w fun e w' => e = .returned (.bool true) ∧ Ext w w' := by
  obtain ⟨A, cap, rfl, hr⟩ := h
  obtain ⟨A', cap', rfl, hr'⟩ := h'
  exact (eqIntS_same A A' l.length cap cap' l w rfl hn hr hr').mono fun _ _ h => ⟨h.1, h.2.1⟩
set_option maxHeartbeats 400000 in
theorem markIntS_blk (b n cp : Nat) (k : Int) (cs : List Value) (w : World) (hn : n ≤ 1099511627776) (h1 : 1 ≤ k) (h2 : k ≤ 1099511627776) (hl : n ≤ cs.length) (hB : Blk w b 3 cs) :
    Calls Try.prog 31 #[.slice (some ⟨b, 0, none⟩) n cp, .int .i64 k] w fun e w' => e = .returned (.int .i64 (k + n)) ∧ Blk w' b 3 (imarks k n ++ cs.drop n) ∧ w.grownBy w' (some b) := by
  have HL := Lib.hid hl
  clear hl
  go_enter Try.func31, Try.ntmps31
  go_wp2
  go_loopw [5, 1] (fun i t wr => ∃ j : Nat, j ≤ n ∧ i = .int .i64 j ∧ t = .int .i64 (k + j) ∧ Blk wr b 3 (imarks k j ++ cs.drop j) ∧ w.grownBy wr (some b)) (fun i _ _ => n - (intOf i).toNat)
  case atStart => exact ⟨0, Nat.zero_le _, rfl, by simp, by simpa [imarks] using hB, World.grownBy.refl _ _⟩
  case round =>
    obtain ⟨j, hj, rfl, rfl, hBr, hG⟩ := hrel
    have HB := Lib.hid hBr
    have HG := Lib.hid hG
    clear hBr hG
    by_cases hlt : j < n
    · have hjl : j < cs.length := by have := HL.out; omega
      have hjc : j < (imarks k j ++ cs.drop j).length := by rw [List.length_append, imarks_len, List.length_drop]; omega
      obtain ⟨u, hc⟩ : ∃ u, wr.cell? ⟨b, j, none⟩ = some u := ⟨_, HB.out.cell hjc⟩
      have hf := HB.out.frozen j
      have hlt2 : (j : Int) < (n : Int) := by omega
      go_wp2_with fail
      go_roundw
      case rel => exact ⟨j + 1, by omega, by go_num, by go_num, (HB.out.set j _).of_eq (imarks_step k cs j hjl), grown_step HG.out (Ext.refl _) b j _⟩
      case measure => simp [intOf]; omega
    · have hj4 : j = n := by omega
      subst hj4
      go_wp2_with fail
      go_ret
      exact ⟨rfl, HB.out, HG.out⟩
theorem markIntS_zero (A : Option Addr) (cp : Nat) (k : Int) (w : World) :
    Calls Try.prog 31 #[.slice A 0 cp, .int .i64 k] w fun e w' => e = .returned (.int .i64 k) ∧ w = w' := by
  go_enter Try.func31, Try.ntmps31
  go_wp2
  go_loopw [5, 1] (fun i t wr => i = .int .i64 0 ∧ t = .int .i64 k ∧ wr = w) (fun i _ _ => 0)
  case atStart => exact ⟨rfl, rfl, rfl⟩
  case round =>
    obtain ⟨rfl, rfl, rfl⟩ := hrel
    go_wp2_with fail
    go_ret
    exact ⟨rfl, rfl⟩
theorem markIntS_own (B : Nat) (v : Value) (k : Int) (l : List Int) (w : World) (hn : l.length ≤ 1099511627776) (h1 : 1 ≤ k) (h2 : k ≤ 1099511627776) (ho : w.ownsRow B 3 1 v l.length (intR l)) :
    Calls Try.prog 31 #[v, .int .i64 k] w fun e w' => e = .returned (.int .i64 (k + l.length)) ∧ w'.ownsRow B 3 1 v l.length (imarks k l.length) ∧ w.grownBy w' v.ownBlock := by
  by_cases h0 : l = []
  · subst h0
    obtain ⟨A, cap, rfl, _⟩ := own_rdI ho
    refine (markIntS_zero A cap k w).mono ?_
    rintro e w' ⟨rfl, rfl⟩
    exact ⟨by simp, by simpa [imarks, intR] using ho, World.grownBy.refl _ _⟩
  · have hpos : 0 < l.length := List.length_pos_iff.2 h0
    obtain ⟨g, cap, cs, rfl, hg, hc1, hc2, hB, hl, ht⟩ := own_form ho hpos
    rw [Nat.mul_one] at hl ht
    refine (markIntS_blk g l.length cap k cs w hn h1 h2 (by omega) hB).mono ?_
    rintro e w' ⟨rfl, hB', hG⟩
    refine ⟨rfl, ⟨by rw [imarks_len]; omega, Or.inr ⟨g, cap, (imarks k l.length ++ cs.drop l.length).toArray, rfl, hg, hB', hc1, hc2, ?_, ?_⟩⟩, hG⟩
    · simp [imarks_len]; omega
    · simp [imarks_len]
set_option maxHeartbeats 400000 in
theorem heldIntS_any (A : Option Addr) (n cp : Nat) (k : Int) (w : World) (hn : n ≤ 1099511627776) (h1 : 1 ≤ k) (h2 : k ≤ 1099511627776) (hr : Rd w A (imarks k n)) :
    Calls Try.prog 32 #[.slice A n cp, .int .i64 k] w fun e w' => e = .returned (.int .i64 (k + n)) ∧ w = w' := by
  go_enter Try.func32, Try.ntmps32
  go_wp2
  go_loop [5, 1] (fun i t => ∃ j : Nat, j ≤ n ∧ i = .int .i64 j ∧ t = .int .i64 (k + j)) (fun i _ => n - (intOf i).toNat)
  case atStart => exact ⟨0, Nat.zero_le _, rfl, by simp⟩
  case round =>
    obtain ⟨j, hj, rfl, rfl⟩ := hrel
    by_cases hlt : j < n
    · obtain ⟨b, o, rfl, hc⟩ := hr.at_ (k := j) (by rw [imarks_len]; exact hlt)
      have hc2 : (imarks k n)[j]'(by rw [imarks_len]; exact hlt) = Value.int .i64 (k + (j : Int)) := by
        have := imarks_at k n j hlt
        rw [List.getElem?_eq_getElem (by rw [imarks_len]; exact hlt)] at this
        exact Option.some.inj this
      rw [hc2] at hc
      have hlt2 : (j : Int) < (n : Int) := by omega
      have hne : ((k + (j : Int)) != (k + (j : Int))) = false := by simp
      go_wp2_with fail
      go_round
      case rel => exact ⟨j + 1, by omega, by go_num, by go_num⟩
      case measure => simp [intOf]; omega
    · have hj4 : j = n := by omega
      subst hj4
      go_wp2_with fail
      go_ret
      exact ⟨rfl, rfl⟩
set_option maxHeartbeats 2000000 in
theorem markDisk_any (bs ns ps bc nc pc : Nat) (ar : Bool) (bk nk pk : Nat) (ls : List ByteArray) (lc : List CPending) (lk : List Int) (k : Int) (w : World) (hls : ls.length = ns) (hlc : lc.length = nc) (hlk : lk.length = nk) (hns : ns ≤ 1048576) (hnc : nc ≤ 1048576) (hnk : nk ≤ 1048576) (h1 : 1 ≤ k) (h2 : k ≤ 1000)
    (hsc : bs ≠ bc) (hsk : bs ≠ bk) (hck : bc ≠ bk)
    (Bs : Blk w bs 9 (ls.map fun c => Value.string c)) (Bc : Blk w bc 118 (lc.flatMap CPending.cs)) (Bk : Blk w bk 3 (lk.map fun c => Value.int .i64 c)) :
    Calls Try.prog 17 #[.agg #[.slice (some ⟨bs, 0, none⟩) ns ps, .slice (some ⟨bc, 0, none⟩) nc pc, .bool ar, .slice (some ⟨bk, 0, none⟩) nk pk], .int .i64 k] w fun e w' => e = .returned (.int .i64 (k + ns + 2 * nc + nk)) ∧ ∃ w1 w2 w3, Ext w w1 ∧ w1.grownBy w2 (some bs) ∧ w2.grownBy w3 (some bc) ∧ w3.grownBy w' (some bk) := by
  have HX := Lib.hid (Blk.new w 26 [.slice (some ⟨bs, 0, none⟩) ns ps, .slice (some ⟨bc, 0, none⟩) nc pc, .bool ar, .slice (some ⟨bk, 0, none⟩) nk pk])
  have E0 : Ext w (w.alloc (.cells #[.slice (some ⟨bs, 0, none⟩) ns ps, .slice (some ⟨bc, 0, none⟩) nc pc, .bool ar, .slice (some ⟨bk, 0, none⟩) nk pk] 26)) := (by repeat (first | exact Ext.refl _ | assumption | refine Ext.alloc ?_ _ | refine Ext.drewN ?_ _ | refine Ext.drew ?_ | refine Ext.set ?_ (by dsimp only; omega) _ | refine Ext.trans ?_ (by assumption)))
  have HBc := Lib.hid (Bc.ext E0)
  have HBk := Lib.hid (Bk.ext E0)
  have HE0 := Lib.hid E0
  have hlt1 := Bs.lt
  have hlt2 := Bc.lt
  have HM := Lib.hid (markStringS_any bs ns ps k ls [] _ (by omega) h1 (by omega) hls (by rw [List.append_nil]; exact Bs.ext E0))
  have HLc := Lib.hid hlc
  have HLk := Lib.hid hlk
  clear Bs Bc Bk E0 hls hlc hlk
  go_enter Try.func17, Try.ntmps17
  go_wp2_with fail
  refine HM.out.mono ?_
  rintro e w2 ⟨rfl, -, G1⟩
  have HG1 := Lib.hid G1
  have HB2 := Lib.hid (HBc.out.grown G1 hsc.symm)
  have HB3 := Lib.hid (HBk.out.grown G1 hsk.symm)
  have HX2 := HX.out.grown G1 (by omega)
  have HXX := Lib.hid HX2
  obtain ⟨x0, x1, x2, x3⟩ := HX2.cells4
  clear G1 HX2 HM
  have HM2 := Lib.hid (fun k' (hk : k' = k + (ns : Int)) => markPendingS_any bc nc pc k' lc [] w2 hnc (by omega) (by omega) HLc.out (by rw [List.append_nil]; exact HB2.out))
  go_wp2_with fail
  refine (HM2.out _ rfl).mono ?_
  rintro e w3 ⟨rfl, -, G2⟩
  have HG2 := Lib.hid G2
  have HB4 := Lib.hid (HB3.out.grown G2 hck.symm)
  have HX3 := HXX.out.grown G2 (by omega)
  clear x0 x1 x2 x3
  obtain ⟨x0, x1, x2, x3⟩ := HX3.cells4
  clear G2 HM2 HX3
  have HM3 := Lib.hid (fun k' (hk : k' = k + (ns : Int) + 2 * (nc : Int)) => markIntS_blk bk nk pk k' _ w3 (by omega) (by omega) (by omega) (by rw [List.length_map, HLk.out]; exact Nat.le_refl _) HB4.out)
  go_wp2_with fail
  refine (HM3.out _ rfl).mono ?_
  rintro e w4 ⟨rfl, -, G3⟩
  have HG3 := Lib.hid G3
  clear G3 HM3 x0 x1 x2 x3
  go_wp2_with fail
  go_ret
  exact ⟨rfl, _, _, _, HE0.out, HG1.out, HG2.out, HG3.out⟩
end Go.Proofs.Ytnbfjkebakaigaa
