/- The walks of what reads a checkpoint's text. -/
import Derived.Test.YteaefjicpefgnaaReader
namespace Go.Proofs.Yteaefjicpefgnaa
open Go.RowKit Go.Deep
set_option linter.unusedVariables false
set_option maxRecDepth 100000
/-- '[]byte(t)', the capacity and the world behind names, and the capacity's bounds -/
theorem conv_bytes' {P : Program} (src dst e : TypeId) (s : ByteArray) {u : TypeDesc} (hs : P.underlying src = some u) (hd : P.underlying dst = some (.slice e)) (he : P.underlying e = some (.int .u8)) :
    ∃ (cf : World → Nat) (bw : World → World), (∀ W, (convert src dst (.string s)).run P W = .ok (.slice (some ⟨W.heap.size, 0, none⟩) s.size (cf W)) (bw W)) ∧ (∀ W, Rd (bw W) (some ⟨W.heap.size, 0, none⟩) (s.data.toList.map fun c => Value.int .u8 (c.toNat : Int))) ∧ (∀ W, Ext W (bw W)) ∧ ∀ W, s.size ≤ maxLen → s.size ≤ cf W ∧ cf W ≤ maxLen :=
  ⟨fun W => grownCap W s.size 0 e, fun W => Lib.bytesWorld W e s, fun W => Lib.run_convert_string_bytes W src dst e s hs hd he, fun W => bytesWorld_rd W e s, fun W => bytesWorld_ext W e s, fun W h => ⟨grownCap_ge W s.size 0 e, grownCap_le_maxLen W s.size 0 e h⟩⟩
/-- whether a number lies in a range -/
def inB (n lo hi : Int) : Bool := decide (lo ≤ n) && decide (n ≤ hi)
theorem inB_true {n lo hi : Int} (h : inB n lo hi = true) : lo ≤ n ∧ n ≤ hi := by unfold inB at h; simpa using h
theorem inB_false {n lo hi : Int} (h : inB n lo hi = false) : ¬ (lo ≤ n ∧ n ≤ hi) := by
  unfold inB at h; intro ⟨h1, h2⟩; rw [decide_eq_true h1, decide_eq_true h2] at h; cases h
/-- k entries of a checkpoint -/
def ckI (lsn high : Int) : Nat → List UInt8 → Bool → Bool → Int → List UInt8 × Bool × Bool
  | 0, l, f, ok, _ => (l, f, ok)
  | k + 1, l, f, ok, b => ckI lsn high k l.tail.tail ((f || l.isEmpty) || l.tail.isEmpty) (ok && inB (nmV l) (b + 1) high && inB (nmV l.tail) 1 (lsn - 1)) (nmV l)
/-- a list of a checkpoint -/
def ckL (most low high lsn : Int) (l : List UInt8) (f : Bool) : List UInt8 × Bool × Bool := ckI lsn high (nmV l) l.tail (f || l.isEmpty) (decide ((nmV l : Int) ≤ most)) (low - 1)
def ckB (l : List UInt8) (lsn : Int) : Bool :=
  ((ckL 8 0 7 lsn l false).2.2 && !(ckL 8 0 7 lsn l false).2.1) &&
  ((ckL 10 1 60 lsn (ckL 8 0 7 lsn l false).1 (ckL 8 0 7 lsn l false).2.1).2.2 && !(ckL 10 1 60 lsn (ckL 8 0 7 lsn l false).1 (ckL 8 0 7 lsn l false).2.1).2.1) &&
  (!(ckL 10 1 60 lsn (ckL 8 0 7 lsn l false).1 (ckL 8 0 7 lsn l false).2.1).2.1 && (ckL 10 1 60 lsn (ckL 8 0 7 lsn l false).1 (ckL 8 0 7 lsn l false).2.1).1.isEmpty)
theorem impl_inRange (n lo hi : Int) (w : World) : Calls Try.prog 62 #[.int .i64 n, .int .i64 lo, .int .i64 hi] w fun e w' => e = .returned (.bool (inB n lo hi)) ∧ w = w' := by
  by_cases h1 : lo ≤ n
  · by_cases h2 : n ≤ hi
    · have HV := Lib.hid (show inB n lo hi = true by unfold inB; rw [decide_eq_true h1, decide_eq_true h2]; rfl)
      go_enter Try.func62, Try.ntmps62
      go_wp2
      go_ret
      exact ⟨ret_bool HV.out.symm, rfl⟩
    · have HV := Lib.hid (show inB n lo hi = false by unfold inB; rw [decide_eq_false h2]; simp)
      have d := decide_eq_false h2
      go_enter Try.func62, Try.ntmps62
      go_wp2
      go_ret
      exact ⟨ret_bool HV.out.symm, rfl⟩
  · have HV := Lib.hid (show inB n lo hi = false by unfold inB; rw [decide_eq_false h1]; simp)
    have d := decide_eq_false h1
    go_enter Try.func62, Try.ntmps62
    go_wp2
    go_ret
    exact ⟨ret_bool HV.out.symm, rfl⟩
theorem spec_l01In (n lo hi : Int) (w : World) : Calls Try.prog 60 #[.int .i64 n, .int .i64 lo, .int .i64 hi] w fun e w' => e = .returned (.bool (inB n lo hi)) ∧ w = w' := by
  by_cases h1 : lo ≤ n
  · by_cases h2 : n ≤ hi
    · have HV := Lib.hid (show inB n lo hi = true by unfold inB; rw [decide_eq_true h1, decide_eq_true h2]; rfl)
      go_enter Try.func60, Try.ntmps60
      go_wp2
      go_ret
      exact ⟨ret_bool HV.out.symm, rfl⟩
    · have HV := Lib.hid (show inB n lo hi = false by unfold inB; rw [decide_eq_false h2]; simp)
      have d := decide_eq_false h2
      go_enter Try.func60, Try.ntmps60
      go_wp2
      go_ret
      exact ⟨ret_bool HV.out.symm, rfl⟩
  · have HV := Lib.hid (show inB n lo hi = false by unfold inB; rw [decide_eq_false h1]; simp)
    have d := decide_eq_false h1
    go_enter Try.func60, Try.ntmps60
    go_wp2
    go_ret
    exact ⟨ret_bool HV.out.symm, rfl⟩
set_option maxHeartbeats 2000000 in
theorem rdr_checkList (b D : Nat) (f0 : Bool) (l0 : List UInt8) (most low high lsn : Int) (w : World) (hR : Rdr w b 85 D l0 f0) (h1 : 0 ≤ most) (h2 : most ≤ 100) (h3 : 0 ≤ low) (h4 : low ≤ 100) (h5 : 1 ≤ lsn) (h6 : lsn ≤ 60) :
    Calls Try.prog 112 #[.pointer (some ⟨b, 0, none⟩), .int .i64 most, .int .i64 low, .int .i64 high, .int .i64 lsn] w fun e w' =>
      e = .returned (.bool ((ckL most low high lsn l0 f0).2.2 && !(ckL most low high lsn l0 f0).2.1)) ∧ Rdr w' b 85 D (ckL most low high lsn l0 f0).1 (ckL most low high lsn l0 f0).2.1 ∧ w.grownBy w' (some b) := by
  have HN := Lib.hid (rd_num b D f0 l0 w hR)
  have hm := nmV_lt l0
  have hL : ckL most low high lsn l0 f0 = ckI lsn high (nmV l0) l0.tail (f0 || l0.isEmpty) (decide ((nmV l0 : Int) ≤ most)) (low - 1) := rfl
  generalize ckL most low high lsn l0 f0 = F at hL ⊢
  generalize nmV l0 = m at HN hm hL
  generalize l0.tail = l1 at HN hL
  generalize (f0 || l0.isEmpty) = f1 at HN hL
  generalize hok : decide ((m : Int) ≤ most) = ok1 at hL
  have HF := Lib.hid hL.symm
  clear hR hL
  go_enter Try.func112, Try.ntmps112
  go_wp2_with fail
  refine HN.out.mono ?_
  rintro e w1 ⟨rfl, R1, G1⟩
  have HR1 := Lib.hid R1
  have HG1 := Lib.hid G1
  clear R1 G1 HN
  go_wp2_with fail
  have HOK := Lib.hid hok
  clear hok
  go_loopw [24, 12, 13] (fun i o q wr => ∃ (k : Nat) (l : List UInt8) (f ok : Bool) (p : Int), k ≤ m ∧ i = .int .i64 k ∧ o = .bool ok ∧ q = .int .i64 p ∧ -1 ≤ p ∧ p ≤ 255 ∧ ckI lsn high (m - k) l f ok p = F ∧ Rdr wr b 85 D l f ∧ w.grownBy wr (some b)) (fun i _ _ _ => m - (intOf i).toNat)
  case atStart => exact ⟨0, l1, f1, ok1, low - 1, Nat.zero_le _, rfl, by first | rfl | rw [HOK.out], rfl, by omega, by omega, HF.out, HR1.out, HG1.out⟩
  case round =>
    obtain ⟨k, l, f, ok, p, hk, rfl, rfl, rfl, hp1, hp2, hf, hR, hg⟩ := hrel
    have HFK := Lib.hid hf
    have HR := Lib.hid hR
    have HG := Lib.hid hg
    clear hf hR hg
    by_cases hlt : k < m
    · have hlt2 : (k : Int) < (m : Int) := by omega
      obtain ⟨j, hj⟩ : ∃ j, m - k = j + 1 := ⟨m - k - 1, by omega⟩
      have HF2 := Lib.hid (show ckI lsn high j l.tail.tail ((f || l.isEmpty) || l.tail.isEmpty) (ok && inB (nmV l) (p + 1) high && inB (nmV l.tail) 1 (lsn - 1)) (nmV l) = F by have := HFK.out; rw [hj] at this; exact this)
      have HJ := Lib.hid (show m - (k + 1) = j by omega)
      have hm2 := nmV_lt l
      have hm3 := nmV_lt l.tail
      clear hj HFK
      go_wp2_with fail
      refine (rd_num b D f l wr HR.out).mono ?_
      rintro e w2 ⟨rfl, R2, G2⟩
      have HR2 := Lib.hid R2
      have HG2 := Lib.hid (grown_trans HG.out G2)
      clear R2 G2 HR HG
      go_wp2_with fail
      refine (rd_num b D _ l.tail w2 HR2.out).mono ?_
      rintro e w3 ⟨rfl, R3, G3⟩
      have HR3 := Lib.hid R3
      have HG3 := Lib.hid (grown_trans HG2.out G3)
      clear R3 G3 HR2 HG2
      generalize nmV l = q at HF2 hm2 ⊢
      generalize nmV l.tail = q2 at HF2 hm3 ⊢
      generalize l.tail.tail = l3 at HF2 HR3
      generalize ((f || l.isEmpty) || l.tail.isEmpty) = f3 at HF2 HR3
      rcases ok with _ | _
      · go_wp2_with fail
        go_roundw
        case rel => exact ⟨k + 1, l3, f3, false, q, by omega, by go_num, rfl, rfl, by omega, by omega, by rw [HJ.out]; simpa using HF2.out, HR3.out, HG3.out⟩
        case measure => simp [intOf]; omega
      · go_wp2_with fail
        refine (impl_inRange _ _ _ _).mono ?_
        rintro e w' ⟨rfl, rfl⟩
        rcases hb1 : inB q (p + 1) high with _ | _
        · have HB1 := Lib.hid hb1
          clear hb1
          go_wp2_with fail
          go_roundw
          case rel => exact ⟨k + 1, l3, f3, false, q, by omega, by go_num, rfl, rfl, by omega, by omega, by rw [HJ.out]; have := HF2.out; rw [HB1.out] at this; simpa using this, HR3.out, HG3.out⟩
          case measure => simp [intOf]; omega
        · have HB1 := Lib.hid hb1
          clear hb1
          go_wp2_with fail
          refine (impl_inRange _ _ _ _).mono ?_
          rintro e w' ⟨rfl, rfl⟩
          generalize hb2 : inB q2 1 (lsn - 1) = b2
          have HB2 := Lib.hid hb2
          clear hb2
          go_wp2_with fail
          go_roundw
          case rel => exact ⟨k + 1, l3, f3, b2, q, by omega, by go_num, rfl, rfl, by omega, by omega, by rw [HJ.out]; have := HF2.out; rw [HB1.out, HB2.out] at this; simpa using this, HR3.out, HG3.out⟩
          case measure => simp [intOf]; omega
    · have hk4 : k = m := by omega
      subst hk4
      have HF2 := Lib.hid (show (l, f, ok) = F by have := HFK.out; rw [Nat.sub_self] at this; exact this)
      have hRR := HR.out
      obtain ⟨A9, n9, c9, B9, _⟩ := hRR
      obtain ⟨c0, c1⟩ := B9.cells2
      clear B9
      rcases ok with _ | _
      · go_wp2_with fail
        go_ret
        rw [← HF2.out]
        exact ⟨rfl, HR.out, HG.out⟩
      · go_wp2_with fail
        go_ret
        rw [← HF2.out]
        exact ⟨ret_bool (by simp), HR.out, HG.out⟩
set_option maxHeartbeats 1000000 in
theorem impl_isCheck (s : ByteArray) (lsn : Int) (w : World) (hs : s.size ≤ 1099511627776) (h5 : 1 ≤ lsn) (h6 : lsn ≤ 60) :
    Calls Try.prog 85 #[.string s, .int .i64 lsn] w fun e w' => e = .returned (.bool (ckB s.data.toList lsn)) ∧ Ext w w' := by
  obtain ⟨cf, bw, hcv, hrd, hxt, hcf⟩ := conv_bytes' (P := Try.prog) 9 22 5 s Try.underlying9 Try.underlying22 Try.underlying5
  have hB := Blk.new (bw w) 85 [.slice (some ⟨w.heap.size, 0, none⟩) s.size (cf w), .bool false]
  have hR : Rdr ((bw w).alloc (.cells #[.slice (some ⟨w.heap.size, 0, none⟩) s.size (cf w), .bool false] 85)) (bw w).heap.size 85 (w.heap.size + 1) s.data.toList false :=
    ⟨_, _, _, hB, by simp, (hcf w (by unfold maxLen; omega)).1, (hcf w (by unfold maxLen; omega)).2, (hrd w).ext (by repeat (first | exact Ext.refl _ | assumption | refine Ext.alloc ?_ _ | refine Ext.drewN ?_ _ | refine Ext.drew ?_ | refine Ext.set ?_ (by dsimp only; omega) _ | refine Ext.trans ?_ (by assumption))), fun _ a ha => by injection ha with ha; subst ha; show w.heap.size < w.heap.size + 1; omega⟩
  have HR := Lib.hid hR
  have hE : Ext w ((bw w).alloc (.cells #[.slice (some ⟨w.heap.size, 0, none⟩) s.size (cf w), .bool false] 85)) := (hxt w).alloc _
  have hbk : w.heap.size ≤ (bw w).heap.size := (hxt w).le
  have hv : ckB s.data.toList lsn = (((ckL 8 0 7 lsn s.data.toList false).2.2 && !(ckL 8 0 7 lsn s.data.toList false).2.1) && ((ckL 10 1 60 lsn (ckL 8 0 7 lsn s.data.toList false).1 (ckL 8 0 7 lsn s.data.toList false).2.1).2.2 && !(ckL 10 1 60 lsn (ckL 8 0 7 lsn s.data.toList false).1 (ckL 8 0 7 lsn s.data.toList false).2.1).2.1) && (!(ckL 10 1 60 lsn (ckL 8 0 7 lsn s.data.toList false).1 (ckL 8 0 7 lsn s.data.toList false).2.1).2.1 && (ckL 10 1 60 lsn (ckL 8 0 7 lsn s.data.toList false).1 (ckL 8 0 7 lsn s.data.toList false).2.1).1.isEmpty)) := rfl
  rw [hv]
  clear hv hB hR hrd hcf
  have HC1 := Lib.hid (rdr_checkList (bw w).heap.size (w.heap.size + 1) false s.data.toList 8 0 7 lsn _ HR.out (by omega) (by omega) (by omega) (by omega) h5 h6)
  generalize ckL 8 0 7 lsn s.data.toList false = F1 at HC1 ⊢
  generalize hF2 : ckL 10 1 60 lsn F1.1 F1.2.1 = F2
  have HF2 := Lib.hid hF2
  clear hF2 hxt
  have HE := Lib.hid hE
  clear hE
  go_enter Try.func85, Try.ntmps85
  go_wp2_with fail
  refine HC1.out.mono ?_
  rintro e w1 ⟨rfl, R1, G1⟩
  have HC2 := Lib.hid (rdr_checkList (bw w).heap.size (w.heap.size + 1) F1.2.1 F1.1 10 1 60 lsn w1 R1 (by omega) (by omega) (by omega) (by omega) h5 h6)
  rw [HF2.out] at HC2
  have HE1 := Lib.hid (HE.out.grownBy G1 hbk)
  clear R1 G1 HE HC1 HR
  go_wp2_with fail
  refine HC2.out.mono ?_
  rintro e w2 ⟨rfl, R2, G2⟩
  have HD := Lib.hid (rd_isDone (bw w).heap.size (w.heap.size + 1) F2.2.1 F2.1 w2 R2)
  have HE2 := Lib.hid (HE1.out.grownBy G2 hbk)
  clear R2 G2 HE1 HC2
  generalize hb1 : (F1.2.2 && !F1.2.1) = b1
  generalize hb2 : (F2.2.2 && !F2.2.1) = b2
  generalize hb3 : (!F2.2.1 && F2.1.isEmpty) = b3 at HD ⊢
  have HBB := Lib.hid (show ((F1.2.2 && !F1.2.1) && (F2.2.2 && !F2.2.1) && (!F2.2.1 && F2.1.isEmpty)) = (b1 && b2 && b3) by rw [hb1, hb2, hb3])
  clear hb1 hb2 hb3
  rcases b1 with _ | _
  · go_wp2_with fail
    go_ret
    exact ⟨ret_bool (by rw [HBB.out]; rfl), HE2.out⟩
  · rcases b2 with _ | _
    · go_wp2_with fail
      go_ret
      exact ⟨ret_bool (by rw [HBB.out]; rfl), HE2.out⟩
    · go_wp2_with fail
      refine HD.out.mono ?_
      rintro e w3 ⟨rfl, rfl⟩
      go_wp2_with fail
      go_ret
      exact ⟨ret_bool (by rw [HBB.out]; rfl), HE2.out⟩
end Go.Proofs.Yteaefjicpefgnaa
