/- The walk of the reference's search for a round of waits. -/
import Derived.Test.YtnbfjkebakaigaaRound
import Derived.Test.YtnbfjkebakaigaaLocks2
import Derived.Test.YtnbfjkebakaigaaInts
import Derived.Test.YtnbfjkebakaigaaMarkB
namespace Go.Proofs.Ytnbfjkebakaigaa
open Go.RowKit Go.Deep
set_option linter.unusedVariables false
set_option maxRecDepth 100000
abbrev intR (r : List Int) : List Value := r.map fun c => Value.int .i64 c
/-- an owned row of numbers that is not empty -/
theorem own_ints {w : World} {B : Nat} {e : TypeId} {v : Value} {r : List Int} (h : w.ownsRow B e 1 v r.length (intR r)) (hn : 0 < r.length) :
    ∃ g cap, v = .slice (some ⟨g, 0, none⟩) r.length cap ∧ B ≤ g ∧ g < w.heap.size ∧ ∀ k (hk : k < r.length), w.cell? ⟨g, k, none⟩ = some (.int .i64 r[k]) := by
  obtain ⟨g, cap, cs, hv, hb, h1, h2, hB, h3, h4⟩ := own_form h hn
  refine ⟨g, cap, hv, hb, hB.lt, fun k hk => ?_⟩
  obtain ⟨b', o', e', hx⟩ := (Rd.take_ hB h4) (by intro e; have h0 := congrArg List.length e; rw [List.length_map] at h0; rw [List.length_nil] at h0; omega)
  injection e' with e'
  injection e' with e1 e2 _
  subst e1; subst e2
  have := hx k (.int .i64 r[k]) (by simp [List.getElem?_map, List.getElem?_eq_getElem hk])
  rwa [Nat.zero_add] at this
theorem mem_take_step {r : List Int} {x : Int} {j : Nat} (hj : j < r.length) : decide (x ∈ r.take (j + 1)) = (decide (x ∈ r.take j) || (r[j] == x)) := by
  rw [List.take_succ_eq_append_getElem hj]
  rw [Bool.eq_iff_iff]
  simp only [decide_eq_true_eq, Bool.or_eq_true, beq_iff_eq, List.mem_append, List.mem_singleton]
  constructor
  · rintro (h | h)
    · exact .inl h
    · exact .inr h.symm
  · rintro (h | h)
    · exact .inl h
    · exact .inr h.symm
set_option maxHeartbeats 4000000 in
theorem spec_l06Round (Ah : Option Addr) (nh ph : Nat) (Aq : Option Addr) (nq pq : Nat) (lq : List CWait) (tx : Int) (w : World) (hlq : lq.length = nq) (hnq : nq ≤ 100)
    (hrq : Rd w Aq (lq.flatMap CWait.cs)) :
    Calls Try.prog 112 #[.agg #[.slice Ah nh ph, .slice Aq nq pq], .int .i64 tx] w fun e w' => e = .returned (.bool (roundB lq tx)) ∧ Ext w w' := by
  have HLq := Lib.hid hlq
  have HS := Lib.hid (OutAt.start lq tx)
  have HR1 := Lib.hid (RInv.one lq tx)
  have HX := Lib.hid (Blk.new w 57 [.slice Ah nh ph, .slice Aq nq pq])
  have HE0 := Lib.hid (show Ext w (w.alloc (.cells #[.slice Ah nh ph, .slice Aq nq pq] 57)) from (by repeat (first | exact Ext.refl _ | assumption | refine Ext.alloc ?_ _ | refine Ext.drewN ?_ _ | refine Ext.drew ?_ | refine Ext.set ?_ (by dsimp only; omega) _ | refine Ext.trans ?_ (by assumption))))
  obtain ⟨i0, hi, hz0, hz1, hz2⟩ := info_parts info_IntS
  generalize hrb : roundB lq tx = rb
  have HRB := Lib.hid hrb
  clear hlq hrb
  go_enter Try.func112, Try.ntmps112
  go_wp2_with fail
  have hI := World.ownsRow_lit (base := w.heap.size + 1) (e := 3) (size := 1) (w.alloc (.cells #[.slice Ah nh ph, .slice Aq nq pq] 57)) #[.int .i64 tx] 1 (by rw [World.size_alloc]; exact Nat.le_refl _) (by unfold maxLen; omega) rfl
  have hsz : (w.alloc (.cells #[.slice Ah nh ph, .slice Aq nq pq] 57)).heap.size = w.heap.size + 1 := World.size_alloc _ _
  rw [hsz] at hI
  generalize (w.alloc (.cells #[.slice Ah nh ph, .slice Aq nq pq] 57)) = w1 at hI HX HE0 hsz ⊢
  have HI := Lib.hid hI
  have HX1 := HX
  have HE1 := HE0
  have HSZ := Lib.hid hsz
  clear hI HX HE0 hsz
  go_loopw [6, 5] (fun i v wr => ∃ (k : Nat) (r : List Int), i = .int .i64 k ∧ k ≤ r.length ∧ RInv lq tx r ∧ OutAt lq tx k r ∧ wr.ownsRow (w.heap.size + 1) 3 1 v r.length (intR r) ∧ Ext w1 wr) (fun i _ _ => lq.length + 1 - (intOf i).toNat)
  case atStart => exact ⟨0, [tx], rfl, Nat.zero_le _, HR1.out, HS.out, HI.out, (Ext.refl w1).alloc _⟩
  case round =>
    obtain ⟨k, r, rfl, hk, hR, hO, ho, hE⟩ := hrel
    have HR := Lib.hid hR
    have HO := Lib.hid hO
    have HW := Lib.hid ho
    have HE := Lib.hid hE
    clear hR hO hE HR1 HS HI
    by_cases hkr : k < r.length
    · obtain ⟨g, cap, rfl, hg1, hg2, hc⟩ := own_ints HW.out (by omega)
      have HC := Lib.hid hc
      clear ho
      have hle := HR.out.le
      rw [HLq.out] at hle
      have hkI : (k : Int) < (r.length : Int) := by omega
      clear hc
      go_wp2_with fail
      obtain ⟨wo, rfl⟩ : ∃ wo : World, wo = wr := ⟨_, rfl⟩
      have HOE := Lib.hid HE.out
      have HV0 := Lib.hid (show r[k]? = some r[k] from List.getElem?_eq_getElem hkr)
      generalize hv0 : r[k] = v0 at HV0
      have HV1 := Lib.hid hv0
      clear hv0 HE
      go_loopw [7, 5] (fun i v wr => ∃ (q : Nat) (r' : List Int), i = .int .i64 q ∧ q ≤ nq ∧ RInv lq tx r' ∧ k < r'.length ∧ r'[k]? = some v0 ∧ innF tx v0 lq r = innF tx v0 (lq.drop q) r' ∧ wr.ownsRow (w.heap.size + 1) 3 1 v r'.length (intR r') ∧ Ext w1 wr) (fun i _ _ => nq - (intOf i).toNat)
      case atStart => exact ⟨0, r, rfl, Nat.zero_le _, HR.out, hkr, HV0.out, rfl, HW.out, HOE.out⟩
      case round =>
        obtain ⟨q, r', rfl, hq, hR', hk', hv', hin, ho, hE⟩ := hrel
        have HR' := Lib.hid hR'
        have HV' := Lib.hid hv'
        have HIN := Lib.hid hin
        have HW' := Lib.hid ho
        have HE := Lib.hid hE
        clear hR' hv' hin ho hE HW HV0 HC hg2 HOE
        obtain ⟨g2, cap2, rfl, hgb, hgl, hc⟩ := own_ints HW'.out (by omega)
        have HC := Lib.hid hc
        have hle' := HR'.out.le
        rw [HLq.out] at hle'
        obtain ⟨x0, x1⟩ := (HX1.out.ext HE.out).cells2
        clear hc
        by_cases hql : q < nq
        · have hqI : (q : Int) < (nq : Int) := by omega
          have hqN : q < lq.length := by rw [HLq.out]; exact hql
          have HRq := Lib.hid hrq
          obtain ⟨b, o, hAq, hcq⟩ := (hrq.ext (HE1.out.trans HE.out)).flat CWait.len (by decide) hqN
          subst hAq
          have c0 : wr.cell? ⟨b, o + q * 2, none⟩ = some (.int .i64 lq[q].a) := by exact hcq 0 _ rfl
          have c1 : wr.cell? ⟨b, o + q * 2 + 1, none⟩ = some (.int .i64 lq[q].b) := by rw [Nat.add_assoc]; exact hcq 1 _ rfl
          clear hcq hrq
          go_wp2_with fail
          have HA := Lib.hid (Blk.new wr 128 [.int .i64 lq[q].a, .int .i64 lq[q].b])
          have HE2 := Lib.hid (HE.out.alloc (.cells #[.int .i64 lq[q].a, .int .i64 lq[q].b] 128))
          have HW2 := Lib.hid (own_ext HW'.out ((Ext.refl wr).alloc (.cells #[.int .i64 lq[q].a, .int .i64 lq[q].b] 128)))
          have HC2 := Lib.hid (fun j hj => ((Ext.refl wr).alloc (.cells #[.int .i64 lq[q].a, .int .i64 lq[q].b] 128)).cell (HC.out j hj))
          clear HW' HC HE x0 x1 c0 c1
          generalize hax : lq[q].a = wa at HA HE2 HW2 HC2 ⊢
          generalize hbx : lq[q].b = wb at HA HE2 HW2 HC2 ⊢
          have HAX := Lib.hid hax
          have HBX := Lib.hid hbx
          clear hax hbx
          generalize wr.alloc (.cells #[.int .i64 wa, .int .i64 wb] 128) = w2 at HA HE2 HW2 HC2 ⊢
          generalize wr.heap.size = bw at HA ⊢
          have hvk : r'[k] = v0 := by
            have := HV'.out
            rw [List.getElem?_eq_getElem hk'] at this
            injection this
          have ck : w2.cell? ⟨g2, k, none⟩ = some (.int .i64 v0) := by rw [← hvk]; exact HC2.out k hk'
          have hkI' : (k : Int) < (r'.length : Int) := by omega
          clear hvk
          obtain ⟨a0, a1⟩ := HA.out.cells2
          by_cases hav : wa = v0
          · have ht9 : (wa != v0) = false := by rw [hav]; simp
            refine rg_start (by kernel_rfl) (Ext.refl w2) (fun hE0 => ?_)
            (refine rg_take (v := ?_) 0 rfl (by kernel_rfl) (by kernel_rfl) (by kernel_rfl) (fun _ _ _ h => h) (by rfl) (by assumption) (fun W hW => ?_) ?_; rotate_left; (focus (go_simp; try with_reducible rfl)); (try simp only [List.setIfInBounds_toArray, List.set_cons_succ, List.set_cons_zero]))
            (refine rg_take (v := ?_) 1 rfl (by kernel_rfl) (by kernel_rfl) (by kernel_rfl) (fun _ _ _ h => h) (by rfl) (by assumption) (fun W hW => ?_) ?_; rotate_left; (focus (have k0 := hW.cell a0; go_simp; try with_reducible rfl)); (try simp only [List.setIfInBounds_toArray, List.set_cons_succ, List.set_cons_zero]))
            (refine rg_take (v := ?_) 2 rfl (by kernel_rfl) (by kernel_rfl) (by kernel_rfl) (fun _ _ _ h => h) (by rfl) (by assumption) (fun W hW => ?_) ?_; rotate_left; (focus (go_simp; try with_reducible rfl)); (try simp only [List.setIfInBounds_toArray, List.set_cons_succ, List.set_cons_zero]))
            (refine rg_take (v := ?_) 3 rfl (by kernel_rfl) (by kernel_rfl) (by kernel_rfl) (fun _ _ _ h => h) (by rfl) (by assumption) (fun W hW => ?_) ?_; rotate_left; (focus (go_simp; try with_reducible rfl)); (try simp only [List.setIfInBounds_toArray, List.set_cons_succ, List.set_cons_zero]))
            (refine rg_take (v := ?_) 4 rfl (by kernel_rfl) (by kernel_rfl) (by kernel_rfl) (fun _ _ _ h => h) (by rfl) (by assumption) (fun W hW => ?_) ?_; rotate_left; (focus (go_simp; try with_reducible rfl)); (try simp only [List.setIfInBounds_toArray, List.set_cons_succ, List.set_cons_zero]))
            (refine rg_take (v := ?_) 5 rfl (by kernel_rfl) (by kernel_rfl) (by kernel_rfl) (fun _ _ _ h => h) (by rfl) (by assumption) (fun W hW => ?_) ?_; rotate_left; (focus (have k0 := hW.cell ck; go_simp; try with_reducible rfl)); (try simp only [List.setIfInBounds_toArray, List.set_cons_succ, List.set_cons_zero]))
            (refine rg_take (v := ?_) 6 rfl (by kernel_rfl) (by kernel_rfl) (by kernel_rfl) (fun _ _ _ h => h) (by rfl) (by assumption) (fun W hW => ?_) ?_; rotate_left; (focus (go_simp; try with_reducible rfl)); (try simp only [List.setIfInBounds_toArray, List.set_cons_succ, List.set_cons_zero]))
            refine rg_done (by kernel_rfl) ?_
            have HA3 := Lib.hid (HA.out.ext hE0)
            have HE3 := Lib.hid (HE2.out.trans hE0)
            have HW3 := Lib.hid (own_ext HW2.out hE0)
            have HC3 := Lib.hid (fun j hj => hE0.cell (HC2.out j hj))
            clear HA HE2 HW2 HC2 hE0 a0 a1 ck ht9
            generalize w2.drew = w3 at HA3 HE3 HW3 HC3 ⊢
            obtain ⟨a0, a1⟩ := HA3.out.cells2
            by_cases hbt : wb = tx
            · have ht10 : (wb == tx) = true := by rw [hbt]; simp
              have HV := Lib.hid (HO.out.found HR.out hkr (by rw [HV1.out, HIN.out, innF_round hqN (by rw [HAX.out, hav]) (by rw [HBX.out, hbt])]))
              clear HO hbt hav
              go_wp2_with fail
              go_ret
              exact ⟨ret_bool (by rw [← HRB.out, HV.out]), (HE1.out.trans HE3.out)⟩
            have ht10 : (wb == tx) = false := by rw [beq_eq_false_iff_ne]; exact hbt
            have HBT := Lib.hid hbt
            have HAV := Lib.hid hav
            clear hbt hav
            go_wp2_with fail
            clear a0 a1 ht10
            obtain ⟨wo2, rfl⟩ : ∃ wo2 : World, wo2 = wr := ⟨_, rfl⟩
            go_loopw [10, 9] (fun i u wr => ∃ j : Nat, i = .int .i64 j ∧ j ≤ r'.length ∧ u = .bool (decide (wb ∈ r'.take j)) ∧ Ext w3 wr) (fun i _ _ => r'.length - (intOf i).toNat)
            case atStart => exact ⟨0, rfl, Nat.zero_le _, by simp, Ext.refl _⟩
            case round =>
              obtain ⟨j, rfl, hj, rfl, hE4⟩ := hrel
              have HE4 := Lib.hid hE4
              have HM := Lib.hid (fun h => mem_take_step (r := r') (x := wb) (j := j) h)
              clear hE4
              obtain ⟨a0, a1⟩ := (HA3.out.ext HE4.out).cells2
              by_cases hjr : j < r'.length
              · have hjI : (j : Int) < (r'.length : Int) := by omega
                have cj := HE4.out.cell (HC3.out j hjr)
                rcases hth : decide (wb ∈ r'.take j) with _ | _
                · rcases heq : (r'[j] == wb) with _ | _
                  · have HN := Lib.hid (show decide (wb ∈ r'.take (j + 1)) = false by rw [HM.out hjr, hth, heq]; rfl)
                    clear hth
                    go_wp2_with fail
                    refine rg_start (by kernel_rfl) (Ext.refl wr) (fun hE0 => ?_)
                    (refine rg_take (v := ?_) 0 rfl (by kernel_rfl) (by kernel_rfl) (by kernel_rfl) (fun _ _ _ h => h) (by rfl) (by assumption) (fun W hW => ?_) ?_; rotate_left; (focus (go_simp; try with_reducible rfl)); (try simp only [List.setIfInBounds_toArray, List.set_cons_succ, List.set_cons_zero]))
                    (refine rg_take (v := ?_) 1 rfl (by kernel_rfl) (by kernel_rfl) (by kernel_rfl) (fun _ _ _ h => h) (by rfl) (by assumption) (fun W hW => ?_) ?_; rotate_left; (focus (go_simp; try with_reducible rfl)); (try simp only [List.setIfInBounds_toArray, List.set_cons_succ, List.set_cons_zero]))
                    (refine rg_take (v := ?_) 2 rfl (by kernel_rfl) (by kernel_rfl) (by kernel_rfl) (fun _ _ _ h => h) (by rfl) (by assumption) (fun W hW => ?_) ?_; rotate_left; (focus (go_simp; try with_reducible rfl)); (try simp only [List.setIfInBounds_toArray, List.set_cons_succ, List.set_cons_zero]))
                    (refine rg_take (v := ?_) 3 rfl (by kernel_rfl) (by kernel_rfl) (by kernel_rfl) (fun _ _ _ h => h) (by rfl) (by assumption) (fun W hW => ?_) ?_; rotate_left; (focus (go_simp; try with_reducible rfl)); (try simp only [List.setIfInBounds_toArray, List.set_cons_succ, List.set_cons_zero]))
                    (refine rg_take (v := ?_) 4 rfl (by kernel_rfl) (by kernel_rfl) (by kernel_rfl) (fun _ _ _ h => h) (by rfl) (by assumption) (fun W hW => ?_) ?_; rotate_left; (focus (go_simp; try with_reducible rfl)); (try simp only [List.setIfInBounds_toArray, List.set_cons_succ, List.set_cons_zero]))
                    (refine rg_take (v := ?_) 5 rfl (by kernel_rfl) (by kernel_rfl) (by kernel_rfl) (fun _ _ _ h => h) (by rfl) (by assumption) (fun W hW => ?_) ?_; rotate_left; (focus (have k0 := hW.cell cj; go_simp; try with_reducible rfl)); (try simp only [List.setIfInBounds_toArray, List.set_cons_succ, List.set_cons_zero]))
                    (refine rg_take (v := ?_) 6 rfl (by kernel_rfl) (by kernel_rfl) (by kernel_rfl) (fun _ _ _ h => h) (by rfl) (by assumption) (fun W hW => ?_) ?_; rotate_left; (focus (go_simp; try with_reducible rfl)); (try simp only [List.setIfInBounds_toArray, List.set_cons_succ, List.set_cons_zero]))
                    (refine rg_take (v := ?_) 7 rfl (by kernel_rfl) (by kernel_rfl) (by kernel_rfl) (fun _ _ _ h => h) (by rfl) (by assumption) (fun W hW => ?_) ?_; rotate_left; (focus (have k0 := hW.cell a1; go_simp; try with_reducible rfl)); (try simp only [List.setIfInBounds_toArray, List.set_cons_succ, List.set_cons_zero]))
                    (refine rg_take (v := ?_) 8 rfl (by kernel_rfl) (by kernel_rfl) (by kernel_rfl) (fun _ _ _ h => h) (by rfl) (by assumption) (fun W hW => ?_) ?_; rotate_left; (focus (go_simp; try with_reducible rfl)); (try simp only [List.setIfInBounds_toArray, List.set_cons_succ, List.set_cons_zero]))
                    (refine rg_take (v := ?_) 9 rfl (by kernel_rfl) (by kernel_rfl) (by kernel_rfl) (fun _ _ _ h => h) (by rfl) (by assumption) (fun W hW => ?_) ?_; rotate_left; (focus (go_simp; try with_reducible rfl)); (try simp only [List.setIfInBounds_toArray, List.set_cons_succ, List.set_cons_zero]))
                    (refine rg_take (v := ?_) 10 rfl (by kernel_rfl) (by kernel_rfl) (by kernel_rfl) (fun _ _ _ h => h) (by rfl) (by assumption) (fun W hW => ?_) ?_; rotate_left; (focus (go_simp; try with_reducible rfl)); (try simp only [List.setIfInBounds_toArray, List.set_cons_succ, List.set_cons_zero]))
                    refine rg_done (by kernel_rfl) ?_
                    go_wp2_with fail
                    go_roundw
                    case rel => exact ⟨j + 1, by go_num, by omega, by rw [HN.out], (HE4.out.trans hE0)⟩
                    case measure => simp [intOf]; omega
                  · have HN := Lib.hid (show decide (wb ∈ r'.take (j + 1)) = true by rw [HM.out hjr, hth, heq]; rfl)
                    clear hth
                    go_wp2_with fail
                    refine rg_start (by kernel_rfl) (Ext.refl wr) (fun hE0 => ?_)
                    (refine rg_take (v := ?_) 0 rfl (by kernel_rfl) (by kernel_rfl) (by kernel_rfl) (fun _ _ _ h => h) (by rfl) (by assumption) (fun W hW => ?_) ?_; rotate_left; (focus (go_simp; try with_reducible rfl)); (try simp only [List.setIfInBounds_toArray, List.set_cons_succ, List.set_cons_zero]))
                    (refine rg_take (v := ?_) 1 rfl (by kernel_rfl) (by kernel_rfl) (by kernel_rfl) (fun _ _ _ h => h) (by rfl) (by assumption) (fun W hW => ?_) ?_; rotate_left; (focus (go_simp; try with_reducible rfl)); (try simp only [List.setIfInBounds_toArray, List.set_cons_succ, List.set_cons_zero]))
                    (refine rg_take (v := ?_) 2 rfl (by kernel_rfl) (by kernel_rfl) (by kernel_rfl) (fun _ _ _ h => h) (by rfl) (by assumption) (fun W hW => ?_) ?_; rotate_left; (focus (go_simp; try with_reducible rfl)); (try simp only [List.setIfInBounds_toArray, List.set_cons_succ, List.set_cons_zero]))
                    (refine rg_take (v := ?_) 3 rfl (by kernel_rfl) (by kernel_rfl) (by kernel_rfl) (fun _ _ _ h => h) (by rfl) (by assumption) (fun W hW => ?_) ?_; rotate_left; (focus (go_simp; try with_reducible rfl)); (try simp only [List.setIfInBounds_toArray, List.set_cons_succ, List.set_cons_zero]))
                    (refine rg_take (v := ?_) 4 rfl (by kernel_rfl) (by kernel_rfl) (by kernel_rfl) (fun _ _ _ h => h) (by rfl) (by assumption) (fun W hW => ?_) ?_; rotate_left; (focus (go_simp; try with_reducible rfl)); (try simp only [List.setIfInBounds_toArray, List.set_cons_succ, List.set_cons_zero]))
                    (refine rg_take (v := ?_) 5 rfl (by kernel_rfl) (by kernel_rfl) (by kernel_rfl) (fun _ _ _ h => h) (by rfl) (by assumption) (fun W hW => ?_) ?_; rotate_left; (focus (have k0 := hW.cell cj; go_simp; try with_reducible rfl)); (try simp only [List.setIfInBounds_toArray, List.set_cons_succ, List.set_cons_zero]))
                    (refine rg_take (v := ?_) 6 rfl (by kernel_rfl) (by kernel_rfl) (by kernel_rfl) (fun _ _ _ h => h) (by rfl) (by assumption) (fun W hW => ?_) ?_; rotate_left; (focus (go_simp; try with_reducible rfl)); (try simp only [List.setIfInBounds_toArray, List.set_cons_succ, List.set_cons_zero]))
                    (refine rg_take (v := ?_) 7 rfl (by kernel_rfl) (by kernel_rfl) (by kernel_rfl) (fun _ _ _ h => h) (by rfl) (by assumption) (fun W hW => ?_) ?_; rotate_left; (focus (have k0 := hW.cell a1; go_simp; try with_reducible rfl)); (try simp only [List.setIfInBounds_toArray, List.set_cons_succ, List.set_cons_zero]))
                    (refine rg_take (v := ?_) 8 rfl (by kernel_rfl) (by kernel_rfl) (by kernel_rfl) (fun _ _ _ h => h) (by rfl) (by assumption) (fun W hW => ?_) ?_; rotate_left; (focus (go_simp; try with_reducible rfl)); (try simp only [List.setIfInBounds_toArray, List.set_cons_succ, List.set_cons_zero]))
                    (refine rg_take (v := ?_) 9 rfl (by kernel_rfl) (by kernel_rfl) (by kernel_rfl) (fun _ _ _ h => h) (by rfl) (by assumption) (fun W hW => ?_) ?_; rotate_left; (focus (go_simp; try with_reducible rfl)); (try simp only [List.setIfInBounds_toArray, List.set_cons_succ, List.set_cons_zero]))
                    (refine rg_take (v := ?_) 10 rfl (by kernel_rfl) (by kernel_rfl) (by kernel_rfl) (fun _ _ _ h => h) (by rfl) (by assumption) (fun W hW => ?_) ?_; rotate_left; (focus (go_simp; try with_reducible rfl)); (try simp only [List.setIfInBounds_toArray, List.set_cons_succ, List.set_cons_zero]))
                    refine rg_done (by kernel_rfl) ?_
                    go_wp2_with fail
                    go_roundw
                    case rel => exact ⟨j + 1, by go_num, by omega, by rw [HN.out], (HE4.out.trans hE0)⟩
                    case measure => simp [intOf]; omega
                · have HN := Lib.hid (show decide (wb ∈ r'.take (j + 1)) = true by rw [HM.out hjr, hth]; rfl)
                  clear hth
                  go_wp2_with fail
                  refine rg_start (by kernel_rfl) (Ext.refl wr) (fun hE0 => ?_)
                  (refine rg_take (v := ?_) 0 rfl (by kernel_rfl) (by kernel_rfl) (by kernel_rfl) (fun _ _ _ h => h) (by rfl) (by assumption) (fun W hW => ?_) ?_; rotate_left; (focus (go_simp; try with_reducible rfl)); (try simp only [List.setIfInBounds_toArray, List.set_cons_succ, List.set_cons_zero]))
                  (refine rg_take (v := ?_) 1 rfl (by kernel_rfl) (by kernel_rfl) (by kernel_rfl) (fun _ _ _ h => h) (by rfl) (by assumption) (fun W hW => ?_) ?_; rotate_left; (focus (go_simp; try with_reducible rfl)); (try simp only [List.setIfInBounds_toArray, List.set_cons_succ, List.set_cons_zero]))
                  (refine rg_skip 2 rfl (by kernel_rfl) (by kernel_rfl) (by kernel_rfl) (fun _ _ _ h => h) (by rfl) (by assumption) ?_; (try simp only [List.setIfInBounds_toArray, List.set_cons_succ, List.set_cons_zero]))
                  (refine rg_skip 3 rfl (by kernel_rfl) (by kernel_rfl) (by kernel_rfl) (fun _ _ _ h => h) (by rfl) (by assumption) ?_; (try simp only [List.setIfInBounds_toArray, List.set_cons_succ, List.set_cons_zero]))
                  (refine rg_skip 4 rfl (by kernel_rfl) (by kernel_rfl) (by kernel_rfl) (fun _ _ _ h => h) (by rfl) (by assumption) ?_; (try simp only [List.setIfInBounds_toArray, List.set_cons_succ, List.set_cons_zero]))
                  (refine rg_skip 5 rfl (by kernel_rfl) (by kernel_rfl) (by kernel_rfl) (fun _ _ _ h => h) (by rfl) (by assumption) ?_; (try simp only [List.setIfInBounds_toArray, List.set_cons_succ, List.set_cons_zero]))
                  (refine rg_skip 6 rfl (by kernel_rfl) (by kernel_rfl) (by kernel_rfl) (fun _ _ _ h => h) (by rfl) (by assumption) ?_; (try simp only [List.setIfInBounds_toArray, List.set_cons_succ, List.set_cons_zero]))
                  (refine rg_skip 7 rfl (by kernel_rfl) (by kernel_rfl) (by kernel_rfl) (fun _ _ _ h => h) (by rfl) (by assumption) ?_; (try simp only [List.setIfInBounds_toArray, List.set_cons_succ, List.set_cons_zero]))
                  (refine rg_skip 8 rfl (by kernel_rfl) (by kernel_rfl) (by kernel_rfl) (fun _ _ _ h => h) (by rfl) (by assumption) ?_; (try simp only [List.setIfInBounds_toArray, List.set_cons_succ, List.set_cons_zero]))
                  (refine rg_take (v := ?_) 9 rfl (by kernel_rfl) (by kernel_rfl) (by kernel_rfl) (fun _ _ _ h => h) (by rfl) (by assumption) (fun W hW => ?_) ?_; rotate_left; (focus (go_simp; try with_reducible rfl)); (try simp only [List.setIfInBounds_toArray, List.set_cons_succ, List.set_cons_zero]))
                  (refine rg_take (v := ?_) 10 rfl (by kernel_rfl) (by kernel_rfl) (by kernel_rfl) (fun _ _ _ h => h) (by rfl) (by assumption) (fun W hW => ?_) ?_; rotate_left; (focus (go_simp; try with_reducible rfl)); (try simp only [List.setIfInBounds_toArray, List.set_cons_succ, List.set_cons_zero]))
                  refine rg_done (by kernel_rfl) ?_
                  go_wp2_with fail
                  go_roundw
                  case rel => exact ⟨j + 1, by go_num, by omega, by rw [HN.out], (HE4.out.trans hE0)⟩
                  case measure => simp [intOf]; omega
              · have hjI : ¬ (j : Int) < (r'.length : Int) := by omega
                have htk : r'.take j = r' := List.take_of_length_le (by omega)
                rw [htk]
                by_cases hmem : wb ∈ r'
                · have hd : decide (wb ∈ r') = true := decide_eq_true hmem
                  have HIN2 := Lib.hid (HIN.out.trans (innF_there hqN (by rw [HAX.out, HAV.out]) (by rw [HBX.out]; exact HBT.out) (by rw [HBX.out]; exact hmem)))
                  clear hmem htk HM
                  rw [hd]
                  go_wp2_with fail
                  go_roundw
                  case rel => exact ⟨q + 1, r', by go_num, by omega, HR'.out, hk', HV'.out, HIN2.out, own_ext HW3.out HE4.out, (HE3.out.trans HE4.out)⟩
                  case measure => simp [intOf]; omega
                · have hd : decide (wb ∈ r') = false := decide_eq_false hmem
                  have HIN2 := Lib.hid (HIN.out.trans (innF_new hqN (by rw [HAX.out, HAV.out]) (by rw [HBX.out]; exact HBT.out) (by rw [HBX.out]; exact hmem)))
                  have HR2 := Lib.hid (HR'.out.more hqN (by rw [HBX.out]; exact hmem))
                  have HV2 := Lib.hid (show (r' ++ [wb])[k]? = some v0 by rw [List.getElem?_append_left hk']; exact HV'.out)
                  clear hmem htk HM
                  rw [hd]
                  have hle1 := HE4.out.le
                  have hle2 := HE3.out.le
                  have hle3 := HE1.out.le
                  have hrow := own_ext HW3.out (HE4.out.alloc (.cells #[.int .i64 wb] 3))
                  go_wp2_with (at_builtin; refine wpList_append_own _ rfl (.tmp 60) (.tmp 63) 24 rfl (w.heap.size + 1) 3 i0 (.int .i64 0) 1 8 Try.underlying24 hi hz0 hz1 hz2 rfl (by decide) _ r'.length _ rfl hrow ⟨wr.heap.size, 0, none⟩ 1 1 [.int .i64 wb] rfl rfl (rd_add (Blk.new wr _ _).rd) (by intro u hu; simp at hu; subst hu; rfl) (by unfold maxLen; omega) (by omega) (by simp; omega) ?_)
                  intro v4 w4 ho4 hg4 _
                  have HO4 := Lib.hid ho4
                  have E4 := Lib.hid (((HE3.out.trans HE4.out).alloc (.cells #[.int .i64 wb] 3)).grown hg4 (fun i e => by have h1 := own_blk hrow i e; have h2 := HSZ.out; omega))
                  clear hrow ho4 hg4
                  go_wp2_with fail
                  go_roundw
                  case rel => exact ⟨q + 1, r' ++ [wb], by go_num, by omega, (by have h := HR2.out; rw [HBX.out] at h; exact h), by rw [List.length_append]; omega, HV2.out, (by have h := HIN2.out; rw [HBX.out] at h; exact h), by rw [List.length_append, intR, List.map_append]; exact HO4.out, E4.out⟩
                  case measure => simp [intOf]; omega
          · have ht9 : (wa != v0) = true := by rw [bne_iff_ne]; exact hav
            have HIN2 := Lib.hid (HIN.out.trans (innF_skip hqN (by rw [HAX.out]; exact hav)))
            refine rg_start (by kernel_rfl) (Ext.refl w2) (fun hE0 => ?_)
            (refine rg_take (v := ?_) 0 rfl (by kernel_rfl) (by kernel_rfl) (by kernel_rfl) (fun _ _ _ h => h) (by rfl) (by assumption) (fun W hW => ?_) ?_; rotate_left; (focus (go_simp; try with_reducible rfl)); (try simp only [List.setIfInBounds_toArray, List.set_cons_succ, List.set_cons_zero]))
            (refine rg_take (v := ?_) 1 rfl (by kernel_rfl) (by kernel_rfl) (by kernel_rfl) (fun _ _ _ h => h) (by rfl) (by assumption) (fun W hW => ?_) ?_; rotate_left; (focus (have k0 := hW.cell a0; go_simp; try with_reducible rfl)); (try simp only [List.setIfInBounds_toArray, List.set_cons_succ, List.set_cons_zero]))
            (refine rg_take (v := ?_) 2 rfl (by kernel_rfl) (by kernel_rfl) (by kernel_rfl) (fun _ _ _ h => h) (by rfl) (by assumption) (fun W hW => ?_) ?_; rotate_left; (focus (go_simp; try with_reducible rfl)); (try simp only [List.setIfInBounds_toArray, List.set_cons_succ, List.set_cons_zero]))
            (refine rg_take (v := ?_) 3 rfl (by kernel_rfl) (by kernel_rfl) (by kernel_rfl) (fun _ _ _ h => h) (by rfl) (by assumption) (fun W hW => ?_) ?_; rotate_left; (focus (go_simp; try with_reducible rfl)); (try simp only [List.setIfInBounds_toArray, List.set_cons_succ, List.set_cons_zero]))
            (refine rg_take (v := ?_) 4 rfl (by kernel_rfl) (by kernel_rfl) (by kernel_rfl) (fun _ _ _ h => h) (by rfl) (by assumption) (fun W hW => ?_) ?_; rotate_left; (focus (go_simp; try with_reducible rfl)); (try simp only [List.setIfInBounds_toArray, List.set_cons_succ, List.set_cons_zero]))
            (refine rg_take (v := ?_) 5 rfl (by kernel_rfl) (by kernel_rfl) (by kernel_rfl) (fun _ _ _ h => h) (by rfl) (by assumption) (fun W hW => ?_) ?_; rotate_left; (focus (have k0 := hW.cell ck; go_simp; try with_reducible rfl)); (try simp only [List.setIfInBounds_toArray, List.set_cons_succ, List.set_cons_zero]))
            (refine rg_take (v := ?_) 6 rfl (by kernel_rfl) (by kernel_rfl) (by kernel_rfl) (fun _ _ _ h => h) (by rfl) (by assumption) (fun W hW => ?_) ?_; rotate_left; (focus (go_simp; try with_reducible rfl)); (try simp only [List.setIfInBounds_toArray, List.set_cons_succ, List.set_cons_zero]))
            refine rg_done (by kernel_rfl) ?_
            clear a0 a1 ck hav
            go_wp2_with fail
            go_roundw
            case rel => exact ⟨q + 1, r', by go_num, by omega, HR'.out, hk', HV'.out, HIN2.out, own_ext HW2.out hE0, (HE2.out.trans hE0)⟩
            case measure => simp [intOf]; omega
        · have hqI : ¬ (q : Int) < (nq : Int) := by omega
          have HO2 := Lib.hid (HO.out.next HR.out hkr (by rw [HV1.out, HIN.out, innF_end _ _ _ _ (by rw [HLq.out]; omega)]))
          clear HO
          go_wp2_with fail
          go_roundw
          case rel => exact ⟨k + 1, r', by go_num, by omega, HR'.out, HO2.out, HW'.out, HE.out⟩
          case measure => simp [intOf]; rw [HLq.out]; omega
    · obtain ⟨A, cap, rfl⟩ := own_slice ho
      clear ho
      have hkI : ¬ (k : Int) < (r.length : Int) := by omega
      have HV := Lib.hid (HO.out.stop (by omega))
      clear HO
      go_wp2_with fail
      go_ret
      exact ⟨ret_bool (by rw [← HRB.out, HV.out]), (HE1.out.trans HE.out)⟩
end Go.Proofs.Ytnbfjkebakaigaa
