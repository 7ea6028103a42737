/- The walk of the program's search for a round of waits (printed by gen_round3.py). -/
import Derived.Test.YtnbfjkebakaigaaRound2
import Derived.Test.YtnbfjkebakaigaaQueue
namespace Go.Proofs.Ytnbfjkebakaigaa
open Go.RowKit Go.Deep
set_option linter.unusedVariables false
set_option maxRecDepth 100000
def sLen : Value → Nat
  | .slice _ n _ => n
  | _ => 0
theorem q_len {s : List Int} {x : Int} {i : Nat} (h : i < s.length + 1) : (s ++ [x]).length - i = s.length - i + 1 := by
  simp only [List.length_append, List.length_cons, List.length_nil]; omega
theorem q_drop {s : List Int} {tx x : Int} {i : Nat} (h : i < s.length + 1) : intR ((tx :: (s ++ [x])).drop (i + 1)) = intR ((tx :: s).drop (i + 1)) ++ [.int .i64 x] := by
  have e : (tx :: (s ++ [x])).drop (i + 1) = (tx :: s).drop (i + 1) ++ [x] := by
    rw [← List.cons_append, List.drop_append_of_le_length (by simp; omega)]
  rw [e, intR, List.map_append]; rfl
set_option maxHeartbeats 1000000 in
theorem lib_indexInt (A : Option Addr) (n cp : Nat) (l : List Int) (x : Int) (w : World) (hl : l.length = n) (hn : n ≤ 1000000) (hr : Rd w A (intR l)) :
    Calls Try.prog 190 #[.slice A n cp, .int .i64 x] w fun e w' => (∃ i : Int, e = .returned (.int .i64 i) ∧ (0 ≤ i ↔ x ∈ l)) ∧ w' = w := by
  have HL := Lib.hid hl
  clear hl
  go_enter Try.func190, Try.ntmps190
  go_wp2
  go_loopw [8] (fun i wr => (∃ k : Nat, k ≤ n ∧ i = .int .i64 k ∧ x ∉ l.take k) ∧ wr = w) (fun i _ => n - (intOf i).toNat)
  case atStart => exact ⟨⟨0, Nat.zero_le _, rfl, by simp⟩, rfl⟩
  case round =>
    obtain ⟨⟨k, hk, rfl, hb⟩, rfl⟩ := hrel
    have HB := Lib.hid hb
    clear hb
    by_cases hlt : k < n
    · have hkl : k < l.length := by rw [HL.out]; exact hlt
      obtain ⟨b, o, rfl, hc⟩ := hr.map_ hkl
      have hlI : (k : Int) < (n : Int) := by omega
      by_cases hv : x = l[k]
      · have HV := Lib.hid (show x ∈ l by rw [hv]; exact List.getElem_mem hkl)
        have hvb : (x == l[k]) = true := by rw [hv]; simp
        clear hv
        go_wp2_with fail
        go_ret
        exact ⟨⟨_, rfl, ⟨fun _ => HV.out, fun _ => by omega⟩⟩, rfl⟩
      · have HN := Lib.hid (show x ∉ l.take (k + 1) by
          rw [List.take_succ_eq_append_getElem hkl, List.mem_append, List.mem_singleton]
          rintro (h | h)
          · exact HB.out h
          · exact hv h)
        have hvb : (x == l[k]) = false := by rw [beq_eq_false_iff_ne]; exact hv
        clear hv
        go_wp2_with fail
        go_roundw
        case rel => exact ⟨⟨k + 1, by omega, by go_num, HN.out⟩, by first | rfl | trivial⟩
        case measure => simp [intOf]; omega
    · have HV := Lib.hid (show x ∉ l by have h := HB.out; rw [List.take_of_length_le (by rw [HL.out]; omega)] at h; exact h)
      have hlI : ¬ (k : Int) < (n : Int) := by omega
      go_wp2_with fail
      go_ret
      exact ⟨⟨_, rfl, ⟨fun h => absurd h (by omega), fun h => absurd h HV.out⟩⟩, rfl⟩
set_option maxHeartbeats 1000000 in
theorem lib_containsInt (A : Option Addr) (n cp : Nat) (l : List Int) (x : Int) (w : World) (hl : l.length = n) (hn : n ≤ 1000000) (hr : Rd w A (intR l)) :
    Calls Try.prog 159 #[.slice A n cp, .int .i64 x] w fun e w' => e = .returned (.bool (decide (x ∈ l))) ∧ w = w' := by
  have HC := Lib.hid (lib_indexInt A n cp l x w hl hn hr)
  clear hl hr
  go_enter Try.func159, Try.ntmps159
  go_wp2_with fail
  refine HC.out.mono ?_
  rintro e w' ⟨⟨i, rfl, hi⟩, rfl⟩
  have HI := Lib.hid hi
  clear hi
  go_wp2_with fail
  go_ret
  exact ⟨by rw [← decide_eq_decide.2 HI.out]; rfl, rfl⟩
set_option maxHeartbeats 8000000 in
theorem impl_leads (Ah : Option Addr) (nh ph : Nat) (Aq : Option Addr) (nq pq : Nat) (lq : List CWait) (tx : Int) (w : World) (hlq : lq.length = nq) (hnq : nq ≤ 100)
    (hrq : Rd w Aq (lq.flatMap CWait.cs)) :
    Calls Try.prog 113 #[.agg #[.slice Ah nh ph, .slice Aq nq pq], .int .i64 tx, .int .i64 tx] w fun e w' => e = .returned (.bool (roundB lq tx)) ∧ Ext w w' := by
  have HLq := Lib.hid hlq
  have HS := Lib.hid (OutAt.start lq tx)
  have HR1 := Lib.hid (RInv.one lq tx)
  have HX := Lib.hid (Blk.new w 57 [.slice Ah nh ph, .slice Aq nq pq])
  have HE1 := Lib.hid (show Ext w (w.alloc (.cells #[.slice Ah nh ph, .slice Aq nq pq] 57)) from (by repeat (first | exact Ext.refl _ | assumption | refine Ext.alloc ?_ _ | refine Ext.drewN ?_ _ | refine Ext.drew ?_ | refine Ext.set ?_ (by dsimp only; omega) _ | refine Ext.trans ?_ (by assumption))))
  obtain ⟨i0, hi, hz0, hz1, hz2⟩ := info_parts info_IntS
  generalize hrb : roundB lq tx = rb
  have HRB := Lib.hid hrb
  clear hlq hrb
  go_enter Try.func113, Try.ntmps113
  go_wp2_with fail
  have hsz : (w.alloc (.cells #[.slice Ah nh ph, .slice Aq nq pq] 57)).heap.size = w.heap.size + 1 := World.size_alloc _ _
  generalize (w.alloc (.cells #[.slice Ah nh ph, .slice Aq nq pq] 57)) = w0 at HX HE1 hsz ⊢
  have q7 := QB.of_lit (w := w0) (base := w.heap.size + 1) (e := 3) (n := 0) #[] (by omega) rfl (by unfold maxLen; omega)
  have q8 := QB.of_lit (w := w0.alloc (.cells #[] 3)) (base := w.heap.size + 1) (e := 3) (n := 1) #[.int .i64 tx] (by rw [World.size_alloc]; omega) rfl (by unfold maxLen; omega)
  rw [World.size_alloc] at q8
  rw [hsz] at q7 q8
  have Q7 := Lib.hid (q7.ext ((Ext.refl _).alloc (.cells #[.int .i64 tx] 3)))
  have Q8 := Lib.hid q8
  have HSZ := Lib.hid hsz
  clear q7 q8 hsz
  go_loopw [7, 8] (fun v7 v8 wr => ∃ (i : Nat) (s : List Int) (g7 g8 : Nat), i ≤ s.length + 1 ∧ RInv lq tx (tx :: s) ∧ OutAt lq tx i (tx :: s) ∧ QB wr (w.heap.size + 1) 3 g7 v7 s.length (intR s) ∧ QB wr (w.heap.size + 1) 3 g8 v8 (s.length + 1 - i) (intR ((tx :: s).drop i)) ∧ g7 ≠ g8 ∧ Ext w0 wr) (fun v7 v8 _ => lq.length + sLen v8 - sLen v7)
  case atStart => exact ⟨0, [], w.heap.size + 1, w.heap.size + 1 + 1, by omega, HR1.out, HS.out, Q7.out, Q8.out, by omega, ((Ext.refl w0).alloc _).alloc _⟩
  case round =>
    obtain ⟨i, s, g7, g8, hi1, hR, hO, h7, h8, hne, hE⟩ := hrel
    have HR := Lib.hid hR
    have HO := Lib.hid hO
    have HE := Lib.hid hE
    have hle := hR.le
    have HQ7 := Lib.hid h7
    have HQ8 := Lib.hid h8
    clear hR hO hE HR1 HS Q7 Q8
    obtain ⟨o7, c7, rfl, hc7, hm7⟩ := h7.slice
    obtain ⟨o8, c8, rfl, hc8, hm8⟩ := h8.slice
    clear h7 h8
    rw [HLq.out] at hle
    simp only [List.length_cons] at hle
    by_cases hil : i < s.length + 1
    · obtain ⟨m, hm⟩ : ∃ m, s.length + 1 - i = m + 1 := ⟨s.length - i, by omega⟩
      rw [hm] at HQ8 hc8 ⊢
      have hir : i < (tx :: s).length := by simpa using hil
      have hcons := List.drop_eq_getElem_cons hir
      rw [hcons, intR, List.map_cons] at HQ8
      have HV0 := Lib.hid (show (tx :: s)[i]? = some (tx :: s)[i] from List.getElem?_eq_getElem hir)
      generalize hv0 : (tx :: s)[i] = v0 at HV0 HQ8
      have HV1 := Lib.hid hv0
      clear hv0 hcons
      have ct : wr.cell? ⟨g8, o8, none⟩ = some (.int .i64 v0) := by have h := HQ8.out.cell (k := 0) (by simp); rw [Nat.add_zero] at h; exact h
      obtain ⟨x0, x1⟩ := (HX.out.ext HE.out).cells2
      have hlen0 : (0 : Int) < ((m + 1 : Nat) : Int) := by omega
      have hmm := hm
      clear hm
      by_cases hc1 : c8 = 1
      · subst hc1
        obtain rfl : m = 0 := by omega
        simp only [Nat.zero_add] at HQ8 hlen0 hmm hc8 ⊢
        have HQT := Lib.hid (QB.tail0 (n := 0) HQ8.out)
        go_wp2_with fail
        clear x0 x1 ct hlen0
        obtain ⟨wo, rfl⟩ : ∃ wo : World, wo = wr := ⟨_, rfl⟩
        have hne0 := hne
        have HQ0 := Lib.hid HQ7.out
        have HEO := Lib.hid HE.out
        clear HQ7 HQ8 HE hne hc8 hm8 hc7 hm7
        go_loopw [26, 7, 8] (fun i7 v7 v8 wr => ∃ (q : Nat) (s' : List Int) (g7 g8 : Nat), i7 = .int .i64 q ∧ q ≤ nq ∧ RInv lq tx (tx :: s') ∧ i < s'.length + 1 ∧ innF tx v0 lq (tx :: s) = innF tx v0 (lq.drop q) (tx :: s') ∧ QB wr (w.heap.size + 1) 3 g7 v7 s'.length (intR s') ∧ QB wr (w.heap.size + 1) 3 g8 v8 (s'.length - i) (intR ((tx :: s').drop (i + 1))) ∧ g7 ≠ g8 ∧ Ext w0 wr) (fun i7 _ _ _ => nq - (intOf i7).toNat)
        case atStart => exact ⟨0, s, g7, g8, rfl, Nat.zero_le _, HR.out, hil, rfl, HQ0.out, (by have e : s.length - i = 0 := (by omega); rw [e]; exact HQT.out), hne0, HEO.out⟩
        case round =>
          clear HQ0 HQT HEO hne0 HV0
          obtain ⟨q, s', g7, g8, rfl, hq, hR', hir', hin, h7, h8, hne, hE⟩ := hrel
          have HR' := Lib.hid hR'
          have HIN := Lib.hid hin
          have HQ7 := Lib.hid h7
          have HQ8 := Lib.hid h8
          have HE := Lib.hid hE
          have hle' := hR'.le
          rw [HLq.out] at hle'
          simp only [List.length_cons] at hle'
          obtain ⟨o7, c7, rfl, hc7, hm7⟩ := h7.slice
          obtain ⟨o8, c8, rfl, hc8, hm8⟩ := h8.slice
          clear hR' hin h7 h8 hE
          by_cases hql : q < nq
          · have hqI : (q : Int) < (nq : Int) := by omega
            have hqN : q < lq.length := by rw [HLq.out]; exact hql
            have HRq := Lib.hid hrq
            obtain ⟨b, o, hAq, hcq⟩ := (hrq.ext (HE1.out.trans HE.out)).flat CWait.len (by decide) hqN
            subst hAq
            have c0 : wr.cell? ⟨b, o + q * 2, none⟩ = some (.int .i64 lq[q].a) := by exact hcq 0 _ rfl
            have c1 : wr.cell? ⟨b, o + q * 2 + 1, none⟩ = some (.int .i64 lq[q].b) := by rw [Nat.add_assoc]; exact hcq 1 _ rfl
            clear hcq hrq
            have HA := Lib.hid (Blk.new wr 128 [.int .i64 lq[q].a, .int .i64 lq[q].b])
            have HE2 := Lib.hid (HE.out.alloc (.cells #[.int .i64 lq[q].a, .int .i64 lq[q].b] 128))
            have l7 := HQ7.out.lt
            have l8 := HQ8.out.lt
            have HQ7 := Lib.hid (HQ7.out.ext ((Ext.refl wr).alloc (.cells #[.int .i64 lq[q].a, .int .i64 lq[q].b] 128)))
            have HQ8 := Lib.hid (HQ8.out.ext ((Ext.refl wr).alloc (.cells #[.int .i64 lq[q].a, .int .i64 lq[q].b] 128)))
            clear HE
            obtain ⟨a0, a1⟩ := HA.out.cells2
            generalize hax : lq[q].a = wa at HA HE2 HQ7 HQ8 c0 a0 a1
            generalize hbx : lq[q].b = wb at HA HE2 HQ7 HQ8 c1 a0 a1
            have HAX := Lib.hid hax
            have HBX := Lib.hid hbx
            clear hax hbx
            by_cases hav : wa = v0
            · have ht9 : (wa != v0) = false := by rw [hav]; simp
              have HAV := Lib.hid hav
              clear hav
              have HC := Lib.hid (lib_containsInt _ _ c7 s' wb (wr.alloc (.cells #[.int .i64 wa, .int .i64 wb] 128)) rfl (by omega) HQ7.out.rd)
              go_wp2_with fail
              refine HC.out.mono ?_
              rintro e w' ⟨rfl, rfl⟩
              clear HC c0 c1 ht9
              generalize wr.alloc (.cells #[.int .i64 wa, .int .i64 wb] 128) = W0 at HA HE2 HQ7 HQ8 a0 a1 ⊢
              generalize wr.heap.size = bw at HA l7 l8 a0 a1 ⊢
              have htx : tx ∉ s' := (List.nodup_cons.1 HR'.out.nd).1
              by_cases hm : wb ∈ s'
              · have hd : decide (wb ∈ s') = true := decide_eq_true hm
                have HIN2 := Lib.hid (HIN.out.trans (innF_there hqN (by rw [HAX.out]; exact HAV.out) (by rw [HBX.out]; intro e; exact htx (by rw [← e]; exact hm)) (by rw [HBX.out]; exact List.mem_cons_of_mem _ hm)))
                clear hm htx
                rw [hd]
                go_wp2_with fail
                go_roundw
                case rel => exact ⟨q + 1, s', g7, g8, by go_num, by omega, HR'.out, hir', HIN2.out, HQ7.out, HQ8.out, hne, HE2.out⟩
                case measure => simp [intOf]; omega

              have hd : decide (wb ∈ s') = false := decide_eq_false hm
              by_cases hbt : wb = tx
              · have ht10 : (wb == tx) = true := by rw [hbt]; simp
                have HV := Lib.hid (HO.out.found HR.out hir (by rw [HV1.out, HIN.out, innF_round hqN (by rw [HAX.out]; exact HAV.out) (by rw [HBX.out]; exact hbt)]))
                clear HO hbt hm htx
                rw [hd]
                go_wp2_with fail
                go_ret
                exact ⟨ret_bool (by rw [← HRB.out, HV.out]), (HE1.out.trans HE2.out)⟩
              have ht10 : (wb == tx) = false := by rw [beq_eq_false_iff_ne]; exact hbt
              have hmm2 : ¬ wb ∈ tx :: s' := by
                rw [List.mem_cons]; rintro (h | h)
                · exact hbt h
                · exact hm h
              have HIN2 := Lib.hid (HIN.out.trans (innF_new hqN (by rw [HAX.out]; exact HAV.out) (by rw [HBX.out]; exact hbt) (by rw [HBX.out]; exact hmm2)))
              have HR2 := Lib.hid (HR'.out.more hqN (by rw [HBX.out]; exact hmm2))
              rw [HBX.out] at HIN2 HR2
              clear hm HAV htx hbt hmm2 HR' HIN HR HO HV1 HAX HBX HRq
              rw [hd]
              go_wp2_with fail
              clear a0 a1 hd ht10
              refine rg_startS (fun W => Blk W bw 128 [.int .i64 wa, .int .i64 wb]) (by kernel_rfl) HA.out.drew (fun hS0 => ?_)
              have HA := Lib.hid HA.out.drew
              have HE2 := Lib.hid HE2.out.drew
              have HQ7 := Lib.hid (HQ7.out.ext (Ext.refl W0).drew)
              have HQ8 := Lib.hid (HQ8.out.ext (Ext.refl W0).drew)
              generalize W0.drew = W0 at HA HE2 HQ7 HQ8 hS0 ⊢
              (refine rg_take (v := ?_) 0 rfl (by kernel_rfl) (by kernel_rfl) (by kernel_rfl) (fun _ _ _ h => h) (by rfl) (by assumption) (fun W hW => ?_) ?_; rotate_left; (focus (go_simp; try with_reducible rfl)); (try simp only [List.setIfInBounds_toArray, List.set_cons_succ, List.set_cons_zero]))
              (refine rg_take (v := ?_) 1 rfl (by kernel_rfl) (by kernel_rfl) (by kernel_rfl) (fun _ _ _ h => h) (by rfl) (by assumption) (fun W hW => ?_) ?_; rotate_left; (focus (go_simp; try with_reducible rfl)); (try simp only [List.setIfInBounds_toArray, List.set_cons_succ, List.set_cons_zero]))
              (refine rg_take (v := ?_) 2 rfl (by kernel_rfl) (by kernel_rfl) (by kernel_rfl) (fun _ _ _ h => h) (by rfl) (by assumption) (fun W hW => ?_) ?_; rotate_left; (focus (obtain ⟨p0, p1⟩ := hW.cells2; go_simp; try with_reducible rfl)); (try simp only [List.setIfInBounds_toArray, List.set_cons_succ, List.set_cons_zero]))
              (refine rg_take (v := ?_) 5 rfl (by kernel_rfl) (by kernel_rfl) (by kernel_rfl) (fun _ _ _ h => h) (by rfl) (by assumption) (fun W hW => ?_) ?_; rotate_left; (focus (go_simp; try with_reducible rfl)); (try simp only [List.setIfInBounds_toArray, List.set_cons_succ, List.set_cons_zero]))
              (refine rg_take (v := ?_) 6 rfl (by kernel_rfl) (by kernel_rfl) (by kernel_rfl) (fun _ _ _ h => h) (by rfl) (by assumption) (fun W hW => ?_) ?_; rotate_left; (focus (go_simp; try with_reducible rfl)); (try simp only [List.setIfInBounds_toArray, List.set_cons_succ, List.set_cons_zero]))
              (refine rg_take (v := ?_) 7 rfl (by kernel_rfl) (by kernel_rfl) (by kernel_rfl) (fun _ _ _ h => h) (by rfl) (by assumption) (fun W hW => ?_) ?_; rotate_left; (focus (obtain ⟨p0, p1⟩ := hW.cells2; go_simp; try with_reducible rfl)); (try simp only [List.setIfInBounds_toArray, List.set_cons_succ, List.set_cons_zero]))
              refine rg_two 3 8 (by kernel_rfl) rfl (by rfl) rfl (by rfl) (fun K hK => ?_) (fun K hK => ?_)
              · go_simp
                have A1 := Lib.hid (HA.out.alloc (.cells #[.int .i64 wb] 3))
                have E1 := Lib.hid (HE2.out.alloc (.cells #[.int .i64 wb] 3))
                have Q71 := Lib.hid (HQ7.out.ext ((Ext.refl _).alloc (.cells #[.int .i64 wb] 3)))
                have Q81 := Lib.hid (HQ8.out.ext ((Ext.refl _).alloc (.cells #[.int .i64 wb] 3)))
                have X31 := Lib.hid (Blk.new W0 3 [.int .i64 wb])
                have l71 := HQ7.out.lt
                have l81 := HQ8.out.lt
                have lA1 := HA.out.lt
                refine hK _ _ A1.out (fun _ => ?_)
                clear hK K
                try simp only [List.setIfInBounds_toArray, List.set_cons_succ, List.set_cons_zero]
                generalize W0.alloc (.cells #[.int .i64 wb] 3) = W1 at A1 E1 Q71 Q81  X31 ⊢
                have lB1 := X31.out.lt
                refine rg_two 4 8 (by kernel_rfl) rfl (by rfl) rfl (by rfl) (fun K hK => ?_) (fun K hK => ?_)
                · refine wp_append_q _ (.tmp 44) (.tmp 47) 24 rfl (w.heap.size + 1) 3 i0 (.int .i64 0) 8 Try.underlying24 hi hz0 hz1 hz2 rfl g7 _ _ _ rfl Q71.out ⟨W0.heap.size, 0, none⟩ 1 1 [.int .i64 wb] rfl rfl (rd_add X31.out.rd) (by intro u hu; simp at hu; subst hu; rfl) (by unfold maxLen; omega) (by omega) (by have := E1.out.le; have := HSZ.out; omega) ?_
                  intro v2 w2 g2 hg2 hQ2 hG2
                  have Q72 := Lib.hid hQ2
                  have l02 := Q71.out.le
                  have l12 := Q81.out.lt
                  have l22 := A1.out.lt
                  have lq2 := Q71.out.lt
                  have Q82 := Lib.hid (Q81.out.kept hG2 (by intro e; injection e with e; omega))
                  have A2 := Lib.hid (A1.out.grown hG2 (by omega))
                  have E2 := Lib.hid (E1.out.grownBy hG2 (by have := HSZ.out; omega))
                  have hs2 := hG2.size
                  have l42 := Q72.out.lt
                  refine hK _ _ A2.out (fun _ => ?_)
                  clear hK K hQ2 hG2
                  try dsimp only
                  refine rg_one 8 (by kernel_rfl) rfl (by rfl) (fun K hK => ?_)
                  go_simp
                  have A3 := Lib.hid (A2.out.alloc (.cells #[.int .i64 wb] 3))
                  have E3 := Lib.hid (E2.out.alloc (.cells #[.int .i64 wb] 3))
                  have Q73 := Lib.hid (Q72.out.ext ((Ext.refl _).alloc (.cells #[.int .i64 wb] 3)))
                  have Q83 := Lib.hid (Q82.out.ext ((Ext.refl _).alloc (.cells #[.int .i64 wb] 3)))
                  have X83 := Lib.hid (Blk.new w2 3 [.int .i64 wb])
                  have l73 := Q72.out.lt
                  have l83 := Q82.out.lt
                  have lA3 := A2.out.lt
                  refine hK _ _ A3.out (fun _ => ?_)
                  clear hK K
                  try simp only [List.setIfInBounds_toArray, List.set_cons_succ, List.set_cons_zero]
                  generalize w2.alloc (.cells #[.int .i64 wb] 3) = W3 at A3 E3 Q73 Q83  X83 ⊢
                  have lB3 := X83.out.lt
                  refine rg_one 9 (by kernel_rfl) rfl (by rfl) (fun K hK => ?_)
                  refine wp_append_q _ (.tmp 49) (.tmp 52) 24 rfl (w.heap.size + 1) 3 i0 (.int .i64 0) 8 Try.underlying24 hi hz0 hz1 hz2 rfl g8 _ _ _ rfl Q83.out ⟨w2.heap.size, 0, none⟩ 1 1 [.int .i64 wb] rfl rfl (rd_add X83.out.rd) (by intro u hu; simp at hu; subst hu; rfl) (by unfold maxLen; omega) (by omega) (by have := E3.out.le; have := HSZ.out; omega) ?_
                  intro v4 w4 g4 hg4 hQ4 hG4
                  have Q84 := Lib.hid hQ4
                  have l04 := Q83.out.le
                  have l14 := Q73.out.lt
                  have l24 := A3.out.lt
                  have lq4 := Q83.out.lt
                  have Q74 := Lib.hid (Q73.out.kept hG4 (by intro e; injection e with e; omega))
                  have A4 := Lib.hid (A3.out.grown hG4 (by omega))
                  have E4 := Lib.hid (E3.out.grownBy hG4 (by have := HSZ.out; omega))
                  have hs4 := hG4.size
                  have l44 := Q84.out.lt
                  refine hK _ _ A4.out (fun _ => ?_)
                  clear hK K hQ4 hG4
                  try dsimp only
                  (refine rg_take (v := ?_) 10 rfl (by kernel_rfl) (by kernel_rfl) (by kernel_rfl) (fun _ _ _ h => h) (by rfl) (by assumption) (fun W hW => ?_) ?_; rotate_left; (focus (go_simp; try with_reducible rfl)); (try simp only [List.setIfInBounds_toArray, List.set_cons_succ, List.set_cons_zero]))
                  (refine rg_take (v := ?_) 11 rfl (by kernel_rfl) (by kernel_rfl) (by kernel_rfl) (fun _ _ _ h => h) (by rfl) (by assumption) (fun W hW => ?_) ?_; rotate_left; (focus (go_simp; try with_reducible rfl)); (try simp only [List.setIfInBounds_toArray, List.set_cons_succ, List.set_cons_zero]))
                  refine rg_done (by kernel_rfl) ?_
                  obtain ⟨oa, ca, hva, hca1, hca2⟩ := Q74.out.slice
                  obtain ⟨ob, cb, hvb, hcb1, hcb2⟩ := Q84.out.slice
                  subst hva; subst hvb
                  have HZ7 := Q74
                  have HZ8 := Q84
                  have HZE := E4
                  go_wp2_with fail
                  go_roundw
                  case rel => exact ⟨q + 1, s' ++ [wb], g2, g4, by go_num, by omega, by rw [List.cons_append] at HR2; exact HR2.out, by simp; omega, by have h := HIN2.out; rw [List.cons_append] at h; exact h, (by rw [List.length_append, intR, List.map_append]; exact HZ7.out), (by rw [q_len hir', q_drop hir']; exact HZ8.out), by omega, HZE.out⟩
                  case measure => simp [intOf]; omega
                · go_simp
                  have A2 := Lib.hid (A1.out.alloc (.cells #[.int .i64 wb] 3))
                  have E2 := Lib.hid (E1.out.alloc (.cells #[.int .i64 wb] 3))
                  have Q72 := Lib.hid (Q71.out.ext ((Ext.refl _).alloc (.cells #[.int .i64 wb] 3)))
                  have Q82 := Lib.hid (Q81.out.ext ((Ext.refl _).alloc (.cells #[.int .i64 wb] 3)))
                  have X32 := Lib.hid (X31.out.alloc (.cells #[.int .i64 wb] 3))
                  have X82 := Lib.hid (Blk.new W1 3 [.int .i64 wb])
                  have l72 := Q71.out.lt
                  have l82 := Q81.out.lt
                  have lA2 := A1.out.lt
                  refine hK _ _ A2.out (fun _ => ?_)
                  clear hK K
                  try simp only [List.setIfInBounds_toArray, List.set_cons_succ, List.set_cons_zero]
                  generalize W1.alloc (.cells #[.int .i64 wb] 3) = W2 at A2 E2 Q72 Q82 X32 X82 ⊢
                  have lB2 := X82.out.lt
                  refine rg_one 4 (by kernel_rfl) rfl (by rfl) (fun K hK => ?_)
                  refine wp_append_q _ (.tmp 44) (.tmp 47) 24 rfl (w.heap.size + 1) 3 i0 (.int .i64 0) 8 Try.underlying24 hi hz0 hz1 hz2 rfl g7 _ _ _ rfl Q72.out ⟨W0.heap.size, 0, none⟩ 1 1 [.int .i64 wb] rfl rfl (rd_add X32.out.rd) (by intro u hu; simp at hu; subst hu; rfl) (by unfold maxLen; omega) (by omega) (by have := E2.out.le; have := HSZ.out; omega) ?_
                  intro v3 w3 g3 hg3 hQ3 hG3
                  have Q73 := Lib.hid hQ3
                  have l03 := Q72.out.le
                  have l13 := Q82.out.lt
                  have l23 := A2.out.lt
                  have lq3 := Q72.out.lt
                  have Q83 := Lib.hid (Q82.out.kept hG3 (by intro e; injection e with e; omega))
                  have A3 := Lib.hid (A2.out.grown hG3 (by omega))
                  have E3 := Lib.hid (E2.out.grownBy hG3 (by have := HSZ.out; omega))
                  have l33 := X82.out.lt
                  have X83 := Lib.hid (X82.out.grown hG3 (by omega))
                  have hs3 := hG3.size
                  have l43 := Q73.out.lt
                  refine hK _ _ A3.out (fun _ => ?_)
                  clear hK K hQ3 hG3
                  try dsimp only
                  refine rg_one 9 (by kernel_rfl) rfl (by rfl) (fun K hK => ?_)
                  refine wp_append_q _ (.tmp 49) (.tmp 52) 24 rfl (w.heap.size + 1) 3 i0 (.int .i64 0) 8 Try.underlying24 hi hz0 hz1 hz2 rfl g8 _ _ _ rfl Q83.out ⟨W1.heap.size, 0, none⟩ 1 1 [.int .i64 wb] rfl rfl (rd_add X83.out.rd) (by intro u hu; simp at hu; subst hu; rfl) (by unfold maxLen; omega) (by omega) (by have := E3.out.le; have := HSZ.out; omega) ?_
                  intro v4 w4 g4 hg4 hQ4 hG4
                  have Q84 := Lib.hid hQ4
                  have l04 := Q83.out.le
                  have l14 := Q73.out.lt
                  have l24 := A3.out.lt
                  have lq4 := Q83.out.lt
                  have Q74 := Lib.hid (Q73.out.kept hG4 (by intro e; injection e with e; omega))
                  have A4 := Lib.hid (A3.out.grown hG4 (by omega))
                  have E4 := Lib.hid (E3.out.grownBy hG4 (by have := HSZ.out; omega))
                  have hs4 := hG4.size
                  have l44 := Q84.out.lt
                  refine hK _ _ A4.out (fun _ => ?_)
                  clear hK K hQ4 hG4
                  try dsimp only
                  (refine rg_take (v := ?_) 10 rfl (by kernel_rfl) (by kernel_rfl) (by kernel_rfl) (fun _ _ _ h => h) (by rfl) (by assumption) (fun W hW => ?_) ?_; rotate_left; (focus (go_simp; try with_reducible rfl)); (try simp only [List.setIfInBounds_toArray, List.set_cons_succ, List.set_cons_zero]))
                  (refine rg_take (v := ?_) 11 rfl (by kernel_rfl) (by kernel_rfl) (by kernel_rfl) (fun _ _ _ h => h) (by rfl) (by assumption) (fun W hW => ?_) ?_; rotate_left; (focus (go_simp; try with_reducible rfl)); (try simp only [List.setIfInBounds_toArray, List.set_cons_succ, List.set_cons_zero]))
                  refine rg_done (by kernel_rfl) ?_
                  obtain ⟨oa, ca, hva, hca1, hca2⟩ := Q74.out.slice
                  obtain ⟨ob, cb, hvb, hcb1, hcb2⟩ := Q84.out.slice
                  subst hva; subst hvb
                  have HZ7 := Q74
                  have HZ8 := Q84
                  have HZE := E4
                  go_wp2_with fail
                  go_roundw
                  case rel => exact ⟨q + 1, s' ++ [wb], g3, g4, by go_num, by omega, by rw [List.cons_append] at HR2; exact HR2.out, by simp; omega, by have h := HIN2.out; rw [List.cons_append] at h; exact h, (by rw [List.length_append, intR, List.map_append]; exact HZ7.out), (by rw [q_len hir', q_drop hir']; exact HZ8.out), by omega, HZE.out⟩
                  case measure => simp [intOf]; omega
              · go_simp
                have A1 := Lib.hid (HA.out.alloc (.cells #[.int .i64 wb] 3))
                have E1 := Lib.hid (HE2.out.alloc (.cells #[.int .i64 wb] 3))
                have Q71 := Lib.hid (HQ7.out.ext ((Ext.refl _).alloc (.cells #[.int .i64 wb] 3)))
                have Q81 := Lib.hid (HQ8.out.ext ((Ext.refl _).alloc (.cells #[.int .i64 wb] 3)))
                have X81 := Lib.hid (Blk.new W0 3 [.int .i64 wb])
                have l71 := HQ7.out.lt
                have l81 := HQ8.out.lt
                have lA1 := HA.out.lt
                refine hK _ _ A1.out (fun _ => ?_)
                clear hK K
                try simp only [List.setIfInBounds_toArray, List.set_cons_succ, List.set_cons_zero]
                generalize W0.alloc (.cells #[.int .i64 wb] 3) = W1 at A1 E1 Q71 Q81  X81 ⊢
                have lB1 := X81.out.lt
                refine rg_one 3 (by kernel_rfl) rfl (by rfl) (fun K hK => ?_)
                go_simp
                have A2 := Lib.hid (A1.out.alloc (.cells #[.int .i64 wb] 3))
                have E2 := Lib.hid (E1.out.alloc (.cells #[.int .i64 wb] 3))
                have Q72 := Lib.hid (Q71.out.ext ((Ext.refl _).alloc (.cells #[.int .i64 wb] 3)))
                have Q82 := Lib.hid (Q81.out.ext ((Ext.refl _).alloc (.cells #[.int .i64 wb] 3)))
                have X82 := Lib.hid (X81.out.alloc (.cells #[.int .i64 wb] 3))
                have X32 := Lib.hid (Blk.new W1 3 [.int .i64 wb])
                have l72 := Q71.out.lt
                have l82 := Q81.out.lt
                have lA2 := A1.out.lt
                refine hK _ _ A2.out (fun _ => ?_)
                clear hK K
                try simp only [List.setIfInBounds_toArray, List.set_cons_succ, List.set_cons_zero]
                generalize W1.alloc (.cells #[.int .i64 wb] 3) = W2 at A2 E2 Q72 Q82 X82 X32 ⊢
                have lB2 := X32.out.lt
                refine rg_one 4 (by kernel_rfl) rfl (by rfl) (fun K hK => ?_)
                refine wp_append_q _ (.tmp 44) (.tmp 47) 24 rfl (w.heap.size + 1) 3 i0 (.int .i64 0) 8 Try.underlying24 hi hz0 hz1 hz2 rfl g7 _ _ _ rfl Q72.out ⟨W1.heap.size, 0, none⟩ 1 1 [.int .i64 wb] rfl rfl (rd_add X32.out.rd) (by intro u hu; simp at hu; subst hu; rfl) (by unfold maxLen; omega) (by omega) (by have := E2.out.le; have := HSZ.out; omega) ?_
                intro v3 w3 g3 hg3 hQ3 hG3
                have Q73 := Lib.hid hQ3
                have l03 := Q72.out.le
                have l13 := Q82.out.lt
                have l23 := A2.out.lt
                have lq3 := Q72.out.lt
                have Q83 := Lib.hid (Q82.out.kept hG3 (by intro e; injection e with e; omega))
                have A3 := Lib.hid (A2.out.grown hG3 (by omega))
                have E3 := Lib.hid (E2.out.grownBy hG3 (by have := HSZ.out; omega))
                have l33 := X82.out.lt
                have X83 := Lib.hid (X82.out.grown hG3 (by omega))
                have hs3 := hG3.size
                have l43 := Q73.out.lt
                refine hK _ _ A3.out (fun _ => ?_)
                clear hK K hQ3 hG3
                try dsimp only
                refine rg_one 9 (by kernel_rfl) rfl (by rfl) (fun K hK => ?_)
                refine wp_append_q _ (.tmp 49) (.tmp 52) 24 rfl (w.heap.size + 1) 3 i0 (.int .i64 0) 8 Try.underlying24 hi hz0 hz1 hz2 rfl g8 _ _ _ rfl Q83.out ⟨W0.heap.size, 0, none⟩ 1 1 [.int .i64 wb] rfl rfl (rd_add X83.out.rd) (by intro u hu; simp at hu; subst hu; rfl) (by unfold maxLen; omega) (by omega) (by have := E3.out.le; have := HSZ.out; omega) ?_
                intro v4 w4 g4 hg4 hQ4 hG4
                have Q84 := Lib.hid hQ4
                have l04 := Q83.out.le
                have l14 := Q73.out.lt
                have l24 := A3.out.lt
                have lq4 := Q83.out.lt
                have Q74 := Lib.hid (Q73.out.kept hG4 (by intro e; injection e with e; omega))
                have A4 := Lib.hid (A3.out.grown hG4 (by omega))
                have E4 := Lib.hid (E3.out.grownBy hG4 (by have := HSZ.out; omega))
                have hs4 := hG4.size
                have l44 := Q84.out.lt
                refine hK _ _ A4.out (fun _ => ?_)
                clear hK K hQ4 hG4
                try dsimp only
                (refine rg_take (v := ?_) 10 rfl (by kernel_rfl) (by kernel_rfl) (by kernel_rfl) (fun _ _ _ h => h) (by rfl) (by assumption) (fun W hW => ?_) ?_; rotate_left; (focus (go_simp; try with_reducible rfl)); (try simp only [List.setIfInBounds_toArray, List.set_cons_succ, List.set_cons_zero]))
                (refine rg_take (v := ?_) 11 rfl (by kernel_rfl) (by kernel_rfl) (by kernel_rfl) (fun _ _ _ h => h) (by rfl) (by assumption) (fun W hW => ?_) ?_; rotate_left; (focus (go_simp; try with_reducible rfl)); (try simp only [List.setIfInBounds_toArray, List.set_cons_succ, List.set_cons_zero]))
                refine rg_done (by kernel_rfl) ?_
                obtain ⟨oa, ca, hva, hca1, hca2⟩ := Q74.out.slice
                obtain ⟨ob, cb, hvb, hcb1, hcb2⟩ := Q84.out.slice
                subst hva; subst hvb
                have HZ7 := Q74
                have HZ8 := Q84
                have HZE := E4
                go_wp2_with fail
                go_roundw
                case rel => exact ⟨q + 1, s' ++ [wb], g3, g4, by go_num, by omega, by rw [List.cons_append] at HR2; exact HR2.out, by simp; omega, by have h := HIN2.out; rw [List.cons_append] at h; exact h, (by rw [List.length_append, intR, List.map_append]; exact HZ7.out), (by rw [q_len hir', q_drop hir']; exact HZ8.out), by omega, HZE.out⟩
                case measure => simp [intOf]; omega
            · have ht9 : (wa != v0) = true := by rw [bne_iff_ne]; exact hav
              have HIN2 := Lib.hid (HIN.out.trans (innF_skip hqN (by rw [HAX.out]; exact hav)))
              clear hav
              go_wp2_with fail
              go_roundw
              case rel => exact ⟨q + 1, s', g7, g8, by go_num, by omega, HR'.out, hir', HIN2.out, HQ7.out, HQ8.out, hne, HE2.out⟩
              case measure => simp [intOf]; omega

          · have hqI : ¬ (q : Int) < (nq : Int) := by omega
            have HO2 := Lib.hid (HO.out.next HR.out hir (by rw [HV1.out, HIN.out, innF_end _ _ _ _ (by rw [HLq.out]; omega)]))
            clear HO
            go_wp2_with fail
            go_roundw
            case rel => exact ⟨i + 1, s', g7, g8, by omega, HR'.out, HO2.out, HQ7.out, (by have h := HQ8.out; have e : s'.length + 1 - (i + 1) = s'.length - i := (by omega); rw [e]; exact h), hne, HE.out⟩
            case measure => simp [sLen]; rw [HLq.out]; omega
      · have HQT := Lib.hid HQ8.out.tail
        have hc1' : ¬ (c8 : Int) = 1 := by omega
        go_wp2_with fail
        clear x0 x1 ct hlen0
        obtain ⟨wo, rfl⟩ : ∃ wo : World, wo = wr := ⟨_, rfl⟩
        have hne0 := hne
        have HQ0 := Lib.hid HQ7.out
        have HEO := Lib.hid HE.out
        clear HQ7 HQ8 HE hne hc8 hm8 hc7 hm7
        go_loopw [26, 7, 8] (fun i7 v7 v8 wr => ∃ (q : Nat) (s' : List Int) (g7 g8 : Nat), i7 = .int .i64 q ∧ q ≤ nq ∧ RInv lq tx (tx :: s') ∧ i < s'.length + 1 ∧ innF tx v0 lq (tx :: s) = innF tx v0 (lq.drop q) (tx :: s') ∧ QB wr (w.heap.size + 1) 3 g7 v7 s'.length (intR s') ∧ QB wr (w.heap.size + 1) 3 g8 v8 (s'.length - i) (intR ((tx :: s').drop (i + 1))) ∧ g7 ≠ g8 ∧ Ext w0 wr) (fun i7 _ _ _ => nq - (intOf i7).toNat)
        case atStart => exact ⟨0, s, g7, g8, rfl, Nat.zero_le _, HR.out, hil, rfl, HQ0.out, (by have e : s.length - i = m := (by omega); rw [e]; exact HQT.out), hne0, HEO.out⟩
        case round =>
          clear HQ0 HQT HEO hne0 HV0
          obtain ⟨q, s', g7, g8, rfl, hq, hR', hir', hin, h7, h8, hne, hE⟩ := hrel
          have HR' := Lib.hid hR'
          have HIN := Lib.hid hin
          have HQ7 := Lib.hid h7
          have HQ8 := Lib.hid h8
          have HE := Lib.hid hE
          have hle' := hR'.le
          rw [HLq.out] at hle'
          simp only [List.length_cons] at hle'
          obtain ⟨o7, c7, rfl, hc7, hm7⟩ := h7.slice
          obtain ⟨o8, c8, rfl, hc8, hm8⟩ := h8.slice
          clear hR' hin h7 h8 hE
          by_cases hql : q < nq
          · have hqI : (q : Int) < (nq : Int) := by omega
            have hqN : q < lq.length := by rw [HLq.out]; exact hql
            have HRq := Lib.hid hrq
            obtain ⟨b, o, hAq, hcq⟩ := (hrq.ext (HE1.out.trans HE.out)).flat CWait.len (by decide) hqN
            subst hAq
            have c0 : wr.cell? ⟨b, o + q * 2, none⟩ = some (.int .i64 lq[q].a) := by exact hcq 0 _ rfl
            have c1 : wr.cell? ⟨b, o + q * 2 + 1, none⟩ = some (.int .i64 lq[q].b) := by rw [Nat.add_assoc]; exact hcq 1 _ rfl
            clear hcq hrq
            have HA := Lib.hid (Blk.new wr 128 [.int .i64 lq[q].a, .int .i64 lq[q].b])
            have HE2 := Lib.hid (HE.out.alloc (.cells #[.int .i64 lq[q].a, .int .i64 lq[q].b] 128))
            have l7 := HQ7.out.lt
            have l8 := HQ8.out.lt
            have HQ7 := Lib.hid (HQ7.out.ext ((Ext.refl wr).alloc (.cells #[.int .i64 lq[q].a, .int .i64 lq[q].b] 128)))
            have HQ8 := Lib.hid (HQ8.out.ext ((Ext.refl wr).alloc (.cells #[.int .i64 lq[q].a, .int .i64 lq[q].b] 128)))
            clear HE
            obtain ⟨a0, a1⟩ := HA.out.cells2
            generalize hax : lq[q].a = wa at HA HE2 HQ7 HQ8 c0 a0 a1
            generalize hbx : lq[q].b = wb at HA HE2 HQ7 HQ8 c1 a0 a1
            have HAX := Lib.hid hax
            have HBX := Lib.hid hbx
            clear hax hbx
            by_cases hav : wa = v0
            · have ht9 : (wa != v0) = false := by rw [hav]; simp
              have HAV := Lib.hid hav
              clear hav
              have HC := Lib.hid (lib_containsInt _ _ c7 s' wb (wr.alloc (.cells #[.int .i64 wa, .int .i64 wb] 128)) rfl (by omega) HQ7.out.rd)
              go_wp2_with fail
              refine HC.out.mono ?_
              rintro e w' ⟨rfl, rfl⟩
              clear HC c0 c1 ht9
              generalize wr.alloc (.cells #[.int .i64 wa, .int .i64 wb] 128) = W0 at HA HE2 HQ7 HQ8 a0 a1 ⊢
              generalize wr.heap.size = bw at HA l7 l8 a0 a1 ⊢
              have htx : tx ∉ s' := (List.nodup_cons.1 HR'.out.nd).1
              by_cases hm : wb ∈ s'
              · have hd : decide (wb ∈ s') = true := decide_eq_true hm
                have HIN2 := Lib.hid (HIN.out.trans (innF_there hqN (by rw [HAX.out]; exact HAV.out) (by rw [HBX.out]; intro e; exact htx (by rw [← e]; exact hm)) (by rw [HBX.out]; exact List.mem_cons_of_mem _ hm)))
                clear hm htx
                rw [hd]
                go_wp2_with fail
                go_roundw
                case rel => exact ⟨q + 1, s', g7, g8, by go_num, by omega, HR'.out, hir', HIN2.out, HQ7.out, HQ8.out, hne, HE2.out⟩
                case measure => simp [intOf]; omega

              have hd : decide (wb ∈ s') = false := decide_eq_false hm
              by_cases hbt : wb = tx
              · have ht10 : (wb == tx) = true := by rw [hbt]; simp
                have HV := Lib.hid (HO.out.found HR.out hir (by rw [HV1.out, HIN.out, innF_round hqN (by rw [HAX.out]; exact HAV.out) (by rw [HBX.out]; exact hbt)]))
                clear HO hbt hm htx
                rw [hd]
                go_wp2_with fail
                go_ret
                exact ⟨ret_bool (by rw [← HRB.out, HV.out]), (HE1.out.trans HE2.out)⟩
              have ht10 : (wb == tx) = false := by rw [beq_eq_false_iff_ne]; exact hbt
              have hmm2 : ¬ wb ∈ tx :: s' := by
                rw [List.mem_cons]; rintro (h | h)
                · exact hbt h
                · exact hm h
              have HIN2 := Lib.hid (HIN.out.trans (innF_new hqN (by rw [HAX.out]; exact HAV.out) (by rw [HBX.out]; exact hbt) (by rw [HBX.out]; exact hmm2)))
              have HR2 := Lib.hid (HR'.out.more hqN (by rw [HBX.out]; exact hmm2))
              rw [HBX.out] at HIN2 HR2
              clear hm HAV htx hbt hmm2 HR' HIN HR HO HV1 HAX HBX HRq
              rw [hd]
              go_wp2_with fail
              clear a0 a1 hd ht10
              refine rg_startS (fun W => Blk W bw 128 [.int .i64 wa, .int .i64 wb]) (by kernel_rfl) HA.out.drew (fun hS0 => ?_)
              have HA := Lib.hid HA.out.drew
              have HE2 := Lib.hid HE2.out.drew
              have HQ7 := Lib.hid (HQ7.out.ext (Ext.refl W0).drew)
              have HQ8 := Lib.hid (HQ8.out.ext (Ext.refl W0).drew)
              generalize W0.drew = W0 at HA HE2 HQ7 HQ8 hS0 ⊢
              (refine rg_take (v := ?_) 0 rfl (by kernel_rfl) (by kernel_rfl) (by kernel_rfl) (fun _ _ _ h => h) (by rfl) (by assumption) (fun W hW => ?_) ?_; rotate_left; (focus (go_simp; try with_reducible rfl)); (try simp only [List.setIfInBounds_toArray, List.set_cons_succ, List.set_cons_zero]))
              (refine rg_take (v := ?_) 1 rfl (by kernel_rfl) (by kernel_rfl) (by kernel_rfl) (fun _ _ _ h => h) (by rfl) (by assumption) (fun W hW => ?_) ?_; rotate_left; (focus (go_simp; try with_reducible rfl)); (try simp only [List.setIfInBounds_toArray, List.set_cons_succ, List.set_cons_zero]))
              (refine rg_take (v := ?_) 2 rfl (by kernel_rfl) (by kernel_rfl) (by kernel_rfl) (fun _ _ _ h => h) (by rfl) (by assumption) (fun W hW => ?_) ?_; rotate_left; (focus (obtain ⟨p0, p1⟩ := hW.cells2; go_simp; try with_reducible rfl)); (try simp only [List.setIfInBounds_toArray, List.set_cons_succ, List.set_cons_zero]))
              (refine rg_take (v := ?_) 5 rfl (by kernel_rfl) (by kernel_rfl) (by kernel_rfl) (fun _ _ _ h => h) (by rfl) (by assumption) (fun W hW => ?_) ?_; rotate_left; (focus (go_simp; try with_reducible rfl)); (try simp only [List.setIfInBounds_toArray, List.set_cons_succ, List.set_cons_zero]))
              (refine rg_take (v := ?_) 6 rfl (by kernel_rfl) (by kernel_rfl) (by kernel_rfl) (fun _ _ _ h => h) (by rfl) (by assumption) (fun W hW => ?_) ?_; rotate_left; (focus (go_simp; try with_reducible rfl)); (try simp only [List.setIfInBounds_toArray, List.set_cons_succ, List.set_cons_zero]))
              (refine rg_take (v := ?_) 7 rfl (by kernel_rfl) (by kernel_rfl) (by kernel_rfl) (fun _ _ _ h => h) (by rfl) (by assumption) (fun W hW => ?_) ?_; rotate_left; (focus (obtain ⟨p0, p1⟩ := hW.cells2; go_simp; try with_reducible rfl)); (try simp only [List.setIfInBounds_toArray, List.set_cons_succ, List.set_cons_zero]))
              refine rg_two 3 8 (by kernel_rfl) rfl (by rfl) rfl (by rfl) (fun K hK => ?_) (fun K hK => ?_)
              · go_simp
                have A1 := Lib.hid (HA.out.alloc (.cells #[.int .i64 wb] 3))
                have E1 := Lib.hid (HE2.out.alloc (.cells #[.int .i64 wb] 3))
                have Q71 := Lib.hid (HQ7.out.ext ((Ext.refl _).alloc (.cells #[.int .i64 wb] 3)))
                have Q81 := Lib.hid (HQ8.out.ext ((Ext.refl _).alloc (.cells #[.int .i64 wb] 3)))
                have X31 := Lib.hid (Blk.new W0 3 [.int .i64 wb])
                have l71 := HQ7.out.lt
                have l81 := HQ8.out.lt
                have lA1 := HA.out.lt
                refine hK _ _ A1.out (fun _ => ?_)
                clear hK K
                try simp only [List.setIfInBounds_toArray, List.set_cons_succ, List.set_cons_zero]
                generalize W0.alloc (.cells #[.int .i64 wb] 3) = W1 at A1 E1 Q71 Q81  X31 ⊢
                have lB1 := X31.out.lt
                refine rg_two 4 8 (by kernel_rfl) rfl (by rfl) rfl (by rfl) (fun K hK => ?_) (fun K hK => ?_)
                · refine wp_append_q _ (.tmp 44) (.tmp 47) 24 rfl (w.heap.size + 1) 3 i0 (.int .i64 0) 8 Try.underlying24 hi hz0 hz1 hz2 rfl g7 _ _ _ rfl Q71.out ⟨W0.heap.size, 0, none⟩ 1 1 [.int .i64 wb] rfl rfl (rd_add X31.out.rd) (by intro u hu; simp at hu; subst hu; rfl) (by unfold maxLen; omega) (by omega) (by have := E1.out.le; have := HSZ.out; omega) ?_
                  intro v2 w2 g2 hg2 hQ2 hG2
                  have Q72 := Lib.hid hQ2
                  have l02 := Q71.out.le
                  have l12 := Q81.out.lt
                  have l22 := A1.out.lt
                  have lq2 := Q71.out.lt
                  have Q82 := Lib.hid (Q81.out.kept hG2 (by intro e; injection e with e; omega))
                  have A2 := Lib.hid (A1.out.grown hG2 (by omega))
                  have E2 := Lib.hid (E1.out.grownBy hG2 (by have := HSZ.out; omega))
                  have hs2 := hG2.size
                  have l42 := Q72.out.lt
                  refine hK _ _ A2.out (fun _ => ?_)
                  clear hK K hQ2 hG2
                  try dsimp only
                  refine rg_one 8 (by kernel_rfl) rfl (by rfl) (fun K hK => ?_)
                  go_simp
                  have A3 := Lib.hid (A2.out.alloc (.cells #[.int .i64 wb] 3))
                  have E3 := Lib.hid (E2.out.alloc (.cells #[.int .i64 wb] 3))
                  have Q73 := Lib.hid (Q72.out.ext ((Ext.refl _).alloc (.cells #[.int .i64 wb] 3)))
                  have Q83 := Lib.hid (Q82.out.ext ((Ext.refl _).alloc (.cells #[.int .i64 wb] 3)))
                  have X83 := Lib.hid (Blk.new w2 3 [.int .i64 wb])
                  have l73 := Q72.out.lt
                  have l83 := Q82.out.lt
                  have lA3 := A2.out.lt
                  refine hK _ _ A3.out (fun _ => ?_)
                  clear hK K
                  try simp only [List.setIfInBounds_toArray, List.set_cons_succ, List.set_cons_zero]
                  generalize w2.alloc (.cells #[.int .i64 wb] 3) = W3 at A3 E3 Q73 Q83  X83 ⊢
                  have lB3 := X83.out.lt
                  refine rg_one 9 (by kernel_rfl) rfl (by rfl) (fun K hK => ?_)
                  refine wp_append_q _ (.tmp 49) (.tmp 52) 24 rfl (w.heap.size + 1) 3 i0 (.int .i64 0) 8 Try.underlying24 hi hz0 hz1 hz2 rfl g8 _ _ _ rfl Q83.out ⟨w2.heap.size, 0, none⟩ 1 1 [.int .i64 wb] rfl rfl (rd_add X83.out.rd) (by intro u hu; simp at hu; subst hu; rfl) (by unfold maxLen; omega) (by omega) (by have := E3.out.le; have := HSZ.out; omega) ?_
                  intro v4 w4 g4 hg4 hQ4 hG4
                  have Q84 := Lib.hid hQ4
                  have l04 := Q83.out.le
                  have l14 := Q73.out.lt
                  have l24 := A3.out.lt
                  have lq4 := Q83.out.lt
                  have Q74 := Lib.hid (Q73.out.kept hG4 (by intro e; injection e with e; omega))
                  have A4 := Lib.hid (A3.out.grown hG4 (by omega))
                  have E4 := Lib.hid (E3.out.grownBy hG4 (by have := HSZ.out; omega))
                  have hs4 := hG4.size
                  have l44 := Q84.out.lt
                  refine hK _ _ A4.out (fun _ => ?_)
                  clear hK K hQ4 hG4
                  try dsimp only
                  (refine rg_take (v := ?_) 10 rfl (by kernel_rfl) (by kernel_rfl) (by kernel_rfl) (fun _ _ _ h => h) (by rfl) (by assumption) (fun W hW => ?_) ?_; rotate_left; (focus (go_simp; try with_reducible rfl)); (try simp only [List.setIfInBounds_toArray, List.set_cons_succ, List.set_cons_zero]))
                  (refine rg_take (v := ?_) 11 rfl (by kernel_rfl) (by kernel_rfl) (by kernel_rfl) (fun _ _ _ h => h) (by rfl) (by assumption) (fun W hW => ?_) ?_; rotate_left; (focus (go_simp; try with_reducible rfl)); (try simp only [List.setIfInBounds_toArray, List.set_cons_succ, List.set_cons_zero]))
                  refine rg_done (by kernel_rfl) ?_
                  obtain ⟨oa, ca, hva, hca1, hca2⟩ := Q74.out.slice
                  obtain ⟨ob, cb, hvb, hcb1, hcb2⟩ := Q84.out.slice
                  subst hva; subst hvb
                  have HZ7 := Q74
                  have HZ8 := Q84
                  have HZE := E4
                  go_wp2_with fail
                  go_roundw
                  case rel => exact ⟨q + 1, s' ++ [wb], g2, g4, by go_num, by omega, by rw [List.cons_append] at HR2; exact HR2.out, by simp; omega, by have h := HIN2.out; rw [List.cons_append] at h; exact h, (by rw [List.length_append, intR, List.map_append]; exact HZ7.out), (by rw [q_len hir', q_drop hir']; exact HZ8.out), by omega, HZE.out⟩
                  case measure => simp [intOf]; omega
                · go_simp
                  have A2 := Lib.hid (A1.out.alloc (.cells #[.int .i64 wb] 3))
                  have E2 := Lib.hid (E1.out.alloc (.cells #[.int .i64 wb] 3))
                  have Q72 := Lib.hid (Q71.out.ext ((Ext.refl _).alloc (.cells #[.int .i64 wb] 3)))
                  have Q82 := Lib.hid (Q81.out.ext ((Ext.refl _).alloc (.cells #[.int .i64 wb] 3)))
                  have X32 := Lib.hid (X31.out.alloc (.cells #[.int .i64 wb] 3))
                  have X82 := Lib.hid (Blk.new W1 3 [.int .i64 wb])
                  have l72 := Q71.out.lt
                  have l82 := Q81.out.lt
                  have lA2 := A1.out.lt
                  refine hK _ _ A2.out (fun _ => ?_)
                  clear hK K
                  try simp only [List.setIfInBounds_toArray, List.set_cons_succ, List.set_cons_zero]
                  generalize W1.alloc (.cells #[.int .i64 wb] 3) = W2 at A2 E2 Q72 Q82 X32 X82 ⊢
                  have lB2 := X82.out.lt
                  refine rg_one 4 (by kernel_rfl) rfl (by rfl) (fun K hK => ?_)
                  refine wp_append_q _ (.tmp 44) (.tmp 47) 24 rfl (w.heap.size + 1) 3 i0 (.int .i64 0) 8 Try.underlying24 hi hz0 hz1 hz2 rfl g7 _ _ _ rfl Q72.out ⟨W0.heap.size, 0, none⟩ 1 1 [.int .i64 wb] rfl rfl (rd_add X32.out.rd) (by intro u hu; simp at hu; subst hu; rfl) (by unfold maxLen; omega) (by omega) (by have := E2.out.le; have := HSZ.out; omega) ?_
                  intro v3 w3 g3 hg3 hQ3 hG3
                  have Q73 := Lib.hid hQ3
                  have l03 := Q72.out.le
                  have l13 := Q82.out.lt
                  have l23 := A2.out.lt
                  have lq3 := Q72.out.lt
                  have Q83 := Lib.hid (Q82.out.kept hG3 (by intro e; injection e with e; omega))
                  have A3 := Lib.hid (A2.out.grown hG3 (by omega))
                  have E3 := Lib.hid (E2.out.grownBy hG3 (by have := HSZ.out; omega))
                  have l33 := X82.out.lt
                  have X83 := Lib.hid (X82.out.grown hG3 (by omega))
                  have hs3 := hG3.size
                  have l43 := Q73.out.lt
                  refine hK _ _ A3.out (fun _ => ?_)
                  clear hK K hQ3 hG3
                  try dsimp only
                  refine rg_one 9 (by kernel_rfl) rfl (by rfl) (fun K hK => ?_)
                  refine wp_append_q _ (.tmp 49) (.tmp 52) 24 rfl (w.heap.size + 1) 3 i0 (.int .i64 0) 8 Try.underlying24 hi hz0 hz1 hz2 rfl g8 _ _ _ rfl Q83.out ⟨W1.heap.size, 0, none⟩ 1 1 [.int .i64 wb] rfl rfl (rd_add X83.out.rd) (by intro u hu; simp at hu; subst hu; rfl) (by unfold maxLen; omega) (by omega) (by have := E3.out.le; have := HSZ.out; omega) ?_
                  intro v4 w4 g4 hg4 hQ4 hG4
                  have Q84 := Lib.hid hQ4
                  have l04 := Q83.out.le
                  have l14 := Q73.out.lt
                  have l24 := A3.out.lt
                  have lq4 := Q83.out.lt
                  have Q74 := Lib.hid (Q73.out.kept hG4 (by intro e; injection e with e; omega))
                  have A4 := Lib.hid (A3.out.grown hG4 (by omega))
                  have E4 := Lib.hid (E3.out.grownBy hG4 (by have := HSZ.out; omega))
                  have hs4 := hG4.size
                  have l44 := Q84.out.lt
                  refine hK _ _ A4.out (fun _ => ?_)
                  clear hK K hQ4 hG4
                  try dsimp only
                  (refine rg_take (v := ?_) 10 rfl (by kernel_rfl) (by kernel_rfl) (by kernel_rfl) (fun _ _ _ h => h) (by rfl) (by assumption) (fun W hW => ?_) ?_; rotate_left; (focus (go_simp; try with_reducible rfl)); (try simp only [List.setIfInBounds_toArray, List.set_cons_succ, List.set_cons_zero]))
                  (refine rg_take (v := ?_) 11 rfl (by kernel_rfl) (by kernel_rfl) (by kernel_rfl) (fun _ _ _ h => h) (by rfl) (by assumption) (fun W hW => ?_) ?_; rotate_left; (focus (go_simp; try with_reducible rfl)); (try simp only [List.setIfInBounds_toArray, List.set_cons_succ, List.set_cons_zero]))
                  refine rg_done (by kernel_rfl) ?_
                  obtain ⟨oa, ca, hva, hca1, hca2⟩ := Q74.out.slice
                  obtain ⟨ob, cb, hvb, hcb1, hcb2⟩ := Q84.out.slice
                  subst hva; subst hvb
                  have HZ7 := Q74
                  have HZ8 := Q84
                  have HZE := E4
                  go_wp2_with fail
                  go_roundw
                  case rel => exact ⟨q + 1, s' ++ [wb], g3, g4, by go_num, by omega, by rw [List.cons_append] at HR2; exact HR2.out, by simp; omega, by have h := HIN2.out; rw [List.cons_append] at h; exact h, (by rw [List.length_append, intR, List.map_append]; exact HZ7.out), (by rw [q_len hir', q_drop hir']; exact HZ8.out), by omega, HZE.out⟩
                  case measure => simp [intOf]; omega
              · go_simp
                have A1 := Lib.hid (HA.out.alloc (.cells #[.int .i64 wb] 3))
                have E1 := Lib.hid (HE2.out.alloc (.cells #[.int .i64 wb] 3))
                have Q71 := Lib.hid (HQ7.out.ext ((Ext.refl _).alloc (.cells #[.int .i64 wb] 3)))
                have Q81 := Lib.hid (HQ8.out.ext ((Ext.refl _).alloc (.cells #[.int .i64 wb] 3)))
                have X81 := Lib.hid (Blk.new W0 3 [.int .i64 wb])
                have l71 := HQ7.out.lt
                have l81 := HQ8.out.lt
                have lA1 := HA.out.lt
                refine hK _ _ A1.out (fun _ => ?_)
                clear hK K
                try simp only [List.setIfInBounds_toArray, List.set_cons_succ, List.set_cons_zero]
                generalize W0.alloc (.cells #[.int .i64 wb] 3) = W1 at A1 E1 Q71 Q81  X81 ⊢
                have lB1 := X81.out.lt
                refine rg_one 3 (by kernel_rfl) rfl (by rfl) (fun K hK => ?_)
                go_simp
                have A2 := Lib.hid (A1.out.alloc (.cells #[.int .i64 wb] 3))
                have E2 := Lib.hid (E1.out.alloc (.cells #[.int .i64 wb] 3))
                have Q72 := Lib.hid (Q71.out.ext ((Ext.refl _).alloc (.cells #[.int .i64 wb] 3)))
                have Q82 := Lib.hid (Q81.out.ext ((Ext.refl _).alloc (.cells #[.int .i64 wb] 3)))
                have X82 := Lib.hid (X81.out.alloc (.cells #[.int .i64 wb] 3))
                have X32 := Lib.hid (Blk.new W1 3 [.int .i64 wb])
                have l72 := Q71.out.lt
                have l82 := Q81.out.lt
                have lA2 := A1.out.lt
                refine hK _ _ A2.out (fun _ => ?_)
                clear hK K
                try simp only [List.setIfInBounds_toArray, List.set_cons_succ, List.set_cons_zero]
                generalize W1.alloc (.cells #[.int .i64 wb] 3) = W2 at A2 E2 Q72 Q82 X82 X32 ⊢
                have lB2 := X32.out.lt
                refine rg_one 4 (by kernel_rfl) rfl (by rfl) (fun K hK => ?_)
                refine wp_append_q _ (.tmp 44) (.tmp 47) 24 rfl (w.heap.size + 1) 3 i0 (.int .i64 0) 8 Try.underlying24 hi hz0 hz1 hz2 rfl g7 _ _ _ rfl Q72.out ⟨W1.heap.size, 0, none⟩ 1 1 [.int .i64 wb] rfl rfl (rd_add X32.out.rd) (by intro u hu; simp at hu; subst hu; rfl) (by unfold maxLen; omega) (by omega) (by have := E2.out.le; have := HSZ.out; omega) ?_
                intro v3 w3 g3 hg3 hQ3 hG3
                have Q73 := Lib.hid hQ3
                have l03 := Q72.out.le
                have l13 := Q82.out.lt
                have l23 := A2.out.lt
                have lq3 := Q72.out.lt
                have Q83 := Lib.hid (Q82.out.kept hG3 (by intro e; injection e with e; omega))
                have A3 := Lib.hid (A2.out.grown hG3 (by omega))
                have E3 := Lib.hid (E2.out.grownBy hG3 (by have := HSZ.out; omega))
                have l33 := X82.out.lt
                have X83 := Lib.hid (X82.out.grown hG3 (by omega))
                have hs3 := hG3.size
                have l43 := Q73.out.lt
                refine hK _ _ A3.out (fun _ => ?_)
                clear hK K hQ3 hG3
                try dsimp only
                refine rg_one 9 (by kernel_rfl) rfl (by rfl) (fun K hK => ?_)
                refine wp_append_q _ (.tmp 49) (.tmp 52) 24 rfl (w.heap.size + 1) 3 i0 (.int .i64 0) 8 Try.underlying24 hi hz0 hz1 hz2 rfl g8 _ _ _ rfl Q83.out ⟨W0.heap.size, 0, none⟩ 1 1 [.int .i64 wb] rfl rfl (rd_add X83.out.rd) (by intro u hu; simp at hu; subst hu; rfl) (by unfold maxLen; omega) (by omega) (by have := E3.out.le; have := HSZ.out; omega) ?_
                intro v4 w4 g4 hg4 hQ4 hG4
                have Q84 := Lib.hid hQ4
                have l04 := Q83.out.le
                have l14 := Q73.out.lt
                have l24 := A3.out.lt
                have lq4 := Q83.out.lt
                have Q74 := Lib.hid (Q73.out.kept hG4 (by intro e; injection e with e; omega))
                have A4 := Lib.hid (A3.out.grown hG4 (by omega))
                have E4 := Lib.hid (E3.out.grownBy hG4 (by have := HSZ.out; omega))
                have hs4 := hG4.size
                have l44 := Q84.out.lt
                refine hK _ _ A4.out (fun _ => ?_)
                clear hK K hQ4 hG4
                try dsimp only
                (refine rg_take (v := ?_) 10 rfl (by kernel_rfl) (by kernel_rfl) (by kernel_rfl) (fun _ _ _ h => h) (by rfl) (by assumption) (fun W hW => ?_) ?_; rotate_left; (focus (go_simp; try with_reducible rfl)); (try simp only [List.setIfInBounds_toArray, List.set_cons_succ, List.set_cons_zero]))
                (refine rg_take (v := ?_) 11 rfl (by kernel_rfl) (by kernel_rfl) (by kernel_rfl) (fun _ _ _ h => h) (by rfl) (by assumption) (fun W hW => ?_) ?_; rotate_left; (focus (go_simp; try with_reducible rfl)); (try simp only [List.setIfInBounds_toArray, List.set_cons_succ, List.set_cons_zero]))
                refine rg_done (by kernel_rfl) ?_
                obtain ⟨oa, ca, hva, hca1, hca2⟩ := Q74.out.slice
                obtain ⟨ob, cb, hvb, hcb1, hcb2⟩ := Q84.out.slice
                subst hva; subst hvb
                have HZ7 := Q74
                have HZ8 := Q84
                have HZE := E4
                go_wp2_with fail
                go_roundw
                case rel => exact ⟨q + 1, s' ++ [wb], g3, g4, by go_num, by omega, by rw [List.cons_append] at HR2; exact HR2.out, by simp; omega, by have h := HIN2.out; rw [List.cons_append] at h; exact h, (by rw [List.length_append, intR, List.map_append]; exact HZ7.out), (by rw [q_len hir', q_drop hir']; exact HZ8.out), by omega, HZE.out⟩
                case measure => simp [intOf]; omega
            · have ht9 : (wa != v0) = true := by rw [bne_iff_ne]; exact hav
              have HIN2 := Lib.hid (HIN.out.trans (innF_skip hqN (by rw [HAX.out]; exact hav)))
              clear hav
              go_wp2_with fail
              go_roundw
              case rel => exact ⟨q + 1, s', g7, g8, by go_num, by omega, HR'.out, hir', HIN2.out, HQ7.out, HQ8.out, hne, HE2.out⟩
              case measure => simp [intOf]; omega

          · have hqI : ¬ (q : Int) < (nq : Int) := by omega
            have HO2 := Lib.hid (HO.out.next HR.out hir (by rw [HV1.out, HIN.out, innF_end _ _ _ _ (by rw [HLq.out]; omega)]))
            clear HO
            go_wp2_with fail
            go_roundw
            case rel => exact ⟨i + 1, s', g7, g8, by omega, HR'.out, HO2.out, HQ7.out, (by have h := HQ8.out; have e : s'.length + 1 - (i + 1) = s'.length - i := (by omega); rw [e]; exact h), hne, HE.out⟩
            case measure => simp [sLen]; rw [HLq.out]; omega
    · have hm : s.length + 1 - i = 0 := by omega
      rw [hm] at HQ8 hc8 ⊢
      have HV := Lib.hid (HO.out.stop (by simp; omega))
      clear HO
      go_wp2_with fail
      go_ret
      exact ⟨ret_bool (by rw [← HRB.out, HV.out]), (HE1.out.trans HE.out)⟩
end Go.Proofs.Ytnbfjkebakaigaa
