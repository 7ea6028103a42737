/- The walk of the library's DeleteFunc over Lock (printed by gen_del.py). -/
import Derived.Test.YtnbfjkebakaigaaDel
import Derived.Test.YtnbfjkebakaigaaFindLock
import Derived.Test.YtnbfjkebakaigaaRg
namespace Go.Proofs.Ytnbfjkebakaigaa
open Go.RowKit Go.Deep
set_option linter.unusedVariables false
set_option maxRecDepth 100000
set_option maxHeartbeats 4000000 in
theorem delFunc_LockS (g : Nat) (cv : Value) (p : CLock → Bool) (hg : ∀ args W, (callFunc g args).run Try.prog W = .ok (.enter g args) W)
    (b n cap : Nat) (l : List CLock) (sp : List Value) (w : World) (S : World → Prop)
    (hS1 : ∀ W W', S W → Ext W W' → S W') (hS2 : ∀ W W', S W → W.grownBy W' (some b) → S W')
    (hp : ∀ x ∈ l, ∀ W, S W → Calls Try.prog g #[.agg #[.int .i64 x.a, .int .i64 x.b, .int .i64 x.c, .int .i64 x.d], cv] W fun e w' => e = .returned (.bool (p x)) ∧ Ext W w')
    (hS : S w) (hl : l.length = n) (hn : n ≤ 1099511627776) (hc : n ≤ cap) (ht : (l.flatMap CLock.cs ++ sp).length = cap * 4) (hB : Blk w b 125 (l.flatMap CLock.cs ++ sp)) :
    Calls Try.prog 114 #[.slice (some ⟨b, 0, none⟩) n cap, .func (Fn.func g) #[] #[cv]] w (DelPost CLock.cs 125 p b n cap (cap * 4) l w) := by
  have hI := indexFunc_LockS1 g cv p hg (some ⟨b, 0, none⟩) n cap l w (fun x hx W E => hp x hx W (hS1 w W hS E)) hl hn (rd_pre hB.rd)
  have HL := Lib.hid hl
  have HB := Lib.hid hB
  have HS := Lib.hid hS
  have HT := Lib.hid ht
  have hlb := hB.lt
  have HP := Lib.hid hp
  have H1 := Lib.hid hS1
  have H2 := Lib.hid hS2
  clear hl hB hS hp hS1 hS2 ht
  by_cases hx : ∃ k, ∃ hk : k < l.length, p l[k] = true ∧ ∀ j, (hj : j < l.length) → j < k → p (l[j]'hj) = false
  · obtain ⟨k, hk, hpk, hbf⟩ := hx
    rw [idxI_found hk hpk hbf] at hI
    have HI := Lib.hid hI
    have HD := Lib.hid (DelAt.start (b := b) (sp := sp) (W := w) (T := 125) CLock.len hk hpk hbf HB.out)
    rw [HT.out] at HD
    have hki : ((k : Int) == -1) = false := by rw [beq_eq_false_iff_ne]; omega
    have hkn : k < n := by rw [← HL.out]; exact hk
    clear hI hpk hbf hk HB
    go_enter Try.func114, Try.ntmps114
    go_wp2_with fail
    refine HI.out.mono ?_
    rintro e w1 ⟨rfl, E1⟩
    have HE1 := Lib.hid E1
    clear E1
    go_wp2_with fail
    go_loopw [6, 5] (fun jv iv wr => ∃ i j : Nat, jv = .int .i64 j ∧ iv = .int .i64 i ∧ DelAt CLock.cs 4 125 p b l sp (cap * 4) wr i j ∧ w.grownBy wr (some b)) (fun jv _ _ => n - (intOf jv).toNat)
    case atStart => exact ⟨k, k + 1, by go_num, rfl, HD.out.grow HE1.out, gr_ext HE1.out⟩
    case round =>
      obtain ⟨i, j, rfl, rfl, hD, hG⟩ := hrel
      have HDr := Lib.hid hD
      have HG := Lib.hid hG
      have hij := hD.1
      have hjl := hD.2.1
      rw [HL.out] at hjl
      clear hD hG HD HE1
      by_cases hjn : j < n
      · have hjk : j < l.length := by rw [HL.out]; exact hjn
        have hjI : (j : Int) < (n : Int) := by omega
        obtain ⟨F, N, M, hF, hN, hFe, hM, hBB, htt⟩ := HDr.out.parts CLock.len hjk
        have HBB := Lib.hid hBB
        have HFNM := Lib.hid (show (F ++ (N ++ M)).length = j * 4 by
          rw [List.length_append, List.length_append, hF, hN, hM]; omega)
        have HB4 := Lib.hid (show Blk wr b 125 ((F ++ (N ++ M)) ++ (l[j].cs ++ ((l.drop (j + 1)).flatMap CLock.cs ++ sp))) by
          have h := HBB.out
          simpa only [List.append_assoc] using h)
        have c0 : wr.cell? ⟨b, j * 4, none⟩ = some (.int .i64 l[j].a) := by exact Blk.mid HB4.out HFNM.out (j := 0) (by simp [CLock.cs])
        have c1 : wr.cell? ⟨b, j * 4 + 1, none⟩ = some (.int .i64 l[j].b) := by exact Blk.mid HB4.out HFNM.out (j := 1) (by simp [CLock.cs])
        have c2 : wr.cell? ⟨b, j * 4 + 2, none⟩ = some (.int .i64 l[j].c) := by exact Blk.mid HB4.out HFNM.out (j := 2) (by simp [CLock.cs])
        have c3 : wr.cell? ⟨b, j * 4 + 3, none⟩ = some (.int .i64 l[j].d) := by exact Blk.mid HB4.out HFNM.out (j := 3) (by simp [CLock.cs])
        have HF := Lib.hid hF
        have HN := Lib.hid hN
        have HM := Lib.hid hM
        have HFe := Lib.hid hFe
        have HTT := Lib.hid htt
        clear hBB hF hN hM hFe htt
        go_wp2_with fail
        have HE2 := Lib.hid (show Ext wr (wr.alloc (.cells #[.int .i64 l[j].a, .int .i64 l[j].b, .int .i64 l[j].c, .int .i64 l[j].d] 125)) from (Ext.refl wr).alloc _)
        have HX := Lib.hid (Blk.new wr 125 [.int .i64 l[j].a, .int .i64 l[j].b, .int .i64 l[j].c, .int .i64 l[j].d])
        have HSr := Lib.hid (H1.out _ _ (H2.out _ _ HS.out HG.out) HE2.out)
        have HPj := Lib.hid (HP.out l[j] (List.getElem_mem hjk) _ HSr.out)
        have hlw := HBB.out.lt
        clear c0 c1 c2 c3
        rcases hv : p l[j] with _ | _
        · have HV := Lib.hid hv
          rw [hv] at HPj
          clear hv
          generalize wr.alloc (.cells #[.int .i64 l[j].a, .int .i64 l[j].b, .int .i64 l[j].c, .int .i64 l[j].d] 125) = w2 at HE2 HX HPj HSr ⊢
          generalize wr.heap.size = y at HX hlw ⊢
          refine HPj.out.mono ?_
          rintro e w3 ⟨rfl, E3⟩
          have HX3 := Lib.hid (HX.out.ext E3)
          have HB3 := Lib.hid (HBB.out.ext (HE2.out.trans E3))
          have HE3 := Lib.hid (HE2.out.trans E3)
          clear E3 HE2 HX HPj HSr
          obtain ⟨u0, u1, u2, u3, rfl⟩ : ∃ u0 u1 u2 u3, N = [u0, u1, u2, u3] := by
            have h := HN.out
            match N, h with
            | [u0, u1, u2, u3], _ => exact ⟨u0, u1, u2, u3, rfl⟩
          obtain ⟨x0, x1, x2, x3⟩ := HX3.out.cells4
          have d0 : w3.cell? ⟨b, i * 4, none⟩ = some u0 := Blk.mid HB3.out HF.out (j := 0) (by simp)
          have f0 := HB3.out.frozen (i * 4)
          have d1 : w3.cell? ⟨b, i * 4 + 1, none⟩ = some u1 := Blk.mid HB3.out HF.out (j := 1) (by simp)
          have f1 := HB3.out.frozen (i * 4 + 1)
          have d2 : w3.cell? ⟨b, i * 4 + 2, none⟩ = some u2 := Blk.mid HB3.out HF.out (j := 2) (by simp)
          have f2 := HB3.out.frozen (i * 4 + 2)
          have d3 : w3.cell? ⟨b, i * 4 + 3, none⟩ = some u3 := Blk.mid HB3.out HF.out (j := 3) (by simp)
          have f3 := HB3.out.frozen (i * 4 + 3)
          have hin : (i : Int) < (n : Int) := by omega
          have hinN : i < n := by omega
          go_wp2_with fail
          go_roundw
          case rel => exact ⟨i + 1, j + 1, by go_num, by go_num, DelAt.keep CLock.len hij hjk HV.out HDr.out.2.2.1 HFe.out HN.out HM.out HTT.out (Blk.setMid (Blk.setMid (Blk.setMid (Blk.setMid HB3.out HF.out (j := 0) (by simp) _) HF.out (j := 1) (by simp) _) HF.out (j := 2) (by simp) _) HF.out (j := 3) (by simp) _), gr_trans HG.out (gr_trans ((gr_trans ((gr_trans ((gr_trans (gr_ext HE3.out) (gr_set _ b _ _))) (gr_set _ b _ _))) (gr_set _ b _ _))) (gr_set _ b _ _))⟩
          case measure => simp [intOf]; omega
        · have HV := Lib.hid hv
          rw [hv] at HPj
          clear hv
          have HD2 := Lib.hid (HDr.out.skip CLock.len hjk HV.out)
          generalize wr.alloc (.cells #[.int .i64 l[j].a, .int .i64 l[j].b, .int .i64 l[j].c, .int .i64 l[j].d] 125) = w2 at HE2 HX HPj HSr ⊢
          refine HPj.out.mono ?_
          rintro e w3 ⟨rfl, E3⟩
          go_wp2_with fail
          go_roundw
          case rel => exact ⟨i, j + 1, by go_num, rfl, HD2.out.grow (HE2.out.trans E3), gr_trans HG.out (gr_ext (HE2.out.trans E3))⟩
          case measure => simp [intOf]; omega
      · have hjI : ¬ (j : Int) < (n : Int) := by omega
        obtain ⟨hfi, c, hBf, htf⟩ := HDr.out.done (by rw [HL.out]; omega)
        have hfl := flat_len CLock.len (l.filter fun x => !p x)
        rw [hfi] at hfl
        have hin : i < n := by omega
        have hinI : (i : Int) ≤ (n : Int) := by omega
        have hic : (i : Int) ≤ (cap : Int) := by omega
        have hicN : ¬ cap = i := by omega
        obtain ⟨c', w9, hlen', hclr, hB9, hG9⟩ := run_clear_after (P := Try.prog) 54 125 (Value.agg #[.int .i64 0, .int .i64 0, .int .i64 0, .int .i64 0]) 4 Try.underlying54 Try.zeroValue125 rfl (by intro u hu; have h : u ∈ [(.int .i64 0 : Value), .int .i64 0, .int .i64 0, .int .i64 0] := hu; simp only [List.mem_cons, List.not_mem_nil, or_false, or_self] at h; subst h; rfl) wr b (i * 4) (n - i) (cap - i) _ c hfl hBf (by omega) (by rw [htf]; omega)
        have HB9 := Lib.hid hB9
        have HFI := Lib.hid hfi
        have HT9 := Lib.hid (hlen'.trans htf)
        have HG9 := Lib.hid hG9
        clear hB9 hfi hlen' htf hG9 hfl hBf
        go_wp2_with fail
        go_ret
        exact DelPost.of HFI.out (by omega) HB9.out HT9.out (gr_trans HG.out HG9.out)
  · have hb : ∀ j, (hj : j < l.length) → p (l[j]'hj) = false := by
      intro j
      induction j using Nat.strongRecOn with
      | ind j ih =>
        intro hj
        rcases hv : p l[j] with _ | _
        · rfl
        · exact absurd ⟨j, hj, hv, fun i hi hij => ih i hij hi⟩ hx
    rw [idxI_none hb] at hI
    have hfl : (l.filter fun x => !p x) = l := by
      rw [List.filter_eq_self]
      intro x hx
      obtain ⟨j, hj, rfl⟩ := List.getElem_of_mem hx
      rw [hb j hj]; rfl
    have HI := Lib.hid hI
    have HFl := Lib.hid hfl
    clear hI hb hx hfl
    go_enter Try.func114, Try.ntmps114
    go_wp2_with fail
    refine HI.out.mono ?_
    rintro e w1 ⟨rfl, E1⟩
    go_wp2_with fail
    go_ret
    exact DelPost.all HFl.out HL.out (HB.out.ext E1) HT.out (gr_ext E1)
end Go.Proofs.Ytnbfjkebakaigaa
