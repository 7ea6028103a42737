/- The walks of the reference's cutting into tokens (printed by gen_lexs.py). -/
import Derived.Test.YthfkfdfcgldbeaaLexW
import Derived.Test.YthfkfdfcgldbeaaTexts
import Derived.Test.YthfkfdfcgldbeaaMarkB
namespace Go.Proofs.Ythfkfdfcgldbeaa
open Go.RowKit Go.Deep
set_option linter.unusedVariables false
set_option maxRecDepth 100000
/-- tokens and a code -/
def LxPost (w : World) (T : TypeId) (V : List ByteArray × Int) (e : Ending) (w' : World) : Prop :=
  ∃ v, e = .returned (.tuple #[v, .int .i64 V.2]) ∧ w'.ownsRow w.heap.size T 1 v V.1.length (V.1.map fun c => Value.string c) ∧ Ext w w'
theorem LxPost.of {w w' : World} {T : TypeId} {V : List ByteArray × Int} {l : List ByteArray} {c : Int} {v : Value} (h : V = (l, c)) (ho : w'.ownsRow w.heap.size T 1 v l.length (l.map fun c => Value.string c)) (E : Ext w w') : LxPost w T V (.returned (.tuple #[v, .int .i64 c])) w' := by
  subst h; exact ⟨v, rfl, ho, E⟩
theorem sg_false {c : UInt8} (h : sgnB c = false) : ((c.toNat : Int) == 40) = false ∧ ((c.toNat : Int) == 41) = false ∧ ((c.toNat : Int) == 43) = false ∧ ((c.toNat : Int) == 45) = false ∧ ((c.toNat : Int) == 42) = false ∧ ((c.toNat : Int) == 47) = false ∧ ((c.toNat : Int) == 61) = false ∧ ((c.toNat : Int) == 60) = false ∧ ((c.toNat : Int) == 44) = false := by
  unfold sgnB at h
  simp only [Bool.or_eq_false_iff, beq_eq_false_iff_ne] at h ⊢
  omega
theorem sg_true {c : UInt8} (h : sgnB c = true) : (((c.toNat : Int) == 40) = true) ∨ (((c.toNat : Int) == 40) = false ∧ ((c.toNat : Int) == 41) = true) ∨ (((c.toNat : Int) == 40) = false ∧ ((c.toNat : Int) == 41) = false ∧ ((c.toNat : Int) == 43) = true) ∨ (((c.toNat : Int) == 40) = false ∧ ((c.toNat : Int) == 41) = false ∧ ((c.toNat : Int) == 43) = false ∧ ((c.toNat : Int) == 45) = true) ∨ (((c.toNat : Int) == 40) = false ∧ ((c.toNat : Int) == 41) = false ∧ ((c.toNat : Int) == 43) = false ∧ ((c.toNat : Int) == 45) = false ∧ ((c.toNat : Int) == 42) = true) ∨ (((c.toNat : Int) == 40) = false ∧ ((c.toNat : Int) == 41) = false ∧ ((c.toNat : Int) == 43) = false ∧ ((c.toNat : Int) == 45) = false ∧ ((c.toNat : Int) == 42) = false ∧ ((c.toNat : Int) == 47) = true) ∨ (((c.toNat : Int) == 40) = false ∧ ((c.toNat : Int) == 41) = false ∧ ((c.toNat : Int) == 43) = false ∧ ((c.toNat : Int) == 45) = false ∧ ((c.toNat : Int) == 42) = false ∧ ((c.toNat : Int) == 47) = false ∧ ((c.toNat : Int) == 61) = true) ∨ (((c.toNat : Int) == 40) = false ∧ ((c.toNat : Int) == 41) = false ∧ ((c.toNat : Int) == 43) = false ∧ ((c.toNat : Int) == 45) = false ∧ ((c.toNat : Int) == 42) = false ∧ ((c.toNat : Int) == 47) = false ∧ ((c.toNat : Int) == 61) = false ∧ ((c.toNat : Int) == 60) = true) ∨ (((c.toNat : Int) == 40) = false ∧ ((c.toNat : Int) == 41) = false ∧ ((c.toNat : Int) == 43) = false ∧ ((c.toNat : Int) == 45) = false ∧ ((c.toNat : Int) == 42) = false ∧ ((c.toNat : Int) == 47) = false ∧ ((c.toNat : Int) == 61) = false ∧ ((c.toNat : Int) == 60) = false ∧ ((c.toNat : Int) == 44) = true) := by
  unfold sgnB at h
  simp only [Bool.or_eq_true, beq_iff_eq, beq_eq_false_iff_ne] at h ⊢
  omega
attribute [irreducible] LxPost
set_option maxHeartbeats 8000000 in
theorem spec_l10Lex (s : ByteArray) (w : World) (hs : s.size ≤ 65536) :
    Calls Try.prog 87 #[.string s] w (LxPost w 9 (lexA s 0 [])) := by
  have HI := Lib.hid (World.ownsRow_lit (base := w.heap.size) (e := 9) (size := 1) w #[] 0 (Nat.le_refl _) (by unfold maxLen; omega) rfl)
  obtain ⟨i0, hi, hz0, hz1, hz2⟩ := info_parts info_StringS
  have HO0 := Lib.hid (show lexA s 0 [] = lexA s 0 [] from rfl)
  generalize hO : lexA s 0 [] = O at HO0 ⊢
  have HO1 := Lib.hid hO
  clear hO HO0
  go_enter Try.func87, Try.ntmps87
  go_wp2_with fail
  go_loopw [5, 4] (fun i v wr => ∃ (k : Nat) (acc : List ByteArray), i = .int .i64 k ∧ k ≤ s.size ∧ acc.length ≤ 500 ∧ lexA s k acc = O ∧ wr.ownsRow w.heap.size 9 1 v acc.length (acc.map fun c => Value.string c) ∧ Ext w wr) (fun i _ _ => s.size - (intOf i).toNat)
  case atStart => exact ⟨0, [], rfl, Nat.zero_le _, by simp, HO1.out, HI.out, (by repeat (first | exact Ext.refl _ | assumption | refine Ext.alloc ?_ _ | refine Ext.drewN ?_ _ | refine Ext.drew ?_ | refine Ext.set ?_ (by dsimp only; omega) _ | refine Ext.trans ?_ (by assumption)))⟩
  case round =>
    obtain ⟨k, acc, rfl, hk, hacc, hf, ho, hE⟩ := hrel
    have HF := Lib.hid hf
    have HO := Lib.hid ho
    have HE := Lib.hid hE
    obtain ⟨A0, cap0, rfl⟩ := own_slice ho
    clear hf ho hE HI HO1
    by_cases hks : k < s.size
    · have hkI : (k : Int) < (s.size : Int) := by omega
      by_cases h32 : s[k].toNat = 32
      · have hb : ((s[k].toNat : Int) == 32) = true := by rw [h32]; rfl
        have HF2 := Lib.hid ((lexA_blank hks h32).symm.trans HF.out)
        clear h32
        go_wp2_with fail
        go_roundw
        case rel => exact ⟨k + 1, acc, by go_num, by omega, hacc, HF2.out, HO.out, HE.out⟩
        case measure => simp [intOf]; omega
      have hb : ((s[k].toNat : Int) == 32) = false := by rw [beq_eq_false_iff_ne]; omega
      have H32 := Lib.hid h32
      clear h32
      rcases g1 : letB s[k] with _ | _
      · rcases g2 : digB s[k] with _ | _
        · have G1 := Lib.hid g1
          have G2 := Lib.hid g2
          clear g1 g2
          by_cases g3 : s[k].toNat = 39
          · have g3b : ((s[k].toNat : Int) == 39) = true := by rw [g3]; rfl
            have G3 := Lib.hid g3
            clear g3
            go_wp2_with fail
            refine (spec_l10Letter _ _).mono ?_
            rintro e w' ⟨rfl, rfl⟩
            rw [G1.out]
            go_wp2_with fail
            refine (spec_l00Digit _ _).mono ?_
            rintro e w' ⟨rfl, rfl⟩
            rw [G2.out]
            go_wp2_with fail
            clear hb g3b
            obtain ⟨wo, rfl⟩ : ∃ wo : World, wo = wr := ⟨_, rfl⟩
            go_loopw [5] (fun i wr => ∃ q : Nat, i = .int .i64 q ∧ k + 1 ≤ q ∧ q ≤ s.size ∧ spanA letB s (k + 1) + (k + 1) = spanA letB s q + q ∧ wr = wo) (fun i _ => s.size - (intOf i).toNat)
            case atStart => exact ⟨k + 1, by go_num, Nat.le_refl _, by omega, rfl, rfl⟩
            case round =>
              obtain ⟨q, rfl, hkq, hqs, hsp, rfl⟩ := hrel
              have HSP := Lib.hid hsp
              clear hsp
              by_cases hq : q < s.size
              · have hqI : (q : Int) < (s.size : Int) := by omega
                rcases g1 : letB s[q] with _ | _
                · have HS0 := Lib.hid (spanA_stop (p := letB) hq g1)
                  go_wp2_with fail
                  refine (spec_l10Letter _ _).mono ?_
                  rintro e w' ⟨rfl, rfl⟩
                  rw [g1]
                  have hqe : q = k + 1 + spanA letB s (k + 1) := by have h1 := HSP.out; have h2 := HS0.out; omega
                  by_cases g5 : s[q].toNat = 39
                  · have HT := Lib.hid (show tokA s k = (q + 1) - k from tokA_quote_yes hks G1.out G2.out G3.out hqe hq g5)
                    have hne : ((q : Int) == (s.size : Int)) = false := by rw [beq_eq_false_iff_ne]; omega
                    have g5b : ((s[q].toNat : Int) != 39) = false := by rw [g5]; rfl
                    have hlt : k < q + 1 := by omega
                    clear g5 hqe
                    have hs1 : (k : Int) ≤ ((q : Int) + 1) := by omega
                    have hs2 : ((q : Int) + 1) ≤ (s.size : Int) := by omega
                    have hs4 : (0 : Int) ≤ ((q : Int) + 1) := by omega
                    have hs5 : ((q : Int) + 1).toNat = (q + 1) := by omega
                    have hrow := own_ext HO.out ((Ext.refl _).alloc (.cells #[.string (s.extract k (q + 1))] 9))
                    have hle := HE.out.le
                    generalize hX : s.extract k (q + 1) = X at hrow
                    go_wp2_with (at_builtin; refine wpList_append_own _ rfl (.tmp 126) (.tmp 131) 66 rfl w.heap.size 9 i0 (.string ByteArray.empty) 1 16 Try.underlying66 hi hz0 hz1 hz2 rfl (by decide) _ acc.length _ rfl hrow ⟨_, 0, none⟩ 1 1 [.string X] rfl rfl (rd_add (Blk.new _ _ _).rd) (by intro u hu; simp at hu; subst hu; rfl) (by unfold maxLen; omega) (by omega) (by simp; omega) ?_)
                    intro v4 w4 ho4 hg4 _
                    have HO4 := Lib.hid ho4
                    have E4 := Lib.hid ((HE.out.alloc (.cells #[.string X] 9)).grown hg4 (own_blk hrow))
                    obtain ⟨A4, cap4, rfl⟩ := own_slice ho4
                    have HX := Lib.hid hX
                    have hwle := E4.out.le
                    clear ho4 hg4 hrow hX hle
                    by_cases h500 : acc.length = 500
                    · have h5I : (500 : Int) < ((acc.length + 1 : Nat) : Int) := by omega
                      have HV := Lib.hid (HF.out.symm.trans (lexA_many hks H32.out (by rw [HT.out]; omega) h500))
                      clear h500
                      have HN := Lib.hid (World.ownsRow_lit (base := w.heap.size) (e := 9) (size := 1) w4 #[] 0 E4.out.le (by unfold maxLen; omega) rfl)
                      go_wp2_with fail
                      go_ret2
                      exact .of HV.out HN.out (E4.out.alloc _)
                    · have h5I : ¬ (500 : Int) < ((acc.length + 1 : Nat) : Int) := by omega
                      have HF4 := Lib.hid (show lexA s (q + 1) (acc ++ [X]) = O by
                        rw [← HF.out, lexA_tok hks H32.out (by rw [HT.out]; omega) h500, HT.out, show k + ((q + 1) - k) = (q + 1) from by omega, HX.out])
                      clear h500 hs1 hs2 hs4 hs5
                      go_wp2_with fail
                      go_roundw
                      case rel => exact ⟨(q + 1), acc ++ [X], by go_num, by omega, by rw [List.length_append, List.length_singleton]; omega, HF4.out, by rw [List.length_append, List.map_append]; exact HO4.out, E4.out⟩
                      case measure => simp [intOf]; omega
                  · have hne : ((q : Int) == (s.size : Int)) = false := by rw [beq_eq_false_iff_ne]; omega
                    have g5b : ((s[q].toNat : Int) != 39) = true := by rw [bne_iff_ne]; omega
                    have HV := Lib.hid (HF.out.symm.trans (lexA_form hks H32.out (tokA_quote_no hks G1.out G2.out G3.out hqe (fun _ => g5))))
                    clear g5 hqe
                    have HN := Lib.hid (World.ownsRow_lit (base := w.heap.size) (e := 9) (size := 1) _ #[] 0 HE.out.le (by unfold maxLen; omega) rfl)
                    go_wp2_with fail
                    go_ret2
                    exact .of HV.out HN.out (HE.out.alloc _)
                · have HS2 := Lib.hid (show spanA letB s (k + 1) + (k + 1) = spanA letB s (q + 1) + (q + 1) by rw [HSP.out, spanA_step hq g1]; omega)
                  go_wp2_with fail
                  refine (spec_l10Letter _ _).mono ?_
                  rintro e w' ⟨rfl, rfl⟩
                  rw [g1]
                  go_wp2_with fail
                  go_roundw
                  case rel => exact ⟨q + 1, by go_num, by omega, by omega, HS2.out, (by first | rfl | trivial)⟩
                  case measure => simp [intOf]; omega
              · have hqI : ¬ (q : Int) < (s.size : Int) := by omega
                have HS0 := Lib.hid (spanA_end (p := letB) (s := s) (i := q) (by omega))
                have hqe : q = k + 1 + spanA letB s (k + 1) := by have h1 := HSP.out; have h2 := HS0.out; omega
                have hne : ((q : Int) == (s.size : Int)) = true := by rw [beq_iff_eq]; omega
                have HV := Lib.hid (HF.out.symm.trans (lexA_form hks H32.out (tokA_quote_no hks G1.out G2.out G3.out hqe (fun h => absurd h hq))))
                clear hqe
                have HN := Lib.hid (World.ownsRow_lit (base := w.heap.size) (e := 9) (size := 1) _ #[] 0 HE.out.le (by unfold maxLen; omega) rfl)
                go_wp2_with fail
                go_ret2
                exact .of HV.out HN.out (HE.out.alloc _)
          · have g3b : ((s[k].toNat : Int) == 39) = false := by rw [beq_eq_false_iff_ne]; omega
            have G3 := Lib.hid g3
            clear g3
            rcases g4 : sgnB s[k] with _ | _
            · obtain ⟨z0, z1, z2, z3, z4, z5, z6, z7, z8⟩ := sg_false g4
              have HV := Lib.hid (HF.out.symm.trans (lexA_form hks H32.out (by rw [tokA_sgn hks G1.out G2.out G3.out, g4]; rfl)))
              clear g4
              go_wp2_with fail
              refine (spec_l10Letter _ _).mono ?_
              rintro e w' ⟨rfl, rfl⟩
              rw [G1.out]
              go_wp2_with fail
              refine (spec_l00Digit _ _).mono ?_
              rintro e w' ⟨rfl, rfl⟩
              rw [G2.out]
              have HN := Lib.hid (World.ownsRow_lit (base := w.heap.size) (e := 9) (size := 1) wr #[] 0 HE.out.le (by unfold maxLen; omega) rfl)
              go_wp2_with fail
              go_ret2
              exact .of HV.out HN.out (HE.out.alloc _)
            · obtain ⟨m, hm⟩ : ∃ m, m = k + 1 := ⟨_, rfl⟩
              have HT := Lib.hid (show tokA s k = m - k by rw [tokA_sgn hks G1.out G2.out G3.out, g4, hm]; simp)
              have hlt : k < m := by omega
              have hms : m ≤ s.size := by omega
              have hm1 : (k : Int) + 1 = (m : Int) := by omega
              clear hm
              have hsg := sg_true g4
              clear g4
              rcases hsg with z0 | ⟨z0, z1⟩ | ⟨z0, z1, z2⟩ | ⟨z0, z1, z2, z3⟩ | ⟨z0, z1, z2, z3, z4⟩ | ⟨z0, z1, z2, z3, z4, z5⟩ | ⟨z0, z1, z2, z3, z4, z5, z6⟩ | ⟨z0, z1, z2, z3, z4, z5, z6, z7⟩ | ⟨z0, z1, z2, z3, z4, z5, z6, z7, z8⟩
              all_goals
                have hs1 : (k : Int) ≤ (m : Int) := by omega
                have hs2 : (m : Int) ≤ (s.size : Int) := by omega
                have hs4 : (0 : Int) ≤ (m : Int) := by omega
                have hs5 : (m : Int).toNat = m := by omega
                have hrow := own_ext HO.out ((Ext.refl _).alloc (.cells #[.string (s.extract k m)] 9))
                have hle := HE.out.le
                generalize hX : s.extract k m = X at hrow
                go_wp2_with fail
                refine (spec_l10Letter _ _).mono ?_
                rintro e w' ⟨rfl, rfl⟩
                rw [G1.out]
                go_wp2_with fail
                refine (spec_l00Digit _ _).mono ?_
                rintro e w' ⟨rfl, rfl⟩
                rw [G2.out]
                go_wp2_with (at_builtin; refine wpList_append_own _ rfl (.tmp 126) (.tmp 131) 66 rfl w.heap.size 9 i0 (.string ByteArray.empty) 1 16 Try.underlying66 hi hz0 hz1 hz2 rfl (by decide) _ acc.length _ rfl hrow ⟨_, 0, none⟩ 1 1 [.string X] rfl rfl (rd_add (Blk.new _ _ _).rd) (by intro u hu; simp at hu; subst hu; rfl) (by unfold maxLen; omega) (by omega) (by simp; omega) ?_)
                intro v4 w4 ho4 hg4 _
                have HO4 := Lib.hid ho4
                have E4 := Lib.hid ((HE.out.alloc (.cells #[.string X] 9)).grown hg4 (own_blk hrow))
                obtain ⟨A4, cap4, rfl⟩ := own_slice ho4
                have HX := Lib.hid hX
                have hwle := E4.out.le
                clear ho4 hg4 hrow hX hle
                by_cases h500 : acc.length = 500
                · have h5I : (500 : Int) < ((acc.length + 1 : Nat) : Int) := by omega
                  have HV := Lib.hid (HF.out.symm.trans (lexA_many hks H32.out (by rw [HT.out]; omega) h500))
                  clear h500
                  have HN := Lib.hid (World.ownsRow_lit (base := w.heap.size) (e := 9) (size := 1) w4 #[] 0 E4.out.le (by unfold maxLen; omega) rfl)
                  go_wp2_with fail
                  go_ret2
                  exact .of HV.out HN.out (E4.out.alloc _)
                · have h5I : ¬ (500 : Int) < ((acc.length + 1 : Nat) : Int) := by omega
                  have HF4 := Lib.hid (show lexA s m (acc ++ [X]) = O by
                    rw [← HF.out, lexA_tok hks H32.out (by rw [HT.out]; omega) h500, HT.out, show k + (m - k) = m from by omega, HX.out])
                  clear h500 hs1 hs2 hs4 hs5
                  go_wp2_with fail
                  go_roundw
                  case rel => exact ⟨m, acc ++ [X], by go_num, by omega, by rw [List.length_append, List.length_singleton]; omega, HF4.out, by rw [List.length_append, List.map_append]; exact HO4.out, E4.out⟩
                  case measure => simp [intOf]; omega
        · have G1 := Lib.hid g1
          have G2 := Lib.hid g2
          clear g1 g2
          go_wp2_with fail
          refine (spec_l10Letter _ _).mono ?_
          rintro e w' ⟨rfl, rfl⟩
          rw [G1.out]
          go_wp2_with fail
          refine (spec_l00Digit _ _).mono ?_
          rintro e w' ⟨rfl, rfl⟩
          rw [G2.out]
          go_wp2_with fail
          clear hb
          obtain ⟨wo, rfl⟩ : ∃ wo : World, wo = wr := ⟨_, rfl⟩
          go_loopw [5] (fun i wr => ∃ q : Nat, i = .int .i64 q ∧ k ≤ q ∧ q ≤ s.size ∧ spanA digB s (k) + (k) = spanA digB s q + q ∧ wr = wo) (fun i _ => s.size - (intOf i).toNat)
          case atStart => exact ⟨k, by go_num, Nat.le_refl _, by omega, rfl, rfl⟩
          case round =>
            obtain ⟨q, rfl, hkq, hqs, hsp, rfl⟩ := hrel
            have HSP := Lib.hid hsp
            clear hsp
            by_cases hq : q < s.size
            · have hqI : (q : Int) < (s.size : Int) := by omega
              rcases g1 : digB s[q] with _ | _
              · have HS0 := Lib.hid (spanA_stop (p := digB) hq g1)
                go_wp2_with fail
                refine (spec_l00Digit _ _).mono ?_
                rintro e w' ⟨rfl, rfl⟩
                rw [g1]
                have HT := Lib.hid (show tokA s k = q - k by
                  have h1 := HSP.out
                  have h2 := HS0.out
                  have h3 := tokA_dig hks G1.out G2.out
                  have h4 := spanA_step (p := digB) hks G2.out
                  omega)
                have hlt : k < q := by have := HT.out; have h3 := tokA_dig hks G1.out G2.out; omega
                have hs1 : (k : Int) ≤ (q : Int) := by omega
                have hs2 : (q : Int) ≤ (s.size : Int) := by omega
                have hs4 : (0 : Int) ≤ (q : Int) := by omega
                have hs5 : (q : Int).toNat = q := by omega
                have hrow := own_ext HO.out ((Ext.refl _).alloc (.cells #[.string (s.extract k q)] 9))
                have hle := HE.out.le
                generalize hX : s.extract k q = X at hrow
                go_wp2_with (at_builtin; refine wpList_append_own _ rfl (.tmp 126) (.tmp 131) 66 rfl w.heap.size 9 i0 (.string ByteArray.empty) 1 16 Try.underlying66 hi hz0 hz1 hz2 rfl (by decide) _ acc.length _ rfl hrow ⟨_, 0, none⟩ 1 1 [.string X] rfl rfl (rd_add (Blk.new _ _ _).rd) (by intro u hu; simp at hu; subst hu; rfl) (by unfold maxLen; omega) (by omega) (by simp; omega) ?_)
                intro v4 w4 ho4 hg4 _
                have HO4 := Lib.hid ho4
                have E4 := Lib.hid ((HE.out.alloc (.cells #[.string X] 9)).grown hg4 (own_blk hrow))
                obtain ⟨A4, cap4, rfl⟩ := own_slice ho4
                have HX := Lib.hid hX
                have hwle := E4.out.le
                clear ho4 hg4 hrow hX hle
                by_cases h500 : acc.length = 500
                · have h5I : (500 : Int) < ((acc.length + 1 : Nat) : Int) := by omega
                  have HV := Lib.hid (HF.out.symm.trans (lexA_many hks H32.out (by rw [HT.out]; omega) h500))
                  clear h500
                  have HN := Lib.hid (World.ownsRow_lit (base := w.heap.size) (e := 9) (size := 1) w4 #[] 0 E4.out.le (by unfold maxLen; omega) rfl)
                  go_wp2_with fail
                  go_ret2
                  exact .of HV.out HN.out (E4.out.alloc _)
                · have h5I : ¬ (500 : Int) < ((acc.length + 1 : Nat) : Int) := by omega
                  have HF4 := Lib.hid (show lexA s q (acc ++ [X]) = O by
                    rw [← HF.out, lexA_tok hks H32.out (by rw [HT.out]; omega) h500, HT.out, show k + (q - k) = q from by omega, HX.out])
                  clear h500 hs1 hs2 hs4 hs5
                  go_wp2_with fail
                  go_roundw
                  case rel => exact ⟨q, acc ++ [X], by go_num, by omega, by rw [List.length_append, List.length_singleton]; omega, HF4.out, by rw [List.length_append, List.map_append]; exact HO4.out, E4.out⟩
                  case measure => simp [intOf]; omega
              · have HS2 := Lib.hid (show spanA digB s (k) + (k) = spanA digB s (q + 1) + (q + 1) by rw [HSP.out, spanA_step hq g1]; omega)
                go_wp2_with fail
                refine (spec_l00Digit _ _).mono ?_
                rintro e w' ⟨rfl, rfl⟩
                rw [g1]
                go_wp2_with fail
                go_roundw
                case rel => exact ⟨q + 1, by go_num, by omega, by omega, HS2.out, (by first | rfl | trivial)⟩
                case measure => simp [intOf]; omega
            · have hqI : ¬ (q : Int) < (s.size : Int) := by omega
              have HS0 := Lib.hid (spanA_end (p := digB) (s := s) (i := q) (by omega))
              have HT := Lib.hid (show tokA s k = q - k by
                have h1 := HSP.out
                have h2 := HS0.out
                have h3 := tokA_dig hks G1.out G2.out
                have h4 := spanA_step (p := digB) hks G2.out
                omega)
              have hlt : k < q := by have := HT.out; have h3 := tokA_dig hks G1.out G2.out; omega
              have hs1 : (k : Int) ≤ (q : Int) := by omega
              have hs2 : (q : Int) ≤ (s.size : Int) := by omega
              have hs4 : (0 : Int) ≤ (q : Int) := by omega
              have hs5 : (q : Int).toNat = q := by omega
              have hrow := own_ext HO.out ((Ext.refl _).alloc (.cells #[.string (s.extract k q)] 9))
              have hle := HE.out.le
              generalize hX : s.extract k q = X at hrow
              go_wp2_with (at_builtin; refine wpList_append_own _ rfl (.tmp 126) (.tmp 131) 66 rfl w.heap.size 9 i0 (.string ByteArray.empty) 1 16 Try.underlying66 hi hz0 hz1 hz2 rfl (by decide) _ acc.length _ rfl hrow ⟨_, 0, none⟩ 1 1 [.string X] rfl rfl (rd_add (Blk.new _ _ _).rd) (by intro u hu; simp at hu; subst hu; rfl) (by unfold maxLen; omega) (by omega) (by simp; omega) ?_)
              intro v4 w4 ho4 hg4 _
              have HO4 := Lib.hid ho4
              have E4 := Lib.hid ((HE.out.alloc (.cells #[.string X] 9)).grown hg4 (own_blk hrow))
              obtain ⟨A4, cap4, rfl⟩ := own_slice ho4
              have HX := Lib.hid hX
              have hwle := E4.out.le
              clear ho4 hg4 hrow hX hle
              by_cases h500 : acc.length = 500
              · have h5I : (500 : Int) < ((acc.length + 1 : Nat) : Int) := by omega
                have HV := Lib.hid (HF.out.symm.trans (lexA_many hks H32.out (by rw [HT.out]; omega) h500))
                clear h500
                have HN := Lib.hid (World.ownsRow_lit (base := w.heap.size) (e := 9) (size := 1) w4 #[] 0 E4.out.le (by unfold maxLen; omega) rfl)
                go_wp2_with fail
                go_ret2
                exact .of HV.out HN.out (E4.out.alloc _)
              · have h5I : ¬ (500 : Int) < ((acc.length + 1 : Nat) : Int) := by omega
                have HF4 := Lib.hid (show lexA s q (acc ++ [X]) = O by
                  rw [← HF.out, lexA_tok hks H32.out (by rw [HT.out]; omega) h500, HT.out, show k + (q - k) = q from by omega, HX.out])
                clear h500 hs1 hs2 hs4 hs5
                go_wp2_with fail
                go_roundw
                case rel => exact ⟨q, acc ++ [X], by go_num, by omega, by rw [List.length_append, List.length_singleton]; omega, HF4.out, by rw [List.length_append, List.map_append]; exact HO4.out, E4.out⟩
                case measure => simp [intOf]; omega
      · have G1 := Lib.hid g1
        clear g1
        go_wp2_with fail
        refine (spec_l10Letter _ _).mono ?_
        rintro e w' ⟨rfl, rfl⟩
        rw [G1.out]
        go_wp2_with fail
        clear hb
        obtain ⟨wo, rfl⟩ : ∃ wo : World, wo = wr := ⟨_, rfl⟩
        go_loopw [5] (fun i wr => ∃ q : Nat, i = .int .i64 q ∧ k ≤ q ∧ q ≤ s.size ∧ spanA (fun c => letB c || digB c) s (k) + (k) = spanA (fun c => letB c || digB c) s q + q ∧ wr = wo) (fun i _ => s.size - (intOf i).toNat)
        case atStart => exact ⟨k, by go_num, Nat.le_refl _, by omega, rfl, rfl⟩
        case round =>
          obtain ⟨q, rfl, hkq, hqs, hsp, rfl⟩ := hrel
          have HSP := Lib.hid hsp
          clear hsp
          by_cases hq : q < s.size
          · have hqI : (q : Int) < (s.size : Int) := by omega
            rcases g1 : letB s[q] with _ | _
            · rcases g2 : digB s[q] with _ | _
              · have HS0 := Lib.hid (spanA_stop (p := (fun c => letB c || digB c)) hq (by rw [g1, g2]; rfl))
                go_wp2_with fail
                refine (spec_l10Letter _ _).mono ?_
                rintro e w' ⟨rfl, rfl⟩
                rw [g1]
                go_wp2_with fail
                refine (spec_l00Digit _ _).mono ?_
                rintro e w' ⟨rfl, rfl⟩
                rw [g2]
                have HT := Lib.hid (show tokA s k = q - k by
                  have h1 := HSP.out
                  have h2 := HS0.out
                  have h3 := tokA_let hks G1.out
                  have h4 := spanA_step (p := (fun c => letB c || digB c)) hks (by rw [G1.out]; rfl)
                  omega)
                have hlt : k < q := by have := HT.out; have h3 := tokA_let hks G1.out; omega
                have hs1 : (k : Int) ≤ (q : Int) := by omega
                have hs2 : (q : Int) ≤ (s.size : Int) := by omega
                have hs4 : (0 : Int) ≤ (q : Int) := by omega
                have hs5 : (q : Int).toNat = q := by omega
                have hrow := own_ext HO.out ((Ext.refl _).alloc (.cells #[.string (s.extract k q)] 9))
                have hle := HE.out.le
                generalize hX : s.extract k q = X at hrow
                go_wp2_with (at_builtin; refine wpList_append_own _ rfl (.tmp 126) (.tmp 131) 66 rfl w.heap.size 9 i0 (.string ByteArray.empty) 1 16 Try.underlying66 hi hz0 hz1 hz2 rfl (by decide) _ acc.length _ rfl hrow ⟨_, 0, none⟩ 1 1 [.string X] rfl rfl (rd_add (Blk.new _ _ _).rd) (by intro u hu; simp at hu; subst hu; rfl) (by unfold maxLen; omega) (by omega) (by simp; omega) ?_)
                intro v4 w4 ho4 hg4 _
                have HO4 := Lib.hid ho4
                have E4 := Lib.hid ((HE.out.alloc (.cells #[.string X] 9)).grown hg4 (own_blk hrow))
                obtain ⟨A4, cap4, rfl⟩ := own_slice ho4
                have HX := Lib.hid hX
                have hwle := E4.out.le
                clear ho4 hg4 hrow hX hle
                by_cases h500 : acc.length = 500
                · have h5I : (500 : Int) < ((acc.length + 1 : Nat) : Int) := by omega
                  have HV := Lib.hid (HF.out.symm.trans (lexA_many hks H32.out (by rw [HT.out]; omega) h500))
                  clear h500
                  have HN := Lib.hid (World.ownsRow_lit (base := w.heap.size) (e := 9) (size := 1) w4 #[] 0 E4.out.le (by unfold maxLen; omega) rfl)
                  go_wp2_with fail
                  go_ret2
                  exact .of HV.out HN.out (E4.out.alloc _)
                · have h5I : ¬ (500 : Int) < ((acc.length + 1 : Nat) : Int) := by omega
                  have HF4 := Lib.hid (show lexA s q (acc ++ [X]) = O by
                    rw [← HF.out, lexA_tok hks H32.out (by rw [HT.out]; omega) h500, HT.out, show k + (q - k) = q from by omega, HX.out])
                  clear h500 hs1 hs2 hs4 hs5
                  go_wp2_with fail
                  go_roundw
                  case rel => exact ⟨q, acc ++ [X], by go_num, by omega, by rw [List.length_append, List.length_singleton]; omega, HF4.out, by rw [List.length_append, List.map_append]; exact HO4.out, E4.out⟩
                  case measure => simp [intOf]; omega
              · have HS2 := Lib.hid (show spanA (fun c => letB c || digB c) s (k) + (k) = spanA (fun c => letB c || digB c) s (q + 1) + (q + 1) by rw [HSP.out, spanA_step hq (by rw [g1, g2]; rfl)]; omega)
                go_wp2_with fail
                refine (spec_l10Letter _ _).mono ?_
                rintro e w' ⟨rfl, rfl⟩
                rw [g1]
                go_wp2_with fail
                refine (spec_l00Digit _ _).mono ?_
                rintro e w' ⟨rfl, rfl⟩
                rw [g2]
                go_wp2_with fail
                go_roundw
                case rel => exact ⟨q + 1, by go_num, by omega, by omega, HS2.out, (by first | rfl | trivial)⟩
                case measure => simp [intOf]; omega
            · have HS2 := Lib.hid (show spanA (fun c => letB c || digB c) s (k) + (k) = spanA (fun c => letB c || digB c) s (q + 1) + (q + 1) by rw [HSP.out, spanA_step hq (by rw [g1]; rfl)]; omega)
              go_wp2_with fail
              refine (spec_l10Letter _ _).mono ?_
              rintro e w' ⟨rfl, rfl⟩
              rw [g1]
              go_wp2_with fail
              go_roundw
              case rel => exact ⟨q + 1, by go_num, by omega, by omega, HS2.out, (by first | rfl | trivial)⟩
              case measure => simp [intOf]; omega
          · have hqI : ¬ (q : Int) < (s.size : Int) := by omega
            have HS0 := Lib.hid (spanA_end (p := (fun c => letB c || digB c)) (s := s) (i := q) (by omega))
            have HT := Lib.hid (show tokA s k = q - k by
              have h1 := HSP.out
              have h2 := HS0.out
              have h3 := tokA_let hks G1.out
              have h4 := spanA_step (p := (fun c => letB c || digB c)) hks (by rw [G1.out]; rfl)
              omega)
            have hlt : k < q := by have := HT.out; have h3 := tokA_let hks G1.out; omega
            have hs1 : (k : Int) ≤ (q : Int) := by omega
            have hs2 : (q : Int) ≤ (s.size : Int) := by omega
            have hs4 : (0 : Int) ≤ (q : Int) := by omega
            have hs5 : (q : Int).toNat = q := by omega
            have hrow := own_ext HO.out ((Ext.refl _).alloc (.cells #[.string (s.extract k q)] 9))
            have hle := HE.out.le
            generalize hX : s.extract k q = X at hrow
            go_wp2_with (at_builtin; refine wpList_append_own _ rfl (.tmp 126) (.tmp 131) 66 rfl w.heap.size 9 i0 (.string ByteArray.empty) 1 16 Try.underlying66 hi hz0 hz1 hz2 rfl (by decide) _ acc.length _ rfl hrow ⟨_, 0, none⟩ 1 1 [.string X] rfl rfl (rd_add (Blk.new _ _ _).rd) (by intro u hu; simp at hu; subst hu; rfl) (by unfold maxLen; omega) (by omega) (by simp; omega) ?_)
            intro v4 w4 ho4 hg4 _
            have HO4 := Lib.hid ho4
            have E4 := Lib.hid ((HE.out.alloc (.cells #[.string X] 9)).grown hg4 (own_blk hrow))
            obtain ⟨A4, cap4, rfl⟩ := own_slice ho4
            have HX := Lib.hid hX
            have hwle := E4.out.le
            clear ho4 hg4 hrow hX hle
            by_cases h500 : acc.length = 500
            · have h5I : (500 : Int) < ((acc.length + 1 : Nat) : Int) := by omega
              have HV := Lib.hid (HF.out.symm.trans (lexA_many hks H32.out (by rw [HT.out]; omega) h500))
              clear h500
              have HN := Lib.hid (World.ownsRow_lit (base := w.heap.size) (e := 9) (size := 1) w4 #[] 0 E4.out.le (by unfold maxLen; omega) rfl)
              go_wp2_with fail
              go_ret2
              exact .of HV.out HN.out (E4.out.alloc _)
            · have h5I : ¬ (500 : Int) < ((acc.length + 1 : Nat) : Int) := by omega
              have HF4 := Lib.hid (show lexA s q (acc ++ [X]) = O by
                rw [← HF.out, lexA_tok hks H32.out (by rw [HT.out]; omega) h500, HT.out, show k + (q - k) = q from by omega, HX.out])
              clear h500 hs1 hs2 hs4 hs5
              go_wp2_with fail
              go_roundw
              case rel => exact ⟨q, acc ++ [X], by go_num, by omega, by rw [List.length_append, List.length_singleton]; omega, HF4.out, by rw [List.length_append, List.map_append]; exact HO4.out, E4.out⟩
              case measure => simp [intOf]; omega
    · have hkI : ¬ (k : Int) < (s.size : Int) := by omega
      have HV := Lib.hid (HF.out.symm.trans (lexA_end (by omega)))
      go_wp2_with fail
      go_ret2
      exact .of HV.out HO.out HE.out
end Go.Proofs.Ythfkfdfcgldbeaa
