/- The walk of the program's look at one token (printed by gen_lexi.py). -/
import Derived.Test.YthfkfdfcgldbeaaLexS
namespace Go.Proofs.Ythfkfdfcgldbeaa
open Go.RowKit Go.Deep
set_option linter.unusedVariables false
set_option maxRecDepth 100000
theorem first_byte {t : ByteArray} (h : 0 < t.size) : t.extract 0 1 = ⟨#[t[0]]⟩ := by
  apply ba_ext
  rw [cut_list, List.drop_zero]
  have := front_at t 0 h
  rw [List.drop_zero] at this
  rw [this]
  rfl
set_option maxHeartbeats 4000000 in
theorem impl_tokenAt (t : ByteArray) (w : World) (h0 : 0 < t.size) (hs : t.size ≤ 65536) :
    Calls Try.prog 135 #[.string t] w fun e w' => e = .returned (.int .i64 (tokA t 0 : Nat)) ∧ w = w' := by
  rcases g1 : letB t[0] with _ | _
  · rcases g2 : digB t[0] with _ | _
    · have G1 := Lib.hid g1
      have G2 := Lib.hid g2
      clear g1 g2
      by_cases g3 : t[0].toNat = 39
      · have g3b : ((t[0].toNat : Int) == 39) = true := by rw [g3]; rfl
        have G3 := Lib.hid g3
        clear g3
        go_enter Try.func135, Try.ntmps135
        go_wp2_with fail
        refine (impl_isLetter _ _).mono ?_
        rintro e w' ⟨rfl, rfl⟩
        rw [G1.out]
        go_wp2_with fail
        refine (impl_isDigit _ _).mono ?_
        rintro e w' ⟨rfl, rfl⟩
        rw [G2.out]
        go_wp2_with fail
        clear g3b
        obtain ⟨wo, rfl⟩ : ∃ wo : World, wo = w := ⟨_, rfl⟩
        go_loopw [3] (fun i wr => ∃ q : Nat, i = .int .i64 q ∧ 1 ≤ q ∧ q ≤ t.size ∧ spanA letB t 1 + 1 = spanA letB t q + q ∧ wr = wo) (fun i _ => t.size - (intOf i).toNat)
        case atStart => exact ⟨1, rfl, Nat.le_refl _, by omega, rfl, rfl⟩
        case round =>
          obtain ⟨q, rfl, hkq, hqs, hsp, rfl⟩ := hrel
          have HSP := Lib.hid hsp
          clear hsp
          by_cases hq : q < t.size
          · have hqI : (q : Int) < (t.size : Int) := by omega
            rcases g1 : letB t[q] with _ | _
            · have HS0 := Lib.hid (spanA_stop (p := letB) hq g1)
              go_wp2_with fail
              refine (impl_isLetter _ _).mono ?_
              rintro e w' ⟨rfl, rfl⟩
              rw [g1]
              have hqe : q = 0 + 1 + spanA letB t (0 + 1) := by have h1 := HSP.out; have h2 := HS0.out; rw [Nat.zero_add]; omega
              have hne : ((q : Int) == (t.size : Int)) = false := by rw [beq_eq_false_iff_ne]; omega
              by_cases g5 : t[q].toNat = 39
              · have HT := Lib.hid (show tokA t 0 = q + 1 from tokA_quote_yes h0 G1.out G2.out G3.out hqe hq g5)
                have g5b : ((t[q].toNat : Int) != 39) = false := by rw [g5]; rfl
                clear g5 hqe
                go_wp2_with fail
                go_ret
                exact ⟨by rw [HT.out]; rfl, (by first | rfl | trivial)⟩
              · have HT := Lib.hid (tokA_quote_no h0 G1.out G2.out G3.out hqe (fun _ => g5))
                have g5b : ((t[q].toNat : Int) != 39) = true := by rw [bne_iff_ne]; omega
                clear g5 hqe
                go_wp2_with fail
                go_ret
                exact ⟨by rw [HT.out]; rfl, (by first | rfl | trivial)⟩
            · have HS2 := Lib.hid (show spanA letB t 1 + 1 = spanA letB t (q + 1) + (q + 1) by rw [HSP.out, spanA_step hq g1]; omega)
              go_wp2_with fail
              refine (impl_isLetter _ _).mono ?_
              rintro e w' ⟨rfl, rfl⟩
              rw [g1]
              go_wp2_with fail
              go_roundw
              case rel => exact ⟨q + 1, by go_num, by omega, by omega, HS2.out, (by first | rfl | trivial)⟩
              case measure => simp [intOf]; omega
          · have hqI : ¬ (q : Int) < (t.size : Int) := by omega
            have HS0 := Lib.hid (spanA_end (p := letB) (s := t) (i := q) (by omega))
            have hqe : q = 0 + 1 + spanA letB t (0 + 1) := by have h1 := HSP.out; have h2 := HS0.out; rw [Nat.zero_add]; omega
            have hne : ((q : Int) == (t.size : Int)) = true := by rw [beq_iff_eq]; omega
            have HT := Lib.hid (tokA_quote_no h0 G1.out G2.out G3.out hqe (fun h => absurd h hq))
            clear hqe
            go_wp2_with fail
            go_ret
            exact ⟨by rw [HT.out]; rfl, (by first | rfl | trivial)⟩
      · have g3b : ((t[0].toNat : Int) == 39) = false := by rw [beq_eq_false_iff_ne]; omega
        have G3 := Lib.hid g3
        clear g3
        have hX := first_byte h0
        have h1I : (1 : Int) ≤ (t.size : Int) := by omega
        have HT := Lib.hid (tokA_sgn h0 G1.out G2.out G3.out)
        have HC := Lib.hid (lib_Contains1 t[0] w)
        rcases g4 : sgnB t[0] with _ | _
        · rw [g4] at HT HC
          clear g4
          go_enter Try.func135, Try.ntmps135
          go_wp2_with fail
          refine (impl_isLetter _ _).mono ?_
          rintro e w' ⟨rfl, rfl⟩
          rw [G1.out]
          go_wp2_with fail
          refine (impl_isDigit _ _).mono ?_
          rintro e w' ⟨rfl, rfl⟩
          rw [G2.out]
          go_wp2_with fail
          refine HC.out.mono ?_
          rintro e w' ⟨rfl, rfl⟩
          go_wp2_with fail
          go_ret
          exact ⟨by rw [HT.out]; rfl, (by first | rfl | trivial)⟩
        · rw [g4] at HT HC
          clear g4
          go_enter Try.func135, Try.ntmps135
          go_wp2_with fail
          refine (impl_isLetter _ _).mono ?_
          rintro e w' ⟨rfl, rfl⟩
          rw [G1.out]
          go_wp2_with fail
          refine (impl_isDigit _ _).mono ?_
          rintro e w' ⟨rfl, rfl⟩
          rw [G2.out]
          go_wp2_with fail
          refine HC.out.mono ?_
          rintro e w' ⟨rfl, rfl⟩
          go_wp2_with fail
          go_ret
          exact ⟨by rw [HT.out]; rfl, (by first | rfl | trivial)⟩
    · have G1 := Lib.hid g1
      have G2 := Lib.hid g2
      clear g1 g2
      go_enter Try.func135, Try.ntmps135
      go_wp2_with fail
      refine (impl_isLetter _ _).mono ?_
      rintro e w' ⟨rfl, rfl⟩
      rw [G1.out]
      go_wp2_with fail
      refine (impl_isDigit _ _).mono ?_
      rintro e w' ⟨rfl, rfl⟩
      rw [G2.out]
      go_wp2_with fail
      obtain ⟨wo, rfl⟩ : ∃ wo : World, wo = w := ⟨_, rfl⟩
      go_loopw [3] (fun i wr => ∃ q : Nat, i = .int .i64 q ∧ 1 ≤ q ∧ q ≤ t.size ∧ spanA digB t 1 + 1 = spanA digB t q + q ∧ wr = wo) (fun i _ => t.size - (intOf i).toNat)
      case atStart => exact ⟨1, rfl, Nat.le_refl _, by omega, rfl, rfl⟩
      case round =>
        obtain ⟨q, rfl, hkq, hqs, hsp, rfl⟩ := hrel
        have HSP := Lib.hid hsp
        clear hsp
        by_cases hq : q < t.size
        · have hqI : (q : Int) < (t.size : Int) := by omega
          rcases g1 : digB t[q] with _ | _
          · have HS0 := Lib.hid (spanA_stop (p := digB) hq g1)
            go_wp2_with fail
            refine (impl_isDigit _ _).mono ?_
            rintro e w' ⟨rfl, rfl⟩
            rw [g1]
            have HT := Lib.hid (show tokA t 0 = q by
              have h1 := HSP.out
              have h2 := HS0.out
              have h3 := tokA_dig h0 G1.out G2.out
              rw [Nat.zero_add] at h3
              omega)
            go_wp2_with fail
            go_ret
            exact ⟨by rw [HT.out]; rfl, (by first | rfl | trivial)⟩
          · have HS2 := Lib.hid (show spanA digB t 1 + 1 = spanA digB t (q + 1) + (q + 1) by rw [HSP.out, spanA_step hq g1]; omega)
            go_wp2_with fail
            refine (impl_isDigit _ _).mono ?_
            rintro e w' ⟨rfl, rfl⟩
            rw [g1]
            go_wp2_with fail
            go_roundw
            case rel => exact ⟨q + 1, by go_num, by omega, by omega, HS2.out, (by first | rfl | trivial)⟩
            case measure => simp [intOf]; omega
        · have hqI : ¬ (q : Int) < (t.size : Int) := by omega
          have HS0 := Lib.hid (spanA_end (p := digB) (s := t) (i := q) (by omega))
          have HT := Lib.hid (show tokA t 0 = q by
            have h1 := HSP.out
            have h2 := HS0.out
            have h3 := tokA_dig h0 G1.out G2.out
            rw [Nat.zero_add] at h3
            omega)
          go_wp2_with fail
          go_ret
          exact ⟨by rw [HT.out]; rfl, (by first | rfl | trivial)⟩
  · have G1 := Lib.hid g1
    clear g1
    go_enter Try.func135, Try.ntmps135
    go_wp2_with fail
    refine (impl_isLetter _ _).mono ?_
    rintro e w' ⟨rfl, rfl⟩
    rw [G1.out]
    go_wp2_with fail
    obtain ⟨wo, rfl⟩ : ∃ wo : World, wo = w := ⟨_, rfl⟩
    go_loopw [3] (fun i wr => ∃ q : Nat, i = .int .i64 q ∧ 1 ≤ q ∧ q ≤ t.size ∧ spanA (fun c => letB c || digB c) t 1 + 1 = spanA (fun c => letB c || digB c) t q + q ∧ wr = wo) (fun i _ => t.size - (intOf i).toNat)
    case atStart => exact ⟨1, rfl, Nat.le_refl _, by omega, rfl, rfl⟩
    case round =>
      obtain ⟨q, rfl, hkq, hqs, hsp, rfl⟩ := hrel
      have HSP := Lib.hid hsp
      clear hsp
      by_cases hq : q < t.size
      · have hqI : (q : Int) < (t.size : Int) := by omega
        rcases g1 : letB t[q] with _ | _
        · rcases g2 : digB t[q] with _ | _
          · have HS0 := Lib.hid (spanA_stop (p := (fun c => letB c || digB c)) hq (by rw [g1, g2]; rfl))
            go_wp2_with fail
            refine (impl_isLetter _ _).mono ?_
            rintro e w' ⟨rfl, rfl⟩
            rw [g1]
            go_wp2_with fail
            refine (impl_isDigit _ _).mono ?_
            rintro e w' ⟨rfl, rfl⟩
            rw [g2]
            have HT := Lib.hid (show tokA t 0 = q by
              have h1 := HSP.out
              have h2 := HS0.out
              have h3 := tokA_let h0 G1.out
              rw [Nat.zero_add] at h3
              omega)
            go_wp2_with fail
            go_ret
            exact ⟨by rw [HT.out]; rfl, (by first | rfl | trivial)⟩
          · have HS2 := Lib.hid (show spanA (fun c => letB c || digB c) t 1 + 1 = spanA (fun c => letB c || digB c) t (q + 1) + (q + 1) by rw [HSP.out, spanA_step hq (by rw [g1, g2]; rfl)]; omega)
            go_wp2_with fail
            refine (impl_isLetter _ _).mono ?_
            rintro e w' ⟨rfl, rfl⟩
            rw [g1]
            go_wp2_with fail
            refine (impl_isDigit _ _).mono ?_
            rintro e w' ⟨rfl, rfl⟩
            rw [g2]
            go_wp2_with fail
            go_roundw
            case rel => exact ⟨q + 1, by go_num, by omega, by omega, HS2.out, (by first | rfl | trivial)⟩
            case measure => simp [intOf]; omega
        · have HS2 := Lib.hid (show spanA (fun c => letB c || digB c) t 1 + 1 = spanA (fun c => letB c || digB c) t (q + 1) + (q + 1) by rw [HSP.out, spanA_step hq (by rw [g1]; rfl)]; omega)
          go_wp2_with fail
          refine (impl_isLetter _ _).mono ?_
          rintro e w' ⟨rfl, rfl⟩
          rw [g1]
          go_wp2_with fail
          go_roundw
          case rel => exact ⟨q + 1, by go_num, by omega, by omega, HS2.out, (by first | rfl | trivial)⟩
          case measure => simp [intOf]; omega
      · have hqI : ¬ (q : Int) < (t.size : Int) := by omega
        have HS0 := Lib.hid (spanA_end (p := (fun c => letB c || digB c)) (s := t) (i := q) (by omega))
        have HT := Lib.hid (show tokA t 0 = q by
          have h1 := HSP.out
          have h2 := HS0.out
          have h3 := tokA_let h0 G1.out
          rw [Nat.zero_add] at h3
          omega)
        go_wp2_with fail
        go_ret
        exact ⟨by rw [HT.out]; rfl, (by first | rfl | trivial)⟩
end Go.Proofs.Ythfkfdfcgldbeaa
