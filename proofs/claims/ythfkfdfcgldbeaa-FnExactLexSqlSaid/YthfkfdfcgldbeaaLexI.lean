/- The walks of the program's cutting into tokens, and of both LexSql. -/
import Derived.Test.YthfkfdfcgldbeaaLexT
import Derived.Test.YthfkfdfcgldbeaaRg
namespace Go.Proofs.Ythfkfdfcgldbeaa
open Go.RowKit Go.Deep
set_option linter.unusedVariables false
set_option maxRecDepth 100000
theorem strNil {s : ByteArray} (h : s.size = 0) : s.toList = [] := by
  rw [Lib.toList_data]; exact List.eq_nil_of_length_eq_zero (by simpa using h)
theorem strSome {s : ByteArray} (h : s.size ≠ 0) : s.toList.isEmpty = false := by
  rw [Lib.toList_data]
  have : s.data.toList.length ≠ 0 := by simpa using h
  cases hs : s.data.toList with
  | nil => rw [hs] at this; simp at this
  | cons a r => rfl
def strLen : Value → Nat
  | .string s => s.size
  | _ => 0
theorem cut_size (s : ByteArray) (i : Nat) : (s.extract i s.size).size = s.size - i := by rw [ByteArray.size_extract]; simp
theorem call_isLong1 (args : Array Value) (W : World) : (callFunc 134 args).run Try.prog W = .ok (.enter 134 args) W := by kernel_rfl
theorem impl_isLong1 (s : ByteArray) (w : World) : Calls Try.prog 134 #[.string s] w fun e w' => e = .returned (.bool (decide (65536 < s.size))) ∧ w = w' := by
  by_cases h : 65536 < s.size
  · have hI : (65536 : Int) < (s.size : Int) := by omega
    have HV := Lib.hid (decide_eq_true h)
    clear h
    go_enter Try.func134, Try.ntmps134
    go_wp2
    go_ret
    exact ⟨ret_bool (by rw [HV.out]; try simp [*]), rfl⟩
  · have hI : ¬ (65536 : Int) < (s.size : Int) := by omega
    have HV := Lib.hid (decide_eq_false h)
    clear h
    go_enter Try.func134, Try.ntmps134
    go_wp2
    go_ret
    exact ⟨ret_bool (by rw [HV.out]; try simp [*]), rfl⟩
theorem impl_isLong (A : Option Addr) (n cp : Nat) (l : List ByteArray) (w : World) (hl : l.length = n) (hn : n ≤ 1099511627776) (hr : Rd w A (l.map fun c => Value.string c)) :
    Calls Try.prog 88 #[.slice A n cp] w fun e w' => e = .returned (.bool (l.any fun s => decide (65536 < s.size))) ∧ w = w' := by
  have HC := Lib.hid (containsFunc_texts 134 (fun s => decide (65536 < s.size)) call_isLong1 A n cp l w (fun s _ W => impl_isLong1 s W) hl hn hr)
  generalize (l.any fun s => decide (65536 < s.size)) = r at HC ⊢
  clear hl hr
  go_enter Try.func88, Try.ntmps88
  go_wp2_with fail
  refine HC.out.mono ?_
  rintro e w' ⟨rfl, rfl⟩
  go_wp2_with fail
  go_ret
  exact ⟨rfl, rfl⟩
set_option maxHeartbeats 4000000 in
theorem impl_lex (s : ByteArray) (w : World) (hs : s.size ≤ 65536) :
    Calls Try.prog 89 #[.string s] w fun e w' => ∃ v, e = .returned (.tuple #[v, .int .i64 (lexA s 0 []).2]) ∧ (w'.ownsRow w.heap.size 9 1 v (lexA s 0 []).1.length ((lexA s 0 []).1.map fun c => Value.string c)) ∧ Ext w w' := by
  have HI := Lib.hid (World.ownsRow_lit (base := w.heap.size) (e := 9) (size := 1) w #[] 0 (Nat.le_refl _) (by unfold maxLen; omega) rfl)
  obtain ⟨i0, hi, hz0, hz1, hz2⟩ := info_parts info_StringS
  generalize hO : lexA s 0 [] = O
  have HO1 := Lib.hid hO
  clear hO
  go_enter Try.func89, Try.ntmps89
  go_wp2_with fail
  go_loopw [0, 4] (fun u v wr => ∃ (t : ByteArray) (acc : List ByteArray), u = .string t ∧ t.size ≤ s.size ∧ acc.length ≤ 500 ∧ lexA t 0 acc = O ∧ wr.ownsRow w.heap.size 9 1 v acc.length (acc.map fun c => Value.string c) ∧ Ext w wr) (fun u _ _ => strLen u)
  case atStart => exact ⟨s, [], rfl, Nat.le_refl _, by simp, HO1.out, HI.out, (by repeat (first | exact Ext.refl _ | assumption | refine Ext.alloc ?_ _ | refine Ext.drewN ?_ _ | refine Ext.drew ?_ | refine Ext.set ?_ (by dsimp only; omega) _ | refine Ext.trans ?_ (by assumption)))⟩
  case round =>
    obtain ⟨t, acc, rfl, hts, hacc, hf, ho, hE⟩ := hrel
    have HF := Lib.hid hf
    have HO := Lib.hid ho
    have HE := Lib.hid hE
    obtain ⟨A0, cap0, rfl⟩ := own_slice ho
    clear hf ho hE HI HO1
    by_cases h0 : t.size = 0
    · have hb := strNil h0
      have HV := Lib.hid (HF.out.symm.trans (lexA_nil h0))
      clear h0
      go_wp2_with fail
      go_ret2
      rw [HV.out]
      exact ⟨_, rfl, HO.out, HE.out⟩
    have hb := strSome h0
    have hp : 0 < t.size := by omega
    by_cases h32 : t[0].toNat = 32
    · have hbb : ((t[0].toNat : Int) == 32) = true := by rw [h32]; rfl
      have HF2 := Lib.hid (show lexA (t.extract 1 t.size) 0 acc = O by rw [lexA_cut, ← lexA_blank hp h32]; exact HF.out)
      have h1I : (1 : Int) ≤ (t.size : Int) := by omega
      have hcs := cut_size t 1
      have HCS := Lib.hid hcs
      clear h32 h0 hcs
      go_wp2_with fail
      go_roundw
      case rel => exact ⟨_, acc, rfl, by rw [HCS.out]; omega, hacc, HF2.out, HO.out, HE.out⟩
      case measure => simp [strLen]; omega
    have hbb : ((t[0].toNat : Int) == 32) = false := by rw [beq_eq_false_iff_ne]; omega
    have HT := Lib.hid (impl_tokenAt t wr hp (by omega))
    have hle := tokA_le t 0
    have H32 := Lib.hid h32
    have hF1 := fun h => lexA_form (o := acc) hp h32 h
    have hF2 := fun h1 h2 => lexA_many (o := acc) hp h32 h1 h2
    have hF3 := fun h1 h2 => lexA_tok (o := acc) hp h32 h1 h2
    generalize hn : tokA t 0 = n at HT hle hF1 hF2 hF3
    rw [Nat.zero_add] at hF3
    have HF1 := Lib.hid hF1
    have HF2 := Lib.hid hF2
    have HF3 := Lib.hid hF3
    clear h32 h0 hn hF1 hF2 hF3
    by_cases hn0 : n = 0
    · have HV := Lib.hid (HF.out.symm.trans (HF1.out hn0))
      subst hn0
      go_wp2_with fail
      refine HT.out.mono ?_
      rintro e w' ⟨rfl, rfl⟩
      go_wp2_with fail
      go_ret2
      rw [HV.out]
      exact ⟨_, rfl, World.ownsRow_nil _ _ _ _, HE.out⟩
    have hnI : ((n : Int) == 0) = false := by rw [beq_eq_false_iff_ne]; omega
    by_cases h500 : acc.length = 500
    · have h5I : ((acc.length : Int) == 500) = true := by rw [h500]; rfl
      have HV := Lib.hid (HF.out.symm.trans (HF2.out hn0 h500))
      clear h500
      go_wp2_with fail
      refine HT.out.mono ?_
      rintro e w' ⟨rfl, rfl⟩
      go_wp2_with fail
      go_ret2
      rw [HV.out]
      exact ⟨_, rfl, World.ownsRow_nil _ _ _ _, HE.out⟩
    have h5I : ((acc.length : Int) == 500) = false := by rw [beq_eq_false_iff_ne]; omega
    have HF4 := Lib.hid (show lexA (t.extract n t.size) 0 (acc ++ [t.extract 0 n]) = O by rw [lexA_cut, ← HF3.out hn0 h500]; exact HF.out)
    have hnp : 0 < n := by omega
    have hn5 : acc.length + 1 ≤ 500 := by omega
    have HCS := Lib.hid (cut_size t n)
    clear h500 hn0
    go_wp2_with fail
    refine HT.out.mono ?_
    rintro e w' ⟨rfl, rfl⟩
    go_wp2_with fail
    have hn1 : (0 : Int) ≤ (n : Int) := by omega
    have hn2 : (n : Int) ≤ (t.size : Int) := by omega
    refine rg_startS (fun _ => True) (by kernel_rfl) trivial (fun hS0 => ?_)
    have HO := Lib.hid (own_ext HO.out (Ext.refl wr).drew)
    have HE := Lib.hid HE.out.drew
    generalize wr.drew = w1 at HO HE ⊢
    (refine rg_take (v := ?_) 0 rfl (by kernel_rfl) (by kernel_rfl) (by kernel_rfl) (fun _ _ _ h => h) (by rfl) (by assumption) (fun W hW => ?_) ?_; rotate_left; (focus (go_simp; try with_reducible rfl)); (try simp only [List.setIfInBounds_toArray, List.set_cons_succ, List.set_cons_zero]))
    (refine rg_take (v := ?_) 1 rfl (by kernel_rfl) (by kernel_rfl) (by kernel_rfl) (fun _ _ _ h => h) (by rfl) (by assumption) (fun W hW => ?_) ?_; rotate_left; (focus (go_simp; try with_reducible rfl)); (try simp only [List.setIfInBounds_toArray, List.set_cons_succ, List.set_cons_zero]))
    (refine rg_take (v := ?_) 2 rfl (by kernel_rfl) (by kernel_rfl) (by kernel_rfl) (fun _ _ _ h => h) (by rfl) (by assumption) (fun W hW => ?_) ?_; rotate_left; (focus (go_simp; try with_reducible rfl)); (try simp only [List.setIfInBounds_toArray, List.set_cons_succ, List.set_cons_zero]))
    (refine rg_take (v := ?_) 3 rfl (by kernel_rfl) (by kernel_rfl) (by kernel_rfl) (fun _ _ _ h => h) (by rfl) (by assumption) (fun W hW => ?_) ?_; rotate_left; (focus (go_simp; try with_reducible rfl)); (try simp only [List.setIfInBounds_toArray, List.set_cons_succ, List.set_cons_zero]))
    (refine rg_take (v := ?_) 6 rfl (by kernel_rfl) (by kernel_rfl) (by kernel_rfl) (fun _ _ _ h => h) (by rfl) (by assumption) (fun W hW => ?_) ?_; rotate_left; (focus (go_simp; try with_reducible rfl)); (try simp only [List.setIfInBounds_toArray, List.set_cons_succ, List.set_cons_zero]))
    (refine rg_take (v := ?_) 7 rfl (by kernel_rfl) (by kernel_rfl) (by kernel_rfl) (fun _ _ _ h => h) (by rfl) (by assumption) (fun W hW => ?_) ?_; rotate_left; (focus (go_simp; try with_reducible rfl)); (try simp only [List.setIfInBounds_toArray, List.set_cons_succ, List.set_cons_zero]))
    (refine rg_take (v := ?_) 8 rfl (by kernel_rfl) (by kernel_rfl) (by kernel_rfl) (fun _ _ _ h => h) (by rfl) (by assumption) (fun W hW => ?_) ?_; rotate_left; (focus (go_simp; try with_reducible rfl)); (try simp only [List.setIfInBounds_toArray, List.set_cons_succ, List.set_cons_zero]))
    generalize hX : t.extract 0 n = X at HF4 ⊢
    clear hX
    (refine rg_one 4 (by kernel_rfl) rfl (by rfl) (fun K hK => ?_); go_simp)
    refine hK _ _ trivial (fun _ => ?_)
    clear hK K
    try simp only [List.setIfInBounds_toArray, List.set_cons_succ, List.set_cons_zero]
    have hle1 := HE.out.le
    have hrow := own_ext HO.out ((Ext.refl w1).alloc (.cells #[.string X] 9))
    refine rg_one 5 (by kernel_rfl) rfl (by rfl) (fun K hK => ?_)
    refine wp_append_own _ (.tmp 23) (.tmp 27) 66 rfl w.heap.size 9 i0 (.string ByteArray.empty) 1 16 Try.underlying66 hi hz0 hz1 hz2 rfl (by decide) _ acc.length _ rfl hrow ⟨w1.heap.size, 0, none⟩ 1 1 [.string X] rfl rfl (rd_add (Blk.new w1 _ _).rd) (by intro u hu; simp at hu; subst hu; rfl) (by unfold maxLen; omega) (by omega) (by simp; omega) ?_
    intro v4 w4 ho4 hg4 _
    have HO4 := Lib.hid ho4
    have E4 := Lib.hid ((HE.out.alloc (.cells #[.string X] 9)).grown hg4 (own_blk hrow))
    refine hK _ _ trivial (fun _ => ?_)
    clear hK K hrow hg4 hle1
    try dsimp only
    (refine rg_take (v := ?_) 9 rfl (by kernel_rfl) (by kernel_rfl) (by kernel_rfl) (fun _ _ _ h => h) (by rfl) (by assumption) (fun W hW => ?_) ?_; rotate_left; (focus (go_simp; try with_reducible rfl)); (try simp only [List.setIfInBounds_toArray, List.set_cons_succ, List.set_cons_zero]))
    (refine rg_take (v := ?_) 10 rfl (by kernel_rfl) (by kernel_rfl) (by kernel_rfl) (fun _ _ _ h => h) (by rfl) (by assumption) (fun W hW => ?_) ?_; rotate_left; (focus (go_simp; try with_reducible rfl)); (try simp only [List.setIfInBounds_toArray, List.set_cons_zero]))
    refine rg_done (by kernel_rfl) ?_
    obtain ⟨A4, cap4, rfl⟩ := own_slice ho4
    clear ho4
    go_wp2_with fail
    go_roundw
    case rel => exact ⟨_, acc ++ [X], rfl, by rw [HCS.out]; omega, by rw [List.length_append]; exact hn5, HF4.out, by rw [List.length_append, List.map_append]; exact HO4.out, E4.out⟩
    case measure => simp [strLen]; omega
set_option maxHeartbeats 2000000 in
theorem impl_LexSql (s : ByteArray) (w : World) (hs : s.size ≤ maxLen) :
    Calls Try.prog 43 #[.string s] w (LxPost w 9 (lexV s)) := by
  have hB := Blk.new w 9 [.string s]
  have HC := Lib.hid (impl_isLong (some ⟨w.heap.size, 0, none⟩) 1 1 [s] (w.alloc (.cells #[.string s] 9)) rfl (by omega) hB.rd)
  have HE := Lib.hid (show Ext w (w.alloc (.cells #[.string s] 9)) from (by repeat (first | exact Ext.refl _ | assumption | refine Ext.alloc ?_ _ | refine Ext.drewN ?_ _ | refine Ext.drew ?_ | refine Ext.set ?_ (by dsimp only; omega) _ | refine Ext.trans ?_ (by assumption))))
  clear hB
  by_cases h : 65536 < s.size
  · have hb : ([s].any fun s => decide (65536 < s.size)) = true := by simp [h]
    rw [hb] at HC
    have HV := Lib.hid (lexV_long h)
    clear h hb hs
    go_enter Try.func43, Try.ntmps43
    go_wp2_with fail
    refine HC.out.mono ?_
    rintro e w' ⟨rfl, rfl⟩
    go_wp2_with fail
    go_ret2
    exact .of HV.out (World.ownsRow_nil _ _ _ _) HE.out
  · have hb : ([s].any fun s => decide (65536 < s.size)) = false := by simp [h]
    rw [hb] at HC
    have HV := Lib.hid (lexV_short h)
    have hL := impl_lex s (w.alloc (.cells #[.string s] 9)) (by omega)
    rw [← HV.out] at hL
    generalize lexV s = V at hL ⊢
    have HL := Lib.hid hL
    clear h hb hs hL HV
    go_enter Try.func43, Try.ntmps43
    go_wp2_with fail
    refine HC.out.mono ?_
    rintro e w' ⟨rfl, rfl⟩
    go_wp2_with fail
    refine HL.out.mono ?_
    rintro e w1 ⟨v, rfl, O1, E1⟩
    have HO1 := Lib.hid (own_base O1 HE.out.le)
    have HE1 := Lib.hid (HE.out.trans E1)
    clear O1 E1
    go_wp2_with fail
    go_ret2
    obtain ⟨l, c⟩ := V
    exact .of rfl HO1.out HE1.out
set_option maxHeartbeats 2000000 in
theorem spec_LexSql (s : ByteArray) (w : World) (hs : s.size ≤ maxLen) :
    Calls Try.prog 42 #[.string s] w (LxPost w 9 (lexV s)) := by
  by_cases h : 65536 < s.size
  · have hI : (65536 : Int) < (s.size : Int) := by omega
    have HV := Lib.hid (lexV_long h)
    have HI := Lib.hid (World.ownsRow_lit (base := w.heap.size) (e := 9) (size := 1) w #[] 0 (Nat.le_refl _) (by unfold maxLen; omega) rfl)
    clear h hs
    go_enter Try.func42, Try.ntmps42
    go_wp2_with fail
    go_ret2
    exact .of HV.out HI.out (by repeat (first | exact Ext.refl _ | assumption | refine Ext.alloc ?_ _ | refine Ext.drewN ?_ _ | refine Ext.drew ?_ | refine Ext.set ?_ (by dsimp only; omega) _ | refine Ext.trans ?_ (by assumption)))
  · have hI : ¬ (65536 : Int) < (s.size : Int) := by omega
    have HV := Lib.hid (lexV_short h)
    have hL := spec_l10Lex s w (by omega)
    rw [← HV.out] at hL
    generalize lexV s = V at hL ⊢
    unfold LxPost at hL
    have HL := Lib.hid hL
    clear h hs hL HV
    go_enter Try.func42, Try.ntmps42
    go_wp2_with fail
    refine HL.out.mono ?_
    rintro e w1 ⟨v, rfl, O1, E1⟩
    have HO1 := Lib.hid O1
    have HE1 := Lib.hid E1
    clear O1 E1
    go_wp2_with fail
    go_ret2
    obtain ⟨l, c⟩ := V
    exact .of rfl HO1.out HE1.out
end Go.Proofs.Ythfkfdfcgldbeaa
