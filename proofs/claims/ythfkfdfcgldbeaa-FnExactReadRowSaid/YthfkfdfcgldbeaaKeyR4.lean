/- The walks of the reference's ReadKey (printed by gen_keyr4.py). -/
import Derived.Test.YthfkfdfcgldbeaaKeyR3
namespace Go.Proofs.Ythfkfdfcgldbeaa
open Go.RowKit Go.Deep
set_option linter.unusedVariables false
set_option maxRecDepth 100000
theorem ba_eqK {a b : ByteArray} (h : a.data.toList = b.data.toList) : a = b := by
  obtain ⟨a⟩ := a; obtain ⟨b⟩ := b
  simp at h; rw [h]
theorem extract_listK (s : ByteArray) (a b : Nat) : (s.extract a b).data.toList = (s.data.toList.drop a).take (b - a) := by
  rw [ByteArray.data_extract]; simp [List.take_drop]
theorem drop_atK (s : ByteArray) (k : Nat) (h : k < s.size) : s.data.toList.drop k = s[k] :: s.data.toList.drop (k + 1) := by
  have hk : k < s.data.toList.length := by simpa using h
  rw [List.drop_eq_getElem_cons hk]
  simp only [Array.getElem_toList]; rfl
theorem drop_lenK (s : ByteArray) (k : Nat) : (s.data.toList.drop k).length = s.size - k := by
  rw [List.length_drop, Array.length_toList]; rfl
theorem drop_getK (s : ByteArray) (k m : Nat) (hk : k ≤ m) (h : m < s.size) (hh : m - k < (s.data.toList.drop k).length) : (s.data.toList.drop k)[m - k] = s[m] := by
  rw [List.getElem_drop]
  simp only [Array.getElem_toList]
  have e : k + (m - k) = m := by omega
  simp only [e]; rfl
/-- what l01ReadKey hands back -/
def K1Post (w : World) (T : TypeId) (o : Option (List CValue)) (e : Ending) (w' : World) : Prop :=
  ∃ v, e = .returned (.tuple #[v, .bool o.isSome]) ∧ w'.ownsRow w.heap.size T 3 v (o.getD []).length ((o.getD []).flatMap CValue.cs) ∧ Ext w w'
theorem K1Post.no {w w' : World} {T : TypeId} {o : Option (List CValue)} {v : Value} (ho : o = none) (h : w'.ownsRow w.heap.size T 3 v 0 []) (E : Ext w w') : K1Post w T o (.returned (.tuple #[v, .bool false])) w' := by
  subst ho; exact ⟨v, rfl, h, E⟩
theorem K1Post.yes {w w' : World} {T : TypeId} {o : Option (List CValue)} {l : List CValue} {v : Value} (ho : o = some l) (h : w'.ownsRow w.heap.size T 3 v l.length (l.flatMap CValue.cs)) (E : Ext w w') : K1Post w T o (.returned (.tuple #[v, .bool true])) w' := by
  subst ho; exact ⟨v, rfl, h, E⟩
theorem kr_no {j : Nat} {c : UInt8} {r : List UInt8} {acc : List CValue} {O : Option (List CValue)} (h : (kR (j + 1) (c :: r)).map (acc ++ ·) = O) (hf : rvF c r = true) : O = none := by
  rw [kR_cons, if_pos hf] at h; rw [← h]; rfl
theorem kr_go {j : Nat} {c : UInt8} {r : List UInt8} {acc : List CValue} {O : Option (List CValue)} (h : (kR (j + 1) (c :: r)).map (acc ++ ·) = O) (hf : rvF c r = false) : (kR j (rvR c r)).map ((acc ++ [rvV c r]) ++ ·) = O := by
  rw [kR_cons, if_neg (by rw [hf]; decide)] at h
  rw [← h, Option.map_map]
  congr 1
  funext x; simp
theorem own_neK {w : World} {B n size : Nat} {e : TypeId} {v : Value} {xs : List Value} (h : w.ownsRow B e size v n xs) : v.ownBlock ≠ some w.heap.size := by
  obtain ⟨_, h | ⟨g, cap, cur, h, _, hh, _⟩⟩ := h
  · rw [h.1]; intro e; cases e
  · rw [h]
    intro e
    have e : some g = some w.heap.size := e
    injection e with e
    have := (Array.getElem?_eq_some_iff.1 hh).1
    omega
theorem val_other {k : Int} {t : ByteArray} (h0 : k ≠ 0) (h1 : k ≠ 1) (h2 : k ≠ 2) : valB k 0 t = false := by
  unfold valB; rw [if_neg h0, if_neg h1, if_neg h2]
set_option maxHeartbeats 4000000 in
theorem spec_l01ReadKey (s : ByteArray) (w : World) (hs : s.size ≤ 65536) :
    Calls Try.prog 71 #[.string s] w (K1Post w 30 (keyO s.data.toList)) := by
  have HI := Lib.hid (World.ownsRow_lit (base := w.heap.size) (e := 30) (size := 3) w #[] 0 (Nat.le_refl _) (by unfold maxLen; omega) rfl)
  obtain ⟨i0, hi, hz0, hz1, hz2⟩ := info_parts info_ValueK
  have HO0 := Lib.hid (show kR s.size s.data.toList = keyO s.data.toList from by unfold keyO; rw [show s.data.toList.length = s.size from by rw [Array.length_toList]; rfl])
  generalize keyO s.data.toList = O at HO0 ⊢
  go_enter Try.func71, Try.ntmps71
  go_wp2_with fail
  go_loopw [5, 4] (fun p v wr => ∃ (j q : Nat) (acc : List CValue), q ≤ s.size ∧ s.size - q ≤ j ∧ p = .int .i64 q ∧ acc.length ≤ q ∧ (kR j (s.data.toList.drop q)).map (acc ++ ·) = O ∧ wr.ownsRow w.heap.size 30 3 v acc.length (acc.flatMap CValue.cs) ∧ Ext w wr) (fun p _ _ => s.size - (intOf p).toNat)
  case atStart => exact ⟨s.size, 0, [], Nat.zero_le _, by omega, rfl, Nat.le_refl _, (by rw [List.drop_zero, HO0.out]; simp), HI.out, (by repeat (first | exact Ext.refl _ | assumption | refine Ext.alloc ?_ _ | refine Ext.drewN ?_ _ | refine Ext.drew ?_ | refine Ext.set ?_ (by dsimp only; omega) _ | refine Ext.trans ?_ (by assumption)))⟩
  case round =>
    obtain ⟨j, q, acc, hq, hj, rfl, hak, hk, ho, hE⟩ := hrel
    obtain ⟨wo, rfl⟩ : ∃ wo : World, wo = wr := ⟨_, rfl⟩
    have HO := Lib.hid ho
    have HK := Lib.hid hk
    have HEo := Lib.hid hE
    clear ho hk hE HI HO0
    by_cases hqs : q = s.size
    · have HN := Lib.hid (show O = some acc by
        rw [← HK.out, show s.data.toList.drop q = [] from List.eq_nil_of_length_eq_zero (by rw [drop_lenK]; omega), kR_nil]; simp)
      have hqI : ¬ (q : Int) < (s.size : Int) := by omega
      clear hqs
      go_wp2_with fail
      go_ret2
      exact .yes HN.out HO.out HEo.out
    have hq2 : q < s.size := by omega
    have hq3 : (q : Int) < (s.size : Int) := by omega
    obtain ⟨j, rfl⟩ : ∃ i, j = i + 1 := ⟨j - 1, by omega⟩
    have hj2 : s.size - (q + 1) ≤ j := by omega
    rw [drop_atK s q hq2] at HK
    have h8 : s[q].toNat < 256 := s[q].toNat_lt
    have hk0 : 0 ≤ q := Nat.zero_le _
    generalize hc : s[q] = c at HK h8
    have HC := Lib.hid hc
    have HLR := Lib.hid (drop_lenK s (q + 1))
    have hwo := HEo.out.le
    clear hc hj hqs
    by_cases h1 : c.toNat = 1
    · obtain ⟨eV, eR, eF⟩ := rv_else (c := c) (r := (s.data.toList.drop (q + 1))) (by omega) (by omega)
      rw [h1] at eV eF
      have HRV := Lib.hid (show rvV c (s.data.toList.drop (q + 1)) = ⟨0, 0, ⟨#[]⟩⟩ from eV)
      have HRR := Lib.hid eR
      have HRF := Lib.hid (show rvF c (s.data.toList.drop (q + 1)) = !valB 0 0 ⟨#[]⟩ from eF)
      have HSZ := Lib.hid (show (⟨#[]⟩ : ByteArray).size ≤ maxLen from by decide)
      have h1c : s[q].toNat = 1 := by rw [HC.out]; exact h1
      clear h1 eV eR eF h8
      have HX := Lib.hid (Blk.new wo 30 [.int .i64 0, .int .i64 0, .string ⟨#[]⟩])
      have HOa := Lib.hid (own_ext HO.out ((Ext.refl wo).alloc (.cells #[.int .i64 0, .int .i64 0, .string ⟨#[]⟩] 30)))
      have HEa := Lib.hid (HEo.out.alloc (.cells #[.int .i64 0, .int .i64 0, .string ⟨#[]⟩] 30))
      clear HO HEo
      obtain ⟨x0, x1, x2⟩ := HX.out.cells3v
      have HO := Lib.hid (spec_ValueOK 0 0 ⟨#[]⟩ (wo.alloc (.cells #[.int .i64 0, .int .i64 0, .string ⟨#[]⟩] 30)) HSZ.out)
      go_wp2_with fail
      clear x0 x1 x2
      have HVb := HX
      have HOb := HOa
      have HEb := HEa
      generalize wo.alloc (.cells #[.int .i64 0, .int .i64 0, .string ⟨#[]⟩] 30) = w4 at HO HVb HOb HEb ⊢
      generalize wo.heap.size = x at HVb ⊢
      refine HO.out.mono ?_
      rintro e w5 ⟨rfl, E5⟩
      have HO5 := Lib.hid (own_ext HOb.out E5)
      have HV5 := Lib.hid (HVb.out.ext E5)
      have HE5 := Lib.hid (HEb.out.trans E5)
      clear HO HOb HVb HEb E5
      obtain ⟨v0, v1, v2⟩ := HV5.out.cells3v
      rcases hv : valB 0 0 ⟨#[]⟩ with _ | _
      · have HNO := Lib.hid (kr_no HK.out (by rw [HRF.out, hv]; rfl))
        have HNn := Lib.hid (World.ownsRow_lit (base := w.heap.size) (e := 30) (size := 3) w5 #[] 0 HE5.out.le (by unfold maxLen; omega) rfl)
        clear hv
        go_wp2_with fail
        go_ret2
        exact .no HNO.out HNn.out (HE5.out.alloc _)
      · have HGO := Lib.hid (kr_go HK.out (by rw [HRF.out, hv]; rfl))
        rw [HRV.out, HRR.out] at HGO
        have hle5 := HE5.out.le
        have hrow := own_ext HO5.out ((Ext.refl w5).alloc (.cells #[.int .i64 0, .int .i64 0, .string ⟨#[]⟩] 30))
        clear hv
        go_wp2_with (at_builtin; refine wpList_append_own _ rfl (.tmp 72) (.tmp 74) 42 rfl w.heap.size 30 i0 (Value.agg #[.int .i64 0, .int .i64 0, .string ByteArray.empty]) 3 32 Try.underlying42 hi hz0 hz1 hz2 rfl (by decide) _ acc.length _ rfl hrow ⟨w5.heap.size, 0, none⟩ 1 1 [.int .i64 0, .int .i64 0, .string ⟨#[]⟩] rfl rfl (rd_add (Blk.new w5 _ _).rd) (by intro u hu; simp at hu; rcases hu with rfl | rfl | rfl <;> rfl) (by unfold maxLen; omega) (by omega) (by simp; omega) ?_)
        intro v6 w6 ho6 hg6 _
        have HO6 := Lib.hid ho6
        have E6 : Ext w w6 := (HE5.out.alloc _).grown hg6 (own_blk hrow)
        clear ho6 hg6 hrow
        go_wp2_with fail
        go_roundw
        case rel => exact ⟨j, q + 1, acc ++ [⟨0, 0, ⟨#[]⟩⟩], by omega, by omega, by go_num, by rw [List.length_append]; simp; omega, HGO.out, by rw [List.length_append, List.flatMap_append]; exact HO6.out, E6⟩
        case measure => simp [intOf]; omega
    by_cases h2 : c.toNat = 2
    · obtain ⟨eV, eR, eF⟩ := rv_int (c := c) (r := (s.data.toList.drop (q + 1))) h2
      have h2c : s[q].toNat = 2 := by rw [HC.out]; exact h2
      by_cases h5 : q + 1 + 4 ≤ s.size
      · have h5I : ¬ (s.size : Int) < (q : Int) + 1 + 4 := by omega
        have hX : (s.extract (q + 1) (q + 1 + 4)).data.toList = tkO (s.data.toList.drop (q + 1)) 4 := by
          rw [extract_listK, show q + 1 + 4 - (q + 1) = 4 from by omega]
          unfold tkO; rw [if_pos (by rw [drop_lenK]; omega)]
        have hXs : (s.extract (q + 1) (q + 1 + 4)).size = 4 := by simp; omega
        have hbn := bigN_lt4 (tkO (s.data.toList.drop (q + 1)) 4) (by rw [tkO_len]; exact Nat.le_refl _)
        have hOf := fun W => spec_l01Of (s.extract (q + 1) (q + 1 + 4)) W (by omega)
        rw [hX] at hOf
        have e2 : tkR (s.data.toList.drop (q + 1)) 4 = s.data.toList.drop (q + 1 + 4) := by unfold tkR; rw [if_pos (by rw [drop_lenK]; omega), List.drop_drop]
        have e3 : tkF (s.data.toList.drop (q + 1)) 4 false = false := by unfold tkF; rw [decide_eq_false (by rw [drop_lenK]; omega)]; rfl
        rw [e2] at eR
        rw [e3, Bool.false_or] at eF
        generalize bigN (tkO (s.data.toList.drop (q + 1)) 4) = bn at eV eF hOf hbn
        generalize hXX : s.extract (q + 1) (q + 1 + 4) = X at hOf
        have HXX := Lib.hid hXX
        have HOF := Lib.hid hOf
        have HRV := Lib.hid eV
        have HRR := Lib.hid eR
        have HRF := Lib.hid eF
        have HSZ := Lib.hid (show (⟨#[]⟩ : ByteArray).size ≤ maxLen from by decide)
        have hs1 : (q : Int) + 1 ≤ (q : Int) + 1 + 4 := by omega
        have hs2 : (q : Int) + 1 + 4 ≤ (s.size : Int) := by omega
        have hs0 : (0 : Int) ≤ (q : Int) + 1 := by omega
        have hs4 : (0 : Int) ≤ (q : Int) + 1 + 4 := by omega
        have t1 : ((q : Int) + 1).toNat = q + 1 := by omega
        have t2 : ((q : Int) + 1 + 4).toNat = q + 1 + 4 := by omega
        have E2 : Ext wo (wo.alloc (.cells #[.int .i64 1, .int .i64 ((bn : Int) - 1000000000), .string ⟨#[]⟩] 30)) := (by repeat (first | exact Ext.refl _ | assumption | refine Ext.alloc ?_ _ | refine Ext.drewN ?_ _ | refine Ext.drew ?_ | refine Ext.set ?_ (by dsimp only; omega) _ | refine Ext.trans ?_ (by assumption)))
        have HOb := Lib.hid (own_ext HO.out E2)
        have HEb := Lib.hid (HEo.out.trans E2)
        have HVb := Lib.hid (show Blk (wo.alloc (.cells #[.int .i64 1, .int .i64 ((bn : Int) - 1000000000), .string ⟨#[]⟩] 30)) wo.heap.size 30 [.int .i64 1, .int .i64 ((bn : Int) - 1000000000), .string ⟨#[]⟩] from Blk.new wo 30 [.int .i64 1, .int .i64 ((bn : Int) - 1000000000), .string ⟨#[]⟩])
        have HX := Lib.hid (Blk.new wo 30 [.int .i64 1, .int .i64 0, .string ⟨#[]⟩])
        obtain ⟨x0, x1, x2⟩ := HX.out.cells3v
        have xf := HX.out.frozen 1
        clear hX hXs hOf eV eR eF e2 e3 hXX E2 HO HEo h1 h2 h8
        have HO := Lib.hid (spec_ValueOK 1 ((bn : Int) - 1000000000) ⟨#[]⟩ (wo.alloc (.cells #[.int .i64 1, .int .i64 ((bn : Int) - 1000000000), .string ⟨#[]⟩] 30)) HSZ.out)
        go_wp2_with fail
        rw [HXX.out]
        refine (HOF.out _).mono ?_
        rintro e w3 ⟨rfl, rfl⟩
        go_wp2_with fail
        clear x0 x1 x2 xf HXX HOF HX
        generalize (wo.alloc (.cells #[.int .i64 1, .int .i64 ((bn : Int) - 1000000000), .string ⟨#[]⟩] 30)) = w4 at HO HVb HOb HEb ⊢
        generalize wo.heap.size = x at HVb hwo ⊢
        refine HO.out.mono ?_
        rintro e w5 ⟨rfl, E5⟩
        have HO5 := Lib.hid (own_ext HOb.out E5)
        have HV5 := Lib.hid (HVb.out.ext E5)
        have HE5 := Lib.hid (HEb.out.trans E5)
        clear HO HOb HVb HEb E5
        obtain ⟨v0, v1, v2⟩ := HV5.out.cells3v
        rcases hv : valB 1 ((bn : Int) - 1000000000) ⟨#[]⟩ with _ | _
        · have HNO := Lib.hid (kr_no HK.out (by rw [HRF.out, hv]; rfl))
          have HNn := Lib.hid (World.ownsRow_lit (base := w.heap.size) (e := 30) (size := 3) w5 #[] 0 HE5.out.le (by unfold maxLen; omega) rfl)
          clear hv
          go_wp2_with fail
          go_ret2
          exact .no HNO.out HNn.out (HE5.out.alloc _)
        · have HGO := Lib.hid (kr_go HK.out (by rw [HRF.out, hv]; rfl))
          rw [HRV.out, HRR.out] at HGO
          have hle5 := HE5.out.le
          have hrow := own_ext HO5.out ((Ext.refl w5).alloc (.cells #[.int .i64 1, .int .i64 ((bn : Int) - 1000000000), .string ⟨#[]⟩] 30))
          clear hv
          go_wp2_with (at_builtin; refine wpList_append_own _ rfl (.tmp 72) (.tmp 74) 42 rfl w.heap.size 30 i0 (Value.agg #[.int .i64 0, .int .i64 0, .string ByteArray.empty]) 3 32 Try.underlying42 hi hz0 hz1 hz2 rfl (by decide) _ acc.length _ rfl hrow ⟨w5.heap.size, 0, none⟩ 1 1 [.int .i64 1, .int .i64 ((bn : Int) - 1000000000), .string ⟨#[]⟩] rfl rfl (rd_add (Blk.new w5 _ _).rd) (by intro u hu; simp at hu; rcases hu with rfl | rfl | rfl <;> rfl) (by unfold maxLen; omega) (by omega) (by simp; omega) ?_)
          intro v6 w6 ho6 hg6 _
          have HO6 := Lib.hid ho6
          have E6 : Ext w w6 := (HE5.out.alloc _).grown hg6 (own_blk hrow)
          clear ho6 hg6 hrow
          go_wp2_with fail
          go_roundw
          case rel => exact ⟨j, q + 1 + 4, acc ++ [⟨1, ((bn : Int) - 1000000000), ⟨#[]⟩⟩], by omega, by omega, by go_num, by rw [List.length_append]; simp; omega, HGO.out, by rw [List.length_append, List.flatMap_append]; exact HO6.out, E6⟩
          case measure => simp [intOf]; omega
      · have h5I : (s.size : Int) < (q : Int) + 1 + 4 := by omega
        have HNO := Lib.hid (kr_no HK.out (by rw [eF, show tkF (s.data.toList.drop (q + 1)) 4 false = true from by unfold tkF; rw [decide_eq_true (by rw [drop_lenK]; omega)]; rfl]; rfl))
        have HX := Lib.hid (Blk.new wo 30 [.int .i64 1, .int .i64 0, .string ⟨#[]⟩])
        obtain ⟨x0, x1, x2⟩ := HX.out.cells3v
        have HEb := Lib.hid (HEo.out.alloc (.cells #[.int .i64 1, .int .i64 0, .string ⟨#[]⟩] 30))
        have hNn := World.ownsRow_lit (base := w.heap.size) (e := 30) (size := 3) (wo.alloc (.cells #[.int .i64 1, .int .i64 0, .string ⟨#[]⟩] 30)) #[] 0 HEb.out.le (by unfold maxLen; omega) rfl
        rw [World.size_alloc] at hNn
        have HNn := Lib.hid hNn
        clear hNn
        clear eV eR eF HO HEo h1 h2 h8
        go_wp2_with fail
        go_ret2
        exact .no HNO.out HNn.out (HEb.out.alloc _)
    have h1I : ¬ (c.toNat : Int) - 1 = 0 := by omega
    have h2I : ¬ (c.toNat : Int) - 1 = 1 := by omega
    have hcq : s[q].toNat = c.toNat := by rw [HC.out]
    have hneq := own_neK HO.out
    have HX := Lib.hid (Blk.new wo 30 [.int .i64 ((c.toNat : Int) - 1), .int .i64 0, .string ⟨#[]⟩])
    have HOa := Lib.hid (own_ext HO.out ((Ext.refl wo).alloc (.cells #[.int .i64 ((c.toNat : Int) - 1), .int .i64 0, .string ⟨#[]⟩] 30)))
    have HEa := Lib.hid (HEo.out.alloc (.cells #[.int .i64 ((c.toNat : Int) - 1), .int .i64 0, .string ⟨#[]⟩] 30))
    clear HO HEo
    obtain ⟨x0, x1, x2⟩ := HX.out.cells3v
    go_wp2_with fail
    clear x0 x1 x2 hcq
    generalize wo.alloc (.cells #[.int .i64 ((c.toNat : Int) - 1), .int .i64 0, .string ⟨#[]⟩] 30) = w1 at HX HOa HEa ⊢
    generalize wo.heap.size = x at HX hwo hneq ⊢
    go_loopw [7] (fun p wr => ∃ m : Nat, q + 1 ≤ m ∧ m ≤ s.size ∧ p = .int .i64 m ∧ no0 (s.data.toList.drop (q + 1)) (m - (q + 1)) ∧ wr = w1) (fun p _ => s.size - (intOf p).toNat)
    case atStart => exact ⟨q + 1, Nat.le_refl _, by omega, by go_num, by rw [Nat.sub_self]; exact no0_zero _, rfl⟩
    case round =>
      obtain ⟨m, hm1, hm2, rfl, hz, rfl⟩ := hrel
      have HZ := Lib.hid hz
      clear hz
      by_cases hms : m = s.size
      · have hid : ¬ idx0 (s.data.toList.drop (q + 1)) < ((s.data.toList.drop (q + 1))).length := by
          rw [idx0_end (by rw [drop_lenK, ← hms]; exact HZ.out)]; omega
        have hF : rvF c (s.data.toList.drop (q + 1)) = true := by
          by_cases h3 : c.toNat = 3
          · exact (rv_lack h3 hid).2.2
          · rw [(rv_else (r := (s.data.toList.drop (q + 1))) h2 h3).2.2, val_other (by omega) (by omega) (by omega)]; rfl
        have HNO := Lib.hid (kr_no HK.out hF)
        have HNn := Lib.hid (World.ownsRow_lit (base := w.heap.size) (e := 30) (size := 3) wr #[] 0 HEa.out.le (by unfold maxLen; omega) rfl)
        subst hms
        clear hid hF
        go_wp2_with fail
        go_ret2
        exact .no HNO.out HNn.out (HEa.out.alloc _)
      have hm3 : m < s.size := by omega
      have hm4 : (m : Int) < (s.size : Int) := by omega
      have hm8 : s[m].toNat < 256 := s[m].toNat_lt
      have hlt : m - (q + 1) < ((s.data.toList.drop (q + 1))).length := by rw [drop_lenK]; omega
      have hget := drop_getK s (q + 1) m hm1 hm3 hlt
      by_cases h0 : s[m] = 0
      · have h0n : s[m].toNat = 0 := by rw [h0]; rfl
        have hidx : idx0 (s.data.toList.drop (q + 1)) = m - (q + 1) := idx0_at HZ.out hlt (by rw [hget]; exact h0)
        have hX : (⟨(((s.data.toList.drop (q + 1))).take (idx0 (s.data.toList.drop (q + 1)))).toArray⟩ : ByteArray) = s.extract (q + 1) m := by
          apply ba_eqK; rw [extract_listK, hidx]
        have hD : ((s.data.toList.drop (q + 1))).drop (idx0 (s.data.toList.drop (q + 1)) + 1) = s.data.toList.drop (m + 1) := by
          rw [hidx, List.drop_drop]; congr 1; omega
        have hXs : (s.extract (q + 1) m).size ≤ maxLen := by unfold maxLen; simp; omega
        have hT := fun h3 : c.toNat = 3 => rv_text (r := (s.data.toList.drop (q + 1))) h3 (by rw [hidx]; exact hlt)
        rw [hX, hD] at hT
        generalize hXX : s.extract (q + 1) m = X at hT hXs
        have HXX := Lib.hid hXX
        have HSZ := Lib.hid hXs
        have HRF := Lib.hid (show rvF c (s.data.toList.drop (q + 1)) = !valB ((c.toNat : Int) - 1) 0 X from by
          by_cases h3 : c.toNat = 3
          · rw [(hT h3).2.2, h3]; rfl
          · rw [(rv_else (r := (s.data.toList.drop (q + 1))) h2 h3).2.2, val_other (by omega) (by omega) (by omega), val_other (by omega) (by omega) (by omega)])
        have hv3 : valB ((c.toNat : Int) - 1) 0 X = true → c.toNat = 3 := by
          intro h
          by_cases h3 : c.toNat = 3
          · exact h3
          · rw [val_other (by omega) (by omega) (by omega)] at h; cases h
        have HRV := Lib.hid (show valB ((c.toNat : Int) - 1) 0 X = true → rvV c (s.data.toList.drop (q + 1)) = ⟨((c.toNat : Int) - 1), 0, X⟩ from fun h => by rw [(hT (hv3 h)).1, hv3 h]; rfl)
        have HRR := Lib.hid (show valB ((c.toNat : Int) - 1) 0 X = true → rvR c (s.data.toList.drop (q + 1)) = s.data.toList.drop (m + 1) from fun h => (hT (hv3 h)).2.1)
        have HVb := Lib.hid (show Blk (wr.setCell ⟨x, 2, none⟩ (.string X)) x 30 [.int .i64 ((c.toNat : Int) - 1), .int .i64 0, .string X] from HX.out.set 2 (.string X))
        have HOb := Lib.hid (own_far HOa.out (grown_one (b := x) (i := 2) (u := .string X)) hneq)
        have HEb := Lib.hid (show Ext w (wr.setCell ⟨x, 2, none⟩ (.string X)) from HEa.out.set (by dsimp only; omega) _)
        have HO := Lib.hid (spec_ValueOK ((c.toNat : Int) - 1) 0 X (wr.setCell ⟨x, 2, none⟩ (.string X)) HSZ.out)
        have hs1 : (q : Int) + 1 ≤ (m : Int) := by omega
        have hs2 : (m : Int) ≤ (s.size : Int) := by omega
        have hs0 : (0 : Int) ≤ (q : Int) + 1 := by omega
        have t1 : ((q : Int) + 1).toNat = q + 1 := by omega
        have hmne : ¬ (m : Int) = (s.size : Int) := by omega
        obtain ⟨x0, x1, x2⟩ := HX.out.cells3v
        have xf := HX.out.frozen 2
        clear hX hD hXs hT hXX hv3 hidx hget hlt h0 h1 h2 hneq HOa HEa HX hms
        go_wp2_with fail
        rw [HXX.out]
        clear x0 x1 x2 xf HXX
        generalize wr.setCell ⟨x, 2, none⟩ (.string X) = w4 at HO HVb HOb HEb ⊢
        refine HO.out.mono ?_
        rintro e w5 ⟨rfl, E5⟩
        have HO5 := Lib.hid (own_ext HOb.out E5)
        have HV5 := Lib.hid (HVb.out.ext E5)
        have HE5 := Lib.hid (HEb.out.trans E5)
        clear HO HOb HVb HEb E5
        obtain ⟨v0, v1, v2⟩ := HV5.out.cells3v
        rcases hv : valB ((c.toNat : Int) - 1) 0 X with _ | _
        · have HNO := Lib.hid (kr_no HK.out (by rw [HRF.out, hv]; rfl))
          have HNn := Lib.hid (World.ownsRow_lit (base := w.heap.size) (e := 30) (size := 3) w5 #[] 0 HE5.out.le (by unfold maxLen; omega) rfl)
          clear hv
          go_wp2_with fail
          go_ret2
          exact .no HNO.out HNn.out (HE5.out.alloc _)
        · have HGO := Lib.hid (kr_go HK.out (by rw [HRF.out, hv]; rfl))
          rw [HRV.out hv, HRR.out hv] at HGO
          have hle5 := HE5.out.le
          have hrow := own_ext HO5.out ((Ext.refl w5).alloc (.cells #[.int .i64 ((c.toNat : Int) - 1), .int .i64 0, .string X] 30))
          clear hv
          go_wp2_with (at_builtin; refine wpList_append_own _ rfl (.tmp 72) (.tmp 74) 42 rfl w.heap.size 30 i0 (Value.agg #[.int .i64 0, .int .i64 0, .string ByteArray.empty]) 3 32 Try.underlying42 hi hz0 hz1 hz2 rfl (by decide) _ acc.length _ rfl hrow ⟨w5.heap.size, 0, none⟩ 1 1 [.int .i64 ((c.toNat : Int) - 1), .int .i64 0, .string X] rfl rfl (rd_add (Blk.new w5 _ _).rd) (by intro u hu; simp at hu; rcases hu with rfl | rfl | rfl <;> rfl) (by unfold maxLen; omega) (by omega) (by simp; omega) ?_)
          intro v6 w6 ho6 hg6 _
          have HO6 := Lib.hid ho6
          have E6 : Ext w w6 := (HE5.out.alloc _).grown hg6 (own_blk hrow)
          clear ho6 hg6 hrow
          go_wp2_with fail
          go_roundw
          case rel => exact ⟨j, m + 1, acc ++ [⟨((c.toNat : Int) - 1), 0, X⟩], by omega, by omega, by go_num, by rw [List.length_append]; simp; omega, HGO.out, by rw [List.length_append, List.flatMap_append]; exact HO6.out, E6⟩
          case measure => simp [intOf]; omega
      · have hnz : ¬ s[m].toNat = 0 := by intro e; apply h0; exact UInt8.toNat_inj.1 e
        have hnzI : ((s[m].toNat : Int) != 0) = true := by rw [bne_iff_ne]; omega
        have H1 := Lib.hid (no0_succ HZ.out hlt (by rw [hget]; exact h0))
        clear hget hlt h0 hms
        go_wp2_with fail
        go_roundw
        case rel => exact ⟨m + 1, by omega, by omega, by go_num, by rw [show m + 1 - (q + 1) = m - (q + 1) + 1 from by omega]; exact H1.out, by simp⟩
        case measure => simp [intOf]; omega
end Go.Proofs.Ythfkfdfcgldbeaa
