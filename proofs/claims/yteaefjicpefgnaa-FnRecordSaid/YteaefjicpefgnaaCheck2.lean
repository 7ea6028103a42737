/- The walks of what reads a checkpoint's text, the reference's. -/
import Derived.Test.YteaefjicpefgnaaCheck
import Derived.Test.YteaefjicpefgnaaReadFields2
import Derived.Test.YteaefjicpefgnaaFields
import Derived.Test.YteaefjicpefgnaaRg
namespace Go.Proofs.Yteaefjicpefgnaa
open Go.RowKit Go.Deep
set_option linter.unusedVariables false
set_option maxRecDepth 100000
/-- where what append hands back lies -/
theorem append_where {P : Program} (w : World) (t ty e : TypeId) (i : TypeInfo) (z : Value) (size bytes base : Nat) (ht : P.underlying t = some (.slice e)) (hi : P.info? e = some i) (hz : i.zero = some z)
    (hsize : i.size = size) (hby : i.bytes = bytes) (hzs : z.cells.size = size) (hsz : 0 < size)
    (v : Value) (n : Nat) (xs : List Value) (hown : w.ownsRow base e size v n xs)
    (a : Addr) (m c : Nat) (news : List Value) (hl : news.length = m * size) (hnews : ∀ j u, news[j]? = some u → w.cell? (a.add j) = some u) (h1 : ∀ u ∈ news, u.oneCell' = true)
    (h63 : n + m ≤ maxLen) (hbytes : (n + m) * bytes ≤ 140737488355328) {v' : Value} {w' : World} (hr : (Builtin.append_ #[t, t] ty #[v, .slice (some a) m c]).run P w = .ok v' w') :
    v'.ownBlock = v.ownBlock ∨ ∀ k, v'.ownBlock = some k → w.heap.size ≤ k := by
  subst hsize
  subst hby
  have hsmall : n + m ≤ 9223372036854775807 := by simp only [maxLen] at h63; omega
  rcases hown.2 with ⟨rfl, rfl⟩ | ⟨g, cap, cur, rfl, hbg, hg, hnc, hcm, hcs, htake⟩
  · right
    obtain ⟨v2, w2, hr2, ho, _⟩ := run_append_own (P := P) w w.heap.size t ty e i z i.size i.bytes ht hi hz rfl rfl hzs hsz (.slice none 0 0) 0 [] (World.ownsRow_nil w w.heap.size e i.size) a m c news hl hnews h1 (by simp only [maxLen] at h63 ⊢; omega) (Nat.le_trans (Nat.mul_le_mul_right _ (by omega)) hbytes) (Nat.le_refl _)
    rw [hr] at hr2
    injection hr2 with e1 e2
    subst e1
    exact own_blk ho
  · by_cases hroom : n + m ≤ cap
    · left
      have hfit : n * i.size + news.length ≤ cur.size := by rw [hl, hcs, ← Nat.add_mul]; exact Nat.mul_le_mul_right _ hroom
      have hr2 := run_append_room (P := P) w t ty e i ht hi g n cap cur hg a m c news hl hnews h1 hroom hfit
      rw [hr] at hr2
      injection hr2 with e1 e2
      subst e1; rfl
    · right
      have holds : ∀ j u, xs[j]? = some u → w.cell? ((⟨g, 0, none⟩ : Addr).add j) = some u := hown.cells (g := g) rfl
      have hr2 := run_append_grow (P := P) w t ty e i z ht hi hz ⟨g, 0, none⟩ n cap xs hown.1 holds a m c news hl hnews (by omega) (by omega) (growslice_fits (by omega) hbytes)
      rw [hr] at hr2
      injection hr2 with e1 e2
      subst e1
      intro k hk
      injection hk with hk
      have hk : w.heap.size = k := hk
      omega
theorem wp_append_own2 {P : Program} {d : Option Tmp} {ty : TypeId} {pos : String} {af : Array Edge} {g : Option (Nat × Bool)} {a : Act} {w : World} {K : Act → World → Prop} {Q : Exit → Act → World → Prop}
    (s x : Operand) (t : TypeId)
    (base : Nat) (e : TypeId) (i : TypeInfo) (z : Value) (size bytes : Nat) (h1 : P.underlying t = some (.slice e)) (h2 : P.info? e = some i) (h3 : i.zero = some z) (h4 : i.size = size) (h5 : i.bytes = bytes) (h6 : z.cells.size = size) (h7 : 0 < size)
    (v : Value) (n : Nat) (xs : List Value) (hs : a.eval s = v) (hown : w.ownsRow base e size v n xs)
    (ad : Addr) (m c : Nat) (news : List Value) (hx : a.eval x = .slice (some ad) m c) (hn : news.length = m * size) (hc : ∀ j u, news[j]? = some u → w.cell? (ad.add j) = some u) (h1c : ∀ u ∈ news, u.oneCell' = true)
    (b1 : n + m ≤ maxLen) (b2 : (n + m) * bytes ≤ 140737488355328) (hb : base ≤ w.heap.size)
    (hK : ∀ v' w', w'.ownsRow base e size v' (n + m) (xs ++ news) → w.grownBy w' v.ownBlock → (v'.ownBlock = v.ownBlock ∨ ∀ k, v'.ownBlock = some k → w.heap.size ≤ k) → K (a.put d v') w') :
    Oper.wp P ⟨d, Op.call { callee := Callee.builtin Builtin.append, args := #[s, x], argTypes := #[t, t] }, ty, pos, af, g⟩ a w K Q := by
  obtain ⟨v', w', hrun, r1, r2, _⟩ := run_append_own (P := P) w base t ty e i z size bytes h1 h2 h3 h4 h5 h6 h7 v n xs hown ad m c news hn hc h1c b1 b2 hb
  have hw := append_where (P := P) w t ty e i z size bytes base h1 h2 h3 h4 h5 h6 h7 v n xs hown ad m c news hn hc h1c b1 b2 hrun
  unfold Oper.wp
  simp [execOp, resolve, invoke, builtin, hs, hx, hrun, Result.andThen]
  exact hK v' w' r1 r2 hw
/-- the cells of pairs -/
def prs (l : List (Nat × Nat)) : List Value := l.flatMap fun q => [.int .i64 (q.1 : Int), .int .i64 (q.2 : Int)]
theorem prs_len (l : List (Nat × Nat)) : (prs l).length = l.length * 2 := by
  induction l with
  | nil => rfl
  | cons a r ih => simp only [prs, List.flatMap_cons, List.length_append, List.length_cons] at *; rw [ih]; simp; omega
theorem prs_snoc (l : List (Nat × Nat)) (a b : Nat) : prs (l ++ [(a, b)]) = prs l ++ [.int .i64 (a : Int), .int .i64 (b : Int)] := by simp [prs]
/-- so many pairs, and what is behind them -/
def rdPs : Nat → List UInt8 → List (Nat × Nat) × List UInt8
  | 0, l => ([], l)
  | n + 1, a :: b :: r => ((a.toNat, b.toNat) :: (rdPs n r).1, (rdPs n r).2)
  | _ + 1, l => ([], l)
/-- the second list, behind the first -/
def rdCk1 (d : List (Nat × Nat)) : List UInt8 → Option (List (Nat × Nat) × List (Nat × Nat))
  | [] => none
  | c :: r => if 2 * c.toNat ≤ r.length then (if (rdPs c.toNat r).2 = [] then some (d, (rdPs c.toNat r).1) else none) else none
/-- both lists -/
def rdCk : List UInt8 → Option (List (Nat × Nat) × List (Nat × Nat))
  | [] => none
  | c :: r => if 2 * c.toNat ≤ r.length then rdCk1 (rdPs c.toNat r).1 (rdPs c.toNat r).2 else none
theorem rdPs_drop (n : Nat) : ∀ (l : List UInt8), 2 * n ≤ l.length → (rdPs n l).2 = l.drop (2 * n) ∧ (rdPs n l).1.length = n := by
  induction n with
  | zero => intro l h; exact ⟨rfl, rfl⟩
  | succ n ih =>
    intro l h
    match l, h with
    | a :: b :: r, h =>
      have h2 : 2 * n ≤ r.length := by simp at h; omega
      obtain ⟨h3, h4⟩ := ih r h2
      unfold rdPs
      refine ⟨?_, by simp [h4]⟩
      show (rdPs n r).2 = _
      rw [h3, show 2 * (n + 1) = 2 * n + 1 + 1 by omega]
      rfl
    | [_], h => simp at h; omega
    | [], h => simp at h
theorem own_lt {w : World} {B n size : Nat} {e : TypeId} {v : Value} {xs : List Value} (h : w.ownsRow B e size v n xs) : ∀ k, v.ownBlock = some k → k < w.heap.size := by
  obtain ⟨_, h⟩ := h
  rcases h with ⟨rfl, _⟩ | ⟨g, cap, cur, rfl, hb, hh, r⟩
  · intro k hk; cases hk
  · intro k hk
    injection hk with hk
    have hk : g = k := hk
    subst hk
    rcases Nat.lt_or_ge g w.heap.size with hlt | hge
    · exact hlt
    · rw [Array.getElem?_eq_none hge] at hh; cases hh
theorem own_slice2 {w : World} {B n size : Nat} {e : TypeId} {v : Value} {xs : List Value} (h : w.ownsRow B e size v n xs) : ∃ A cap, v = .slice A n cap := by
  obtain ⟨_, h⟩ := h
  rcases h with ⟨rfl, rfl⟩ | ⟨g, cap, cur, rfl, hb, hh, r⟩
  · exact ⟨none, 0, rfl⟩
  · exact ⟨_, _, rfl⟩
theorem own_far2 {w w' : World} {B n size : Nat} {e : TypeId} {v : Value} {xs : List Value} {row : Option Nat} (h : w.ownsRow B e size v n xs) (hg : w.grownBy w' row) (hne : ∀ k, v.ownBlock = some k → row ≠ some k) : w'.ownsRow B e size v n xs := by
  have hlt := own_lt h
  obtain ⟨h1, h2⟩ := h
  refine ⟨h1, ?_⟩
  rcases h2 with h2 | ⟨g, cap, cur, rfl, hb, hh, r⟩
  · exact Or.inl h2
  · exact Or.inr ⟨g, cap, cur, rfl, hb, (hg.block g (hlt g rfl) (fun e => hne g rfl e.symm)).trans hh, r⟩
/-- two slices that lie apart -/
def Apart (v v' : Value) : Prop := ∀ k, v.ownBlock = some k → v'.ownBlock ≠ some k
theorem info_Pair : (Try.prog.info? 132).map (fun i => (i.zero, i.size, i.bytes)) = some (some (.agg #[.int .i64 0, .int .i64 0]), 2, 16) := by kernel_rfl
theorem ck1_end {s : ByteArray} {q : Nat} {d t : List (Nat × Nat)} {R : List UInt8} {O : Option (List (Nat × Nat) × List (Nat × Nat))} (hq : q ≤ s.size) (hR : s.data.toList.drop q = R) (hC : (if R = [] then some (d, t) else none) = O) : (if q = s.size then some (d, t) else none) = O := by
  rw [← hC, ← hR]
  have e : (s.data.toList.drop q = []) ↔ (q = s.size) := by
    rw [List.drop_eq_nil_iff]
    simp only [Array.length_toList]
    show s.size ≤ q ↔ _
    omega
  by_cases h : q = s.size
  · rw [if_pos h, if_pos (e.2 h)]
  · rw [if_neg h, if_neg (fun x => h (e.1 x))]
/-- what l04ReadCheck hands back -/
def RcPost (w : World) (T : TypeId) (o : Option (List (Nat × Nat) × List (Nat × Nat))) (e : Ending) (w' : World) : Prop :=
  ∃ (vd vt : Value) (d t : List (Nat × Nat)), e = .returned (.tuple #[vd, vt, .bool o.isSome]) ∧ w'.ownsRow w.heap.size T 2 vd d.length (prs d) ∧ w'.ownsRow w.heap.size T 2 vt t.length (prs t) ∧ (∀ x, o = some x → x = (d, t)) ∧ Ext w w'
theorem RcPost.no {w w' : World} {T : TypeId} {o : Option (List (Nat × Nat) × List (Nat × Nat))} {vd vt : Value} {d t : List (Nat × Nat)} (h : o = none) (h1 : w'.ownsRow w.heap.size T 2 vd d.length (prs d)) (h2 : w'.ownsRow w.heap.size T 2 vt t.length (prs t)) (E : Ext w w') : RcPost w T o (.returned (.tuple #[vd, vt, .bool false])) w' := by
  subst h; exact ⟨vd, vt, d, t, rfl, h1, h2, (fun x h => by cases h), E⟩
theorem RcPost.yes {w w' : World} {T : TypeId} {o : Option (List (Nat × Nat) × List (Nat × Nat))} {vd vt : Value} {d t : List (Nat × Nat)} (h : o = some (d, t)) (h1 : w'.ownsRow w.heap.size T 2 vd d.length (prs d)) (h2 : w'.ownsRow w.heap.size T 2 vt t.length (prs t)) (E : Ext w w') : RcPost w T o (.returned (.tuple #[vd, vt, .bool true])) w' := by
  subst h; exact ⟨vd, vt, d, t, rfl, h1, h2, (fun x h => by injection h with h; exact h.symm), E⟩
theorem own_drewN {w : World} {B n size : Nat} {e : TypeId} {v : Value} {xs : List Value} (h : w.ownsRow B e size v n xs) (k : Nat) : (w.drewN k).ownsRow B e size v n xs := h
set_option maxHeartbeats 4000000 in
theorem spec_l04ReadCheck (s : ByteArray) (w : World) (hs : s.size ≤ 2000000) :
    Calls Try.prog 111 #[.string s] w (RcPost w 132 (rdCk s.data.toList)) := by
  have i1 := World.ownsRow_lit (base := w.heap.size) (e := 132) (size := 2) w #[] 0 (Nat.le_refl _) (by unfold maxLen; omega) rfl
  have i2 := World.ownsRow_lit (base := w.heap.size) (e := 132) (size := 2) (w.alloc (.cells #[] 132)) #[] 0 (by simp) (by unfold maxLen; omega) rfl
  rw [World.size_alloc] at i2
  have B0 := Blk.new ((w.alloc (.cells #[] 132)).alloc (.cells #[] 132)) 129 [.slice (some ⟨w.heap.size, 0, none⟩) 0 0, .slice (some ⟨w.heap.size + 1, 0, none⟩) 0 0]
  rw [World.size_alloc, World.size_alloc] at B0
  have E0 : Ext w (((w.alloc (.cells #[] 132)).alloc (.cells #[] 132)).alloc (.cells #[.slice (some ⟨w.heap.size, 0, none⟩) 0 0, .slice (some ⟨w.heap.size + 1, 0, none⟩) 0 0] 129)) := (by repeat (first | exact Ext.refl _ | assumption | refine Ext.alloc ?_ _ | refine Ext.drewN ?_ _ | refine Ext.drew ?_ | refine Ext.set ?_ (by dsimp only; omega) _ | refine Ext.trans ?_ (by assumption)))
  have I1 := Lib.hid (own_ext i1 ((((Ext.refl (w.alloc (.cells #[] 132))).alloc (.cells #[] 132))).alloc (.cells #[.slice (some ⟨w.heap.size, 0, none⟩) 0 0, .slice (some ⟨w.heap.size + 1, 0, none⟩) 0 0] 129)))
  have I2 := Lib.hid (own_ext i2 ((Ext.refl ((w.alloc (.cells #[] 132)).alloc (.cells #[] 132))).alloc (.cells #[.slice (some ⟨w.heap.size, 0, none⟩) 0 0, .slice (some ⟨w.heap.size + 1, 0, none⟩) 0 0] 129)))
  have IB := Lib.hid B0
  have IE := Lib.hid E0
  generalize hO : rdCk s.data.toList = O
  have HO := Lib.hid hO
  obtain ⟨i0, hi, hz0, hz1, hz2⟩ := info_parts info_Pair
  clear i1 i2 B0 E0 hO
  go_enter Try.func111, Try.ntmps111
  go_wp2_with fail
  go_loopw [7, 6, 8, 9] (fun kv av u8 u9 wr => ∃ (k q : Nat) (d t : List (Nat × Nat)) (vd vt : Value), kv = .int .i64 k ∧ av = .int .i64 q ∧ k ≤ 2 ∧ q ≤ s.size ∧ Blk wr (w.heap.size + 1 + 1) 129 [vd, vt] ∧ wr.ownsRow w.heap.size 132 2 vd d.length (prs d) ∧ wr.ownsRow w.heap.size 132 2 vt t.length (prs t) ∧ Apart vd vt ∧ Ext w wr ∧
      (match k with | 0 => d = [] ∧ t = [] ∧ rdCk (s.data.toList.drop q) = O | 1 => t = [] ∧ rdCk1 d (s.data.toList.drop q) = O | _ => (if q = s.size then some (d, t) else none) = O)) (fun kv _ _ _ _ => 2 - (intOf kv).toNat)
  case atStart => exact ⟨0, 0, [], [], _, _, rfl, rfl, by omega, by omega, IB.out, I1.out, I2.out, (fun k hk hk2 => by injection hk with hk; injection hk2 with hk2; have hk : w.heap.size = k := hk; have hk2 : w.heap.size + 1 = k := hk2; omega), IE.out, rfl, rfl, by rw [List.drop_zero]; exact HO.out⟩
  case round =>
    obtain ⟨k, q, d, t, vd, vt, rfl, rfl, hk, hq, hLB, hvd, hvt, hap, hE, hcont⟩ := hrel
    have HLB := Lib.hid hLB
    have HVD := Lib.hid hvd
    have HVT := Lib.hid hvt
    have HAP := Lib.hid hap
    clear hLB hvd hvt hap
    by_cases hk2 : k = 2
    · subst hk2
      have HC := Lib.hid (show (if q = s.size then some (d, t) else none) = O from hcont)
      clear hcont
      obtain ⟨c0, c1⟩ := HLB.out.cells2
      by_cases hqs : q = s.size
      · have hqI : ((q : Int) == (s.size : Int)) = true := by rw [hqs]; simp
        have HV := Lib.hid (show O = some (d, t) by rw [← HC.out, if_pos hqs])
        clear hqs HC
        go_wp2_with fail
        go_quiet (fail)
        go_wp2_with fail
        go_ret3
        exact .yes HV.out HVD.out HVT.out (hE.drewN _)
      · have hqI : ((q : Int) == (s.size : Int)) = false := beq_eq_false_iff_ne.2 (by omega)
        have HV := Lib.hid (show O = none by rw [← HC.out, if_neg hqs])
        clear hqs HC
        go_wp2_with fail
        go_quiet (fail)
        go_wp2_with fail
        go_ret3
        exact .no HV.out HVD.out HVT.out (hE.drewN _)
    · obtain hk0 | hk1 : k = 0 ∨ k = 1 := by omega
      · -- list number 0
        subst hk0
        obtain ⟨rfl, rfl, hC⟩ := hcont
        have HC := Lib.hid hC
        clear hC
        by_cases hqs : s.size ≤ q
        · have hqI : (s.size : Int) ≤ (q : Int) := by omega
          have HV := Lib.hid (show O = none by rw [← HC.out, List.drop_eq_nil_of_le (by simpa using hqs)]; rfl)
          obtain ⟨c0, c1⟩ := HLB.out.cells2
          go_wp2_with fail
          go_quiet (fail)
          go_wp2_with fail
          go_ret3
          exact .no HV.out HVD.out HVT.out (hE.drewN _)
        have hqI : ¬ (s.size : Int) ≤ (q : Int) := by omega
        have hq2 : q < s.size := by omega
        have h8 : s[q].toNat < 256 := s[q].toNat_lt
        have hdr := drop_at s q hq2
        by_cases hov : q + 1 + 2 * s[q].toNat ≤ s.size
        · have hovI : ¬ (s.size : Int) < (q : Int) + 1 + 2 * (s[q].toNat : Int) := by omega
          have hlen : 2 * s[q].toNat ≤ (s.data.toList.drop (q + 1)).length := by simp only [List.length_drop, Array.length_toList]; show _ ≤ s.size - _; omega
          have HC2 := Lib.hid (show rdCk1 (rdPs s[q].toNat (s.data.toList.drop (q + 1))).1 (rdPs s[q].toNat (s.data.toList.drop (q + 1))).2 = O by
            rw [← HC.out, hdr]
            simp only [rdCk, if_pos hlen])
          generalize hmm : s[q].toNat = m at HC2 h8 hovI hov hlen
          generalize hD : (rdPs m (s.data.toList.drop (q + 1))).1 = D at HC2
          generalize hR : (rdPs m (s.data.toList.drop (q + 1))).2 = R at HC2
          have HD := Lib.hid hD
          have HR := Lib.hid hR
          clear hdr hlen HC hD hR hqs
          go_wp2_with fail
          obtain ⟨wo, rfl⟩ : ∃ wo : World, wo = wr := ⟨_, rfl⟩
          go_loopw [9, 6] (fun iv av wi => ∃ (i q' : Nat) (d : List (Nat × Nat)) (vd : Value), iv = .int .i64 i ∧ av = .int .i64 q' ∧ i ≤ m ∧ q' + 2 * (m - i) ≤ s.size ∧ d.length + (m - i) ≤ 255 ∧ d ++ (rdPs (m - i) (s.data.toList.drop q')).1 = D ∧ (rdPs (m - i) (s.data.toList.drop q')).2 = R ∧
            Blk wi (w.heap.size + 1 + 1) 129 [vd, vt] ∧ wi.ownsRow w.heap.size 132 2 vd d.length (prs d) ∧ wi.ownsRow w.heap.size 132 2 vt ([] : List (Nat × Nat)).length (prs []) ∧ Apart vd vt ∧ Ext w wi) (fun iv _ _ => m - (intOf iv).toNat)
          case atStart => exact ⟨0, q + 1, [], vd, rfl, by first | rfl | go_num, Nat.zero_le _, by omega, by simp; omega, by rw [Nat.sub_zero]; simpa using HD.out, by rw [Nat.sub_zero]; exact HR.out, HLB.out, HVD.out, HVT.out, HAP.out, hE⟩
          case round =>
            obtain ⟨i, q', d, vd, rfl, rfl, hi1, hq', hd255, hdD, hdR, hLB, hvd, hvt, hap, hE⟩ := hrel
            have HLB := Lib.hid hLB
            have HVD := Lib.hid hvd
            have HVT := Lib.hid hvt
            have HAP := Lib.hid hap
            have HDD := Lib.hid hdD
            have HDR := Lib.hid hdR
            clear hLB hvd hvt hap hdD hdR
            by_cases hlt : i < m
            · have hlt2 : (i : Int) < (m : Int) := by omega
              obtain ⟨j, hj⟩ : ∃ j, m - i = j + 1 := ⟨m - i - 1, by omega⟩
              have HJ := Lib.hid (show m - (i + 1) = j by omega)
              have k1 : q' < s.size := by omega
              have k2 : q' + 1 < s.size := by omega
              have k1I : (q' : Int) < (s.size : Int) := by omega
              have k2I : (q' : Int) + 1 < (s.size : Int) := by omega
              have hdr := drop_at s q' k1
              rw [drop_at s (q' + 1) k2] at hdr
              have h81 : s[q'].toNat < 256 := s[q'].toNat_lt
              have h82 : s[q' + 1].toNat < 256 := s[q' + 1].toNat_lt
              have HDD2 := Lib.hid (show (d ++ [(s[q'].toNat, s[q' + 1].toNat)]) ++ (rdPs j (s.data.toList.drop (q' + 1 + 1))).1 = D by rw [← HDD.out, hj, hdr]; simp [rdPs])
              have HDR2 := Lib.hid (show (rdPs j (s.data.toList.drop (q' + 1 + 1))).2 = R by rw [← HDR.out, hj, hdr]; rfl)
              clear hdr hj HDD HDR
              have hd3 : d.length + 1 + j ≤ 255 := by have := HJ.out; omega
              have w1 : IntKind.i64.wrap ((q' : Int) + 1) = (q' : Int) + 1 := by rw [IntKind.wrap_i64]; omega
              have w2 : ((q' : Int) + 1).toNat = q' + 1 := by omega
              have w3 : (0 : Int) ≤ (q' : Int) + 1 := by omega
              have w4 : IntKind.i64.wrap (s[q'].toNat : Int) = (s[q'].toNat : Int) := by rw [IntKind.wrap_i64]; omega
              have w5 : IntKind.i64.wrap (s[q' + 1].toNat : Int) = (s[q' + 1].toNat : Int) := by rw [IntKind.wrap_i64]; omega
              go_wp2_with fail
              generalize hs1 : s[q'].toNat = x1 at HDD2 h81 w4
              generalize hs2 : s[q' + 1].toNat = x2 at HDD2 h82 w5
              obtain ⟨c0, c1⟩ := HLB.out.cells2
              have hT : True := trivial
              refine rg_startS (fun _ => True) (by kernel_rfl) trivial (fun hS => ?_)
              (refine rg_take (v := ?_) 0 rfl (by kernel_rfl) (by kernel_rfl) (by kernel_rfl) (fun _ _ _ h => h) (by rfl) (by assumption) (fun W hW => ?_) ?_; rotate_left; (focus (go_simp; try with_reducible rfl)); (try simp only [List.setIfInBounds_toArray, List.set_cons_succ, List.set_cons_zero]))
              (refine rg_take (v := ?_) 1 rfl (by kernel_rfl) (by kernel_rfl) (by kernel_rfl) (fun _ _ _ h => h) (by rfl) (by assumption) (fun W hW => ?_) ?_; rotate_left; (focus (go_simp; try with_reducible rfl)); (try simp only [List.setIfInBounds_toArray, List.set_cons_succ, List.set_cons_zero]))
              (refine rg_take (v := ?_) 2 rfl (by kernel_rfl) (by kernel_rfl) (by kernel_rfl) (fun _ _ _ h => h) (by rfl) (by assumption) (fun W hW => ?_) ?_; rotate_left; (focus (go_simp; try with_reducible rfl)); (try simp only [List.setIfInBounds_toArray, List.set_cons_succ, List.set_cons_zero]))
              (refine rg_take (v := ?_) 3 rfl (by kernel_rfl) (by kernel_rfl) (by kernel_rfl) (fun _ _ _ h => h) (by rfl) (by assumption) (fun W hW => ?_) ?_; rotate_left; (focus (go_simp; try with_reducible rfl)); (try simp only [List.setIfInBounds_toArray, List.set_cons_succ, List.set_cons_zero]))
              (refine rg_take (v := ?_) 4 rfl (by kernel_rfl) (by kernel_rfl) (by kernel_rfl) (fun _ _ _ h => h) (by rfl) (by assumption) (fun W hW => ?_) ?_; rotate_left; (focus (go_simp; try with_reducible rfl)); (try simp only [List.setIfInBounds_toArray, List.set_cons_succ, List.set_cons_zero]))
              (refine rg_take (v := ?_) 6 rfl (by kernel_rfl) (by kernel_rfl) (by kernel_rfl) (fun _ _ _ h => h) (by rfl) (by assumption) (fun W hW => ?_) ?_; rotate_left; (focus (go_simp; try with_reducible rfl)); (try simp only [List.setIfInBounds_toArray, List.set_cons_succ, List.set_cons_zero]))
              (refine rg_take (v := ?_) 7 rfl (by kernel_rfl) (by kernel_rfl) (by kernel_rfl) (fun _ _ _ h => h) (by rfl) (by assumption) (fun W hW => ?_) ?_; rotate_left; (focus (go_simp; try with_reducible rfl)); (try simp only [List.setIfInBounds_toArray, List.set_cons_succ, List.set_cons_zero]))
              (refine rg_take (v := ?_) 8 rfl (by kernel_rfl) (by kernel_rfl) (by kernel_rfl) (fun _ _ _ h => h) (by rfl) (by assumption) (fun W hW => ?_) ?_; rotate_left; (focus (go_simp; try with_reducible rfl)); (try simp only [List.setIfInBounds_toArray, List.set_cons_succ, List.set_cons_zero]))
              (refine rg_take (v := ?_) 9 rfl (by kernel_rfl) (by kernel_rfl) (by kernel_rfl) (fun _ _ _ h => h) (by rfl) (by assumption) (fun W hW => ?_) ?_; rotate_left; (focus (go_simp; try with_reducible rfl)); (try simp only [List.setIfInBounds_toArray, List.set_cons_succ, List.set_cons_zero]))
              (refine rg_take (v := ?_) 10 rfl (by kernel_rfl) (by kernel_rfl) (by kernel_rfl) (fun _ _ _ h => h) (by rfl) (by assumption) (fun W hW => ?_) ?_; rotate_left; (focus (go_simp; try with_reducible rfl)); (try simp only [List.setIfInBounds_toArray, List.set_cons_succ, List.set_cons_zero]))
              (refine rg_take (v := ?_) 11 rfl (by kernel_rfl) (by kernel_rfl) (by kernel_rfl) (fun _ _ _ h => h) (by rfl) (by assumption) (fun W hW => ?_) ?_; rotate_left; (focus (go_simp; try with_reducible rfl)); (try simp only [List.setIfInBounds_toArray, List.set_cons_succ, List.set_cons_zero]))
              (refine rg_take (v := ?_) 12 rfl (by kernel_rfl) (by kernel_rfl) (by kernel_rfl) (fun _ _ _ h => h) (by rfl) (by assumption) (fun W hW => ?_) ?_; rotate_left; (focus (go_simp; try with_reducible rfl)); (try simp only [List.setIfInBounds_toArray, List.set_cons_succ, List.set_cons_zero]))
              (refine rg_take (v := ?_) 13 rfl (by kernel_rfl) (by kernel_rfl) (by kernel_rfl) (fun _ _ _ h => h) (by rfl) (by assumption) (fun W hW => ?_) ?_; rotate_left; (focus (go_simp; try with_reducible rfl)); (try simp only [List.setIfInBounds_toArray, List.set_cons_succ, List.set_cons_zero]))
              (refine rg_take (v := ?_) 14 rfl (by kernel_rfl) (by kernel_rfl) (by kernel_rfl) (fun _ _ _ h => h) (by rfl) (by assumption) (fun W hW => ?_) ?_; rotate_left; (focus (go_simp; try with_reducible rfl)); (try simp only [List.setIfInBounds_toArray, List.set_cons_succ, List.set_cons_zero]))
              (refine rg_take (v := ?_) 15 rfl (by kernel_rfl) (by kernel_rfl) (by kernel_rfl) (fun _ _ _ h => h) (by rfl) (by assumption) (fun W hW => ?_) ?_; rotate_left; (focus (go_simp; try with_reducible rfl)); (try simp only [List.setIfInBounds_toArray, List.set_cons_succ, List.set_cons_zero]))
              refine rg_two 5 16 (by kernel_rfl) rfl (by rfl) rfl (by rfl) (fun K hK => ?_) (fun K hK => ?_)
              focus
                go_simp
                refine hK _ _ trivial (fun _ => ?_)
                clear hK K
                try simp only [List.setIfInBounds_toArray, List.set_cons_succ, List.set_cons_zero]
                (refine rg_one 16 (by kernel_rfl) rfl (by rfl) (fun K hK => ?_); go_simp)
                refine hK _ _ trivial (fun _ => ?_)
                clear hK K
                try simp only [List.setIfInBounds_toArray, List.set_cons_succ, List.set_cons_zero]
              rotate_left
              focus
                go_simp
                refine hK _ _ trivial (fun _ => ?_)
                clear hK K
                try simp only [List.setIfInBounds_toArray, List.set_cons_succ, List.set_cons_zero]
                have c0' := ((Ext.refl wr).alloc (.cells #[.int .i64 (x1 : Int), .int .i64 (x2 : Int)] 132)).cell c0
                (refine rg_one 5 (by kernel_rfl) rfl (by rfl) (fun K hK => ?_); go_simp)
                refine hK _ _ trivial (fun _ => ?_)
                clear hK K c0'
                try simp only [List.setIfInBounds_toArray, List.set_cons_succ, List.set_cons_zero]
              all_goals
                have EW : Ext wr (wr.alloc (.cells #[.int .i64 (x1 : Int), .int .i64 (x2 : Int)] 132)).drew := ((Ext.refl wr).alloc _).drew
                have BN := (Blk.new wr 132 [.int .i64 (x1 : Int), .int .i64 (x2 : Int)]).drew
                have OD := own_ext HVD.out EW
                have OT := own_ext HVT.out EW
                have LB := HLB.out.ext EW
                have EW2 := hE.trans EW
                clear c0 c1
                generalize (wr.alloc (.cells #[.int .i64 (x1 : Int), .int .i64 (x2 : Int)] 132)).drew = W at EW BN OD OT LB EW2 ⊢
                have hleW := EW2.le
                refine rg_one 17 (by kernel_rfl) rfl (by rfl) (fun K hK => ?_)
                refine wp_append_own2 (.tmp 56) (.tmp 67) 129 w.heap.size 132 i0 (.agg #[.int .i64 0, .int .i64 0]) 2 16 Try.underlying129 hi hz0 hz1 hz2 rfl (by decide) _ d.length _ rfl OD ⟨wr.heap.size, 0, none⟩ 1 1 [.int .i64 (x1 : Int), .int .i64 (x2 : Int)] rfl rfl (rd_add BN.rd) (by intro u hu; simp at hu; rcases hu with rfl | rfl <;> rfl) (by unfold maxLen; omega) (by omega) hleW ?_
                intro v2 W2 O2 G2 hw2
                refine hK _ _ trivial (fun _ => ?_)
                clear hK K
                simp only [Act.put]
                try simp only [List.setIfInBounds_toArray, List.set_cons_succ, List.set_cons_zero]
                have hneL := own_apart OD LB (by decide)
                have LB2 : Blk W2 (w.heap.size + 1 + 1) 129 [vd, vt] := (G2.block _ LB.lt hneL).trans LB
                have OT2 := own_far2 OT G2 (fun k h1 h2 => HAP.out k h2 h1)
                have E2 : Ext w W2 := EW2.grown G2 (own_blk OD)
                have hap2 : Apart v2 vt := by
                  intro k h1 h2
                  rcases hw2 with h | h
                  · rw [h] at h1; exact HAP.out k h1 h2
                  · have := h k h1; have := own_lt OT k h2; omega
                have O2' : W2.ownsRow w.heap.size 132 2 v2 (d.length + 1) (prs (d ++ [(x1, x2)])) := by rw [prs_snoc]; exact O2
                have hneL2 := own_apart O2' LB2 (by decide)
                have hneL3 := own_apart OT2 LB2 (by decide)
                obtain ⟨A2, cap2, hv2⟩ := own_slice2 O2'
                have HO2 := Lib.hid (own_far O2' (grown_one (w := W2) (b := w.heap.size + 1 + 1) (i := 0) (u := v2)) hneL2.symm)
                have HOT := Lib.hid (own_far OT2 (grown_one (w := W2) (b := w.heap.size + 1 + 1) (i := 0) (u := v2)) hneL3.symm)
                have HL2 := Lib.hid (LB2.set 0 v2)
                have HE2 := Lib.hid (E2.set (p := ⟨w.heap.size + 1 + 1, 0, none⟩) (by dsimp only; omega) v2)
                have HAP2 := Lib.hid hap2
                obtain ⟨c0, c1⟩ := LB2.cells2
                have f0 := LB2.frozen 0
                clear OD OT LB BN EW EW2 OT2 O2' O2 G2 hneL hneL2 hneL3 hap2 hw2 E2 LB2
                subst hv2
                (refine rg_take (v := ?_) 18 rfl (by kernel_rfl) (by kernel_rfl) (by kernel_rfl) (fun _ _ _ h => h) (by rfl) (by assumption) (fun W hW => ?_) ?_; rotate_left; (focus (go_simp; try with_reducible rfl)); (try simp only [List.setIfInBounds_toArray, List.set_cons_succ, List.set_cons_zero]))
                (refine rg_one 19 (by kernel_rfl) rfl (by rfl) (fun K hK => ?_); go_simp)
                refine hK _ _ trivial (fun _ => ?_)
                clear hK K
                try simp only [List.setIfInBounds_toArray, List.set_cons_succ, List.set_cons_zero]
                refine rg_done (by kernel_rfl) ?_
                clear c0 c1 f0
                go_wp2_with fail
                go_roundw
                case rel => exact ⟨i + 1, q' + 1 + 1, d ++ [(x1, x2)], _, by go_num, by go_num, by omega, by have := HJ.out; omega, by rw [HJ.out, List.length_append]; exact hd3, by rw [HJ.out]; exact HDD2.out, by rw [HJ.out]; exact HDR2.out, HL2.out, by rw [List.length_append]; exact HO2.out, HOT.out, HAP2.out, HE2.out⟩
                case measure => simp [intOf]; omega
            · have him : i = m := by omega
              subst him
              have HD3 := Lib.hid (show d = D by have := HDD.out; rw [Nat.sub_self] at this; simpa [rdPs] using this)
              have HR3 := Lib.hid (show s.data.toList.drop q' = R by have := HDR.out; rw [Nat.sub_self] at this; exact this)
              have hltI : ¬ (i : Int) < (i : Int) := by omega
              have hq3 : q' ≤ s.size := by omega
              clear HDD HDR
              go_wp2_with fail
              go_roundw
              case rel => exact ⟨1, q', d, [], vd, vt, rfl, rfl, by omega, hq3, HLB.out, HVD.out, HVT.out, HAP.out, hE, rfl, by rw [HD3.out, HR3.out]; exact HC2.out⟩
              case measure => simp [intOf]
        · have hovI : (s.size : Int) < (q : Int) + 1 + 2 * (s[q].toNat : Int) := by omega
          have HV := Lib.hid (show O = none by
            rw [← HC.out, hdr]
            simp only [rdCk]
            rw [if_neg]
            simp only [List.length_drop, Array.length_toList]
            show ¬ _ ≤ s.size - _
            omega)
          obtain ⟨c0, c1⟩ := HLB.out.cells2
          go_wp2_with fail
          go_quiet (fail)
          go_wp2_with fail
          go_ret3
          exact .no HV.out HVD.out HVT.out (hE.drewN _)
      · -- list number 1
        subst hk1
        obtain ⟨rfl, hC⟩ := hcont
        have HC := Lib.hid hC
        clear hC
        by_cases hqs : s.size ≤ q
        · have hqI : (s.size : Int) ≤ (q : Int) := by omega
          have HV := Lib.hid (show O = none by rw [← HC.out, List.drop_eq_nil_of_le (by simpa using hqs)]; rfl)
          obtain ⟨c0, c1⟩ := HLB.out.cells2
          go_wp2_with fail
          go_quiet (fail)
          go_wp2_with fail
          go_ret3
          exact .no HV.out HVD.out HVT.out (hE.drewN _)
        have hqI : ¬ (s.size : Int) ≤ (q : Int) := by omega
        have hq2 : q < s.size := by omega
        have h8 : s[q].toNat < 256 := s[q].toNat_lt
        have hdr := drop_at s q hq2
        by_cases hov : q + 1 + 2 * s[q].toNat ≤ s.size
        · have hovI : ¬ (s.size : Int) < (q : Int) + 1 + 2 * (s[q].toNat : Int) := by omega
          have hlen : 2 * s[q].toNat ≤ (s.data.toList.drop (q + 1)).length := by simp only [List.length_drop, Array.length_toList]; show _ ≤ s.size - _; omega
          have HC2 := Lib.hid (show (if (rdPs s[q].toNat (s.data.toList.drop (q + 1))).2 = [] then some (d, (rdPs s[q].toNat (s.data.toList.drop (q + 1))).1) else none) = O by
            rw [← HC.out, hdr]
            simp only [rdCk1, if_pos hlen])
          generalize hmm : s[q].toNat = m at HC2 h8 hovI hov hlen
          generalize hD : (rdPs m (s.data.toList.drop (q + 1))).1 = D at HC2
          generalize hR : (rdPs m (s.data.toList.drop (q + 1))).2 = R at HC2
          have HD := Lib.hid hD
          have HR := Lib.hid hR
          clear hdr hlen HC hD hR hqs
          go_wp2_with fail
          obtain ⟨wo, rfl⟩ : ∃ wo : World, wo = wr := ⟨_, rfl⟩
          go_loopw [9, 6] (fun iv av wi => ∃ (i q' : Nat) (t : List (Nat × Nat)) (vt : Value), iv = .int .i64 i ∧ av = .int .i64 q' ∧ i ≤ m ∧ q' + 2 * (m - i) ≤ s.size ∧ t.length + (m - i) ≤ 255 ∧ t ++ (rdPs (m - i) (s.data.toList.drop q')).1 = D ∧ (rdPs (m - i) (s.data.toList.drop q')).2 = R ∧
            Blk wi (w.heap.size + 1 + 1) 129 [vd, vt] ∧ wi.ownsRow w.heap.size 132 2 vd d.length (prs d) ∧ wi.ownsRow w.heap.size 132 2 vt t.length (prs t) ∧ Apart vd vt ∧ Ext w wi) (fun iv _ _ => m - (intOf iv).toNat)
          case atStart => exact ⟨0, q + 1, [], vt, rfl, by first | rfl | go_num, Nat.zero_le _, by omega, by simp; omega, by rw [Nat.sub_zero]; simpa using HD.out, by rw [Nat.sub_zero]; exact HR.out, HLB.out, HVD.out, HVT.out, HAP.out, hE⟩
          case round =>
            obtain ⟨i, q', t, vt, rfl, rfl, hi1, hq', ht255, hdD, hdR, hLB, hvd, hvt, hap, hE⟩ := hrel
            have HLB := Lib.hid hLB
            have HVD := Lib.hid hvd
            have HVT := Lib.hid hvt
            have HAP := Lib.hid hap
            have HDD := Lib.hid hdD
            have HDR := Lib.hid hdR
            clear hLB hvd hvt hap hdD hdR
            by_cases hlt : i < m
            · have hlt2 : (i : Int) < (m : Int) := by omega
              obtain ⟨j, hj⟩ : ∃ j, m - i = j + 1 := ⟨m - i - 1, by omega⟩
              have HJ := Lib.hid (show m - (i + 1) = j by omega)
              have k1 : q' < s.size := by omega
              have k2 : q' + 1 < s.size := by omega
              have k1I : (q' : Int) < (s.size : Int) := by omega
              have k2I : (q' : Int) + 1 < (s.size : Int) := by omega
              have hdr := drop_at s q' k1
              rw [drop_at s (q' + 1) k2] at hdr
              have h81 : s[q'].toNat < 256 := s[q'].toNat_lt
              have h82 : s[q' + 1].toNat < 256 := s[q' + 1].toNat_lt
              have HDD2 := Lib.hid (show (t ++ [(s[q'].toNat, s[q' + 1].toNat)]) ++ (rdPs j (s.data.toList.drop (q' + 1 + 1))).1 = D by rw [← HDD.out, hj, hdr]; simp [rdPs])
              have HDR2 := Lib.hid (show (rdPs j (s.data.toList.drop (q' + 1 + 1))).2 = R by rw [← HDR.out, hj, hdr]; rfl)
              clear hdr hj HDD HDR
              have hd3 : t.length + 1 + j ≤ 255 := by have := HJ.out; omega
              have w1 : IntKind.i64.wrap ((q' : Int) + 1) = (q' : Int) + 1 := by rw [IntKind.wrap_i64]; omega
              have w2 : ((q' : Int) + 1).toNat = q' + 1 := by omega
              have w3 : (0 : Int) ≤ (q' : Int) + 1 := by omega
              have w4 : IntKind.i64.wrap (s[q'].toNat : Int) = (s[q'].toNat : Int) := by rw [IntKind.wrap_i64]; omega
              have w5 : IntKind.i64.wrap (s[q' + 1].toNat : Int) = (s[q' + 1].toNat : Int) := by rw [IntKind.wrap_i64]; omega
              go_wp2_with fail
              generalize hs1 : s[q'].toNat = x1 at HDD2 h81 w4
              generalize hs2 : s[q' + 1].toNat = x2 at HDD2 h82 w5
              obtain ⟨c0, c1⟩ := HLB.out.cells2
              have hT : True := trivial
              refine rg_startS (fun _ => True) (by kernel_rfl) trivial (fun hS => ?_)
              (refine rg_take (v := ?_) 0 rfl (by kernel_rfl) (by kernel_rfl) (by kernel_rfl) (fun _ _ _ h => h) (by rfl) (by assumption) (fun W hW => ?_) ?_; rotate_left; (focus (go_simp; try with_reducible rfl)); (try simp only [List.setIfInBounds_toArray, List.set_cons_succ, List.set_cons_zero]))
              (refine rg_take (v := ?_) 1 rfl (by kernel_rfl) (by kernel_rfl) (by kernel_rfl) (fun _ _ _ h => h) (by rfl) (by assumption) (fun W hW => ?_) ?_; rotate_left; (focus (go_simp; try with_reducible rfl)); (try simp only [List.setIfInBounds_toArray, List.set_cons_succ, List.set_cons_zero]))
              (refine rg_take (v := ?_) 2 rfl (by kernel_rfl) (by kernel_rfl) (by kernel_rfl) (fun _ _ _ h => h) (by rfl) (by assumption) (fun W hW => ?_) ?_; rotate_left; (focus (go_simp; try with_reducible rfl)); (try simp only [List.setIfInBounds_toArray, List.set_cons_succ, List.set_cons_zero]))
              (refine rg_take (v := ?_) 3 rfl (by kernel_rfl) (by kernel_rfl) (by kernel_rfl) (fun _ _ _ h => h) (by rfl) (by assumption) (fun W hW => ?_) ?_; rotate_left; (focus (go_simp; try with_reducible rfl)); (try simp only [List.setIfInBounds_toArray, List.set_cons_succ, List.set_cons_zero]))
              (refine rg_take (v := ?_) 4 rfl (by kernel_rfl) (by kernel_rfl) (by kernel_rfl) (fun _ _ _ h => h) (by rfl) (by assumption) (fun W hW => ?_) ?_; rotate_left; (focus (go_simp; try with_reducible rfl)); (try simp only [List.setIfInBounds_toArray, List.set_cons_succ, List.set_cons_zero]))
              (refine rg_take (v := ?_) 6 rfl (by kernel_rfl) (by kernel_rfl) (by kernel_rfl) (fun _ _ _ h => h) (by rfl) (by assumption) (fun W hW => ?_) ?_; rotate_left; (focus (go_simp; try with_reducible rfl)); (try simp only [List.setIfInBounds_toArray, List.set_cons_succ, List.set_cons_zero]))
              (refine rg_take (v := ?_) 7 rfl (by kernel_rfl) (by kernel_rfl) (by kernel_rfl) (fun _ _ _ h => h) (by rfl) (by assumption) (fun W hW => ?_) ?_; rotate_left; (focus (go_simp; try with_reducible rfl)); (try simp only [List.setIfInBounds_toArray, List.set_cons_succ, List.set_cons_zero]))
              (refine rg_take (v := ?_) 8 rfl (by kernel_rfl) (by kernel_rfl) (by kernel_rfl) (fun _ _ _ h => h) (by rfl) (by assumption) (fun W hW => ?_) ?_; rotate_left; (focus (go_simp; try with_reducible rfl)); (try simp only [List.setIfInBounds_toArray, List.set_cons_succ, List.set_cons_zero]))
              (refine rg_take (v := ?_) 9 rfl (by kernel_rfl) (by kernel_rfl) (by kernel_rfl) (fun _ _ _ h => h) (by rfl) (by assumption) (fun W hW => ?_) ?_; rotate_left; (focus (go_simp; try with_reducible rfl)); (try simp only [List.setIfInBounds_toArray, List.set_cons_succ, List.set_cons_zero]))
              (refine rg_take (v := ?_) 10 rfl (by kernel_rfl) (by kernel_rfl) (by kernel_rfl) (fun _ _ _ h => h) (by rfl) (by assumption) (fun W hW => ?_) ?_; rotate_left; (focus (go_simp; try with_reducible rfl)); (try simp only [List.setIfInBounds_toArray, List.set_cons_succ, List.set_cons_zero]))
              (refine rg_take (v := ?_) 11 rfl (by kernel_rfl) (by kernel_rfl) (by kernel_rfl) (fun _ _ _ h => h) (by rfl) (by assumption) (fun W hW => ?_) ?_; rotate_left; (focus (go_simp; try with_reducible rfl)); (try simp only [List.setIfInBounds_toArray, List.set_cons_succ, List.set_cons_zero]))
              (refine rg_take (v := ?_) 12 rfl (by kernel_rfl) (by kernel_rfl) (by kernel_rfl) (fun _ _ _ h => h) (by rfl) (by assumption) (fun W hW => ?_) ?_; rotate_left; (focus (go_simp; try with_reducible rfl)); (try simp only [List.setIfInBounds_toArray, List.set_cons_succ, List.set_cons_zero]))
              (refine rg_take (v := ?_) 13 rfl (by kernel_rfl) (by kernel_rfl) (by kernel_rfl) (fun _ _ _ h => h) (by rfl) (by assumption) (fun W hW => ?_) ?_; rotate_left; (focus (go_simp; try with_reducible rfl)); (try simp only [List.setIfInBounds_toArray, List.set_cons_succ, List.set_cons_zero]))
              (refine rg_take (v := ?_) 14 rfl (by kernel_rfl) (by kernel_rfl) (by kernel_rfl) (fun _ _ _ h => h) (by rfl) (by assumption) (fun W hW => ?_) ?_; rotate_left; (focus (go_simp; try with_reducible rfl)); (try simp only [List.setIfInBounds_toArray, List.set_cons_succ, List.set_cons_zero]))
              (refine rg_take (v := ?_) 15 rfl (by kernel_rfl) (by kernel_rfl) (by kernel_rfl) (fun _ _ _ h => h) (by rfl) (by assumption) (fun W hW => ?_) ?_; rotate_left; (focus (go_simp; try with_reducible rfl)); (try simp only [List.setIfInBounds_toArray, List.set_cons_succ, List.set_cons_zero]))
              refine rg_two 5 16 (by kernel_rfl) rfl (by rfl) rfl (by rfl) (fun K hK => ?_) (fun K hK => ?_)
              focus
                go_simp
                refine hK _ _ trivial (fun _ => ?_)
                clear hK K
                try simp only [List.setIfInBounds_toArray, List.set_cons_succ, List.set_cons_zero]
                (refine rg_one 16 (by kernel_rfl) rfl (by rfl) (fun K hK => ?_); go_simp)
                refine hK _ _ trivial (fun _ => ?_)
                clear hK K
                try simp only [List.setIfInBounds_toArray, List.set_cons_succ, List.set_cons_zero]
              rotate_left
              focus
                go_simp
                refine hK _ _ trivial (fun _ => ?_)
                clear hK K
                try simp only [List.setIfInBounds_toArray, List.set_cons_succ, List.set_cons_zero]
                have c0' := ((Ext.refl wr).alloc (.cells #[.int .i64 (x1 : Int), .int .i64 (x2 : Int)] 132)).cell c1
                (refine rg_one 5 (by kernel_rfl) rfl (by rfl) (fun K hK => ?_); go_simp)
                refine hK _ _ trivial (fun _ => ?_)
                clear hK K c0'
                try simp only [List.setIfInBounds_toArray, List.set_cons_succ, List.set_cons_zero]
              all_goals
                have EW : Ext wr (wr.alloc (.cells #[.int .i64 (x1 : Int), .int .i64 (x2 : Int)] 132)).drew := ((Ext.refl wr).alloc _).drew
                have BN := (Blk.new wr 132 [.int .i64 (x1 : Int), .int .i64 (x2 : Int)]).drew
                have OD := own_ext HVD.out EW
                have OT := own_ext HVT.out EW
                have LB := HLB.out.ext EW
                have EW2 := hE.trans EW
                clear c0 c1
                generalize (wr.alloc (.cells #[.int .i64 (x1 : Int), .int .i64 (x2 : Int)] 132)).drew = W at EW BN OD OT LB EW2 ⊢
                have hleW := EW2.le
                refine rg_one 17 (by kernel_rfl) rfl (by rfl) (fun K hK => ?_)
                refine wp_append_own2 (.tmp 56) (.tmp 67) 129 w.heap.size 132 i0 (.agg #[.int .i64 0, .int .i64 0]) 2 16 Try.underlying129 hi hz0 hz1 hz2 rfl (by decide) _ t.length _ rfl OT ⟨wr.heap.size, 0, none⟩ 1 1 [.int .i64 (x1 : Int), .int .i64 (x2 : Int)] rfl rfl (rd_add BN.rd) (by intro u hu; simp at hu; rcases hu with rfl | rfl <;> rfl) (by unfold maxLen; omega) (by omega) hleW ?_
                intro v2 W2 O2 G2 hw2
                refine hK _ _ trivial (fun _ => ?_)
                clear hK K
                simp only [Act.put]
                try simp only [List.setIfInBounds_toArray, List.set_cons_succ, List.set_cons_zero]
                have hneL := own_apart OT LB (by decide)
                have LB2 : Blk W2 (w.heap.size + 1 + 1) 129 [vd, vt] := (G2.block _ LB.lt hneL).trans LB
                have OT2 := own_far2 OD G2 (fun k h1 h2 => HAP.out k h1 h2)
                have E2 : Ext w W2 := EW2.grown G2 (own_blk OT)
                have hap2 : Apart vd v2 := by
                  intro k h2 h1
                  rcases hw2 with h | h
                  · rw [h] at h1; exact HAP.out k h2 h1
                  · have := h k h1; have := own_lt OD k h2; omega
                have O2' : W2.ownsRow w.heap.size 132 2 v2 (t.length + 1) (prs (t ++ [(x1, x2)])) := by rw [prs_snoc]; exact O2
                have hneL2 := own_apart O2' LB2 (by decide)
                have hneL3 := own_apart OT2 LB2 (by decide)
                obtain ⟨A2, cap2, hv2⟩ := own_slice2 O2'
                have HO2 := Lib.hid (own_far O2' (grown_one (w := W2) (b := w.heap.size + 1 + 1) (i := 1) (u := v2)) hneL2.symm)
                have HOT := Lib.hid (own_far OT2 (grown_one (w := W2) (b := w.heap.size + 1 + 1) (i := 1) (u := v2)) hneL3.symm)
                have HL2 := Lib.hid (LB2.set 1 v2)
                have HE2 := Lib.hid (E2.set (p := ⟨w.heap.size + 1 + 1, 1, none⟩) (by dsimp only; omega) v2)
                have HAP2 := Lib.hid hap2
                obtain ⟨c0, c1⟩ := LB2.cells2
                have f0 := LB2.frozen 1
                clear OD OT LB BN EW EW2 OT2 O2' O2 G2 hneL hneL2 hneL3 hap2 hw2 E2 LB2
                subst hv2
                (refine rg_take (v := ?_) 18 rfl (by kernel_rfl) (by kernel_rfl) (by kernel_rfl) (fun _ _ _ h => h) (by rfl) (by assumption) (fun W hW => ?_) ?_; rotate_left; (focus (go_simp; try with_reducible rfl)); (try simp only [List.setIfInBounds_toArray, List.set_cons_succ, List.set_cons_zero]))
                (refine rg_one 19 (by kernel_rfl) rfl (by rfl) (fun K hK => ?_); go_simp)
                refine hK _ _ trivial (fun _ => ?_)
                clear hK K
                try simp only [List.setIfInBounds_toArray, List.set_cons_succ, List.set_cons_zero]
                refine rg_done (by kernel_rfl) ?_
                clear c0 c1 f0
                go_wp2_with fail
                go_roundw
                case rel => exact ⟨i + 1, q' + 1 + 1, t ++ [(x1, x2)], _, by go_num, by go_num, by omega, by have := HJ.out; omega, by rw [HJ.out, List.length_append]; exact hd3, by rw [HJ.out]; exact HDD2.out, by rw [HJ.out]; exact HDR2.out, HL2.out, HOT.out, by rw [List.length_append]; exact HO2.out, HAP2.out, HE2.out⟩
                case measure => simp [intOf]; omega
            · have him : i = m := by omega
              subst him
              have HD3 := Lib.hid (show t = D by have := HDD.out; rw [Nat.sub_self] at this; simpa [rdPs] using this)
              have HR3 := Lib.hid (show s.data.toList.drop q' = R by have := HDR.out; rw [Nat.sub_self] at this; exact this)
              have hltI : ¬ (i : Int) < (i : Int) := by omega
              have hq3 : q' ≤ s.size := by omega
              clear HDD HDR
              go_wp2_with fail
              go_roundw
              case rel => exact ⟨2, q', d, t, vd, vt, rfl, rfl, by omega, hq3, HLB.out, HVD.out, HVT.out, HAP.out, hE, ck1_end hq3 HR3.out (by rw [HD3.out]; exact HC2.out)⟩
              case measure => simp [intOf]
        · have hovI : (s.size : Int) < (q : Int) + 1 + 2 * (s[q].toNat : Int) := by omega
          have HV := Lib.hid (show O = none by
            rw [← HC.out, hdr]
            simp only [rdCk1]
            rw [if_neg]
            simp only [List.length_drop, Array.length_toList]
            show ¬ _ ≤ s.size - _
            omega)
          obtain ⟨c0, c1⟩ := HLB.out.cells2
          go_wp2_with fail
          go_quiet (fail)
          go_wp2_with fail
          go_ret3
          exact .no HV.out HVD.out HVT.out (hE.drewN _)
end Go.Proofs.Yteaefjicpefgnaa
