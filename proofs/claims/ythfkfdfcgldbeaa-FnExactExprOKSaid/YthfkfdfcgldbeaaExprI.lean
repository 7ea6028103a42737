/- The walk of the program's depthOf and ExprOK (printed by gen_expri.py). -/
import Derived.Test.YthfkfdfcgldbeaaExprS2
import Derived.Test.YthfkfdfcgldbeaaCodec
import Derived.Test.YthfkfdfcgldbeaaMarkB
namespace Go.Proofs.Ythfkfdfcgldbeaa
open Go.RowKit Go.Deep
set_option linter.unusedVariables false
set_option maxRecDepth 100000
/-- the cells of the stack, top first in the list -/
def stC (st : List (Int × Int)) : List Value := st.reverse.flatMap fun p => [Value.int .i64 p.1, Value.int .i64 p.2]
theorem stC_cons (k d : Int) (r : List (Int × Int)) : stC ((k, d) :: r) = stC r ++ [.int .i64 k, .int .i64 d] := by unfold stC; rw [List.reverse_cons, List.flatMap_append]; simp
theorem stC_len (st : List (Int × Int)) : (stC st).length = st.length * 2 := by
  induction st with
  | nil => rfl
  | cons p r ih => obtain ⟨k, d⟩ := p; rw [stC_cons, List.length_append, ih, List.length_cons]; simp; omega
def popR (st : List (Int × Int)) (want : Int) : Option (Int × List (Int × Int)) := match st with
  | [] => none
  | (k, d) :: r => if k = want then some (d, r) else none
theorem step_kind0 {i : Int} {x : ENode} {st : List (Int × Int)} (h : x.kind = 0) : stepE i x st = none := by unfold stepE; rw [if_neg (by omega), if_neg (by omega), if_neg (by omega)]
theorem step_leaf {i : Int} {x : ENode} {st : List (Int × Int)} (h : x.kind = 1) : stepE i x st = some ((i, 1) :: st) := by unfold stepE; rw [if_pos h]
theorem step_one_no {i : Int} {x : ENode} {st : List (Int × Int)} (h : x.kind = 2 ∨ x.kind = 0) (hp : popR st x.a = none) : stepE i x st = none := by
  rcases h with h | h
  · unfold stepE; rw [if_neg (by omega), if_pos h]
    rcases st with _ | ⟨⟨k, d⟩, r⟩
    · rfl
    · unfold popR at hp; simp only at hp ⊢
      split at hp
      · cases hp
      · next hk => rw [if_neg hk]
  · exact step_kind0 h
theorem step_one_yes {i d : Int} {x : ENode} {st r : List (Int × Int)} (h : x.kind = 2) (hp : popR st x.a = some (d, r)) : stepE i x st = some ((i, d + 1) :: r) := by
  unfold stepE; rw [if_neg (by omega), if_pos h]
  rcases st with _ | ⟨⟨k, d'⟩, r'⟩
  · cases hp
  · unfold popR at hp; simp only at hp ⊢
    split at hp
    · next hk => injection hp with hp; injection hp with h1 h2; subst h1; subst h2; rw [if_pos hk]
    · cases hp
theorem step_two_no {i : Int} {x : ENode} {st : List (Int × Int)} (h : x.kind = 3 ∨ x.kind = 0) (hp : popR st x.b = none) : stepE i x st = none := by
  rcases h with h | h
  · unfold stepE; rw [if_neg (by omega), if_neg (by omega), if_pos h]
    rcases st with _ | ⟨⟨k, d⟩, _ | ⟨⟨k2, c⟩, r⟩⟩
    · rfl
    · rfl
    · unfold popR at hp; simp only at hp ⊢
      split at hp
      · cases hp
      · next hk => rw [if_neg (fun hh => hk hh.1)]
  · exact step_kind0 h
theorem step_two_no2 {i d : Int} {x : ENode} {st r : List (Int × Int)} (h : x.kind = 3 ∨ x.kind = 0) (hp : popR st x.b = some (d, r)) (hp2 : popR r x.a = none) : stepE i x st = none := by
  rcases h with h | h
  · unfold stepE; rw [if_neg (by omega), if_neg (by omega), if_pos h]
    rcases st with _ | ⟨⟨k, d'⟩, r'⟩
    · rfl
    · unfold popR at hp; simp only at hp ⊢
      split at hp
      · injection hp with hp; injection hp with h1 h2; subst h1; subst h2
        rcases r' with _ | ⟨⟨k2, c⟩, r2⟩
        · rfl
        · unfold popR at hp2; simp only at hp2 ⊢
          split at hp2
          · cases hp2
          · next hk => rw [if_neg (fun hh => hk hh.2)]
      · cases hp
  · exact step_kind0 h
theorem step_two_yes {i d c : Int} {x : ENode} {st r1 r : List (Int × Int)} (h : x.kind = 3) (hp : popR st x.b = some (d, r1)) (hp2 : popR r1 x.a = some (c, r)) : stepE i x st = some ((i, max c d + 1) :: r) := by
  unfold stepE; rw [if_neg (by omega), if_neg (by omega), if_pos h]
  rcases st with _ | ⟨⟨k, d'⟩, r'⟩
  · cases hp
  · unfold popR at hp; simp only at hp ⊢
    split at hp
    · next hk =>
      injection hp with hp; injection hp with h1 h2; subst h1; subst h2
      rcases r' with _ | ⟨⟨k2, c'⟩, r2⟩
      · cases hp2
      · unfold popR at hp2; simp only at hp2 ⊢
        split at hp2
        · next hk2 => injection hp2 with hp2; injection hp2 with h1 h2; subst h1; subst h2; rw [if_pos ⟨hk, hk2⟩]
        · cases hp2
    · cases hp
theorem run_step_of {l : List ENode} {i : Nat} {x : ENode} {st st' : List (Int × Int)} (hx : l[i]? = some x) (h : runE l i 0 [] = some st) (hs : stepE (i : Int) x st = some st') : runE l (i + 1) 0 [] = some st' := (run_step hx h).trans hs
theorem chain_bound {l : List ENode} : ∀ (st : List (Int × Int)) (i : Nat), ChainE l st i → (∀ p ∈ st, 1 ≤ p.2 ∧ p.2 ≤ (i : Int)) ∧ st.length ≤ i
  | [], i, h => ⟨fun p hp => absurd hp List.not_mem_nil, Nat.zero_le _⟩
  | (k, d) :: r, i, h => by
    obtain ⟨_, f, hw, hr⟩ := h
    have hb := walkE_bound _ _ _ hw
    have ih := chain_bound r f hr
    refine ⟨fun p hp => ?_, by rw [List.length_cons]; omega⟩
    rcases List.mem_cons.1 hp with rfl | hp
    · exact ⟨hb.2.1, hb.2.2⟩
    · have := ih.1 p hp; omega
theorem own_sl2 {w : World} {B n size : Nat} {e : TypeId} {v : Value} {xs : List Value} (h : w.ownsRow B e size v n xs) : ∃ A cap, v = .slice A n cap := by
  obtain ⟨_, h | ⟨g, cap, cur, h, _⟩⟩ := h
  · exact ⟨none, 0, by rw [h.1, h.2]⟩
  · exact ⟨_, _, h⟩
theorem own_some_blk' {w : World} {B n size g : Nat} {e : TypeId} {v : Value} {xs : List Value} (h : w.ownsRow B e size v n xs) (hg : v.ownBlock = some g) : ∃ cs, Blk w g e cs := by
  obtain ⟨_, h⟩ := h
  rcases h with ⟨rfl, _⟩ | ⟨g', cap, cur, rfl, _, hh, _⟩
  · cases hg
  · injection hg with hg
    subst hg
    exact ⟨cur.toList, by simpa [Blk] using hh⟩
theorem blk_ty' {w : World} {k : Nat} {t t' : TypeId} {cs cs' : List Value} (h : Blk w k t cs) (h' : Blk w k t' cs') : t = t' := by
  unfold Blk at h h'
  rw [h] at h'
  injection h' with h'; injection h' with _ h' _
/-- the top of the stack in memory, and what stays without it -/
theorem own_top {w : World} {B n : Nat} {e : TypeId} {v : Value} {xs : List Value} {a b : Value} (h : w.ownsRow B e 2 v (n + 1) (xs ++ [a, b])) (hx : xs.length = n * 2) :
    ∃ g cap, v = .slice (some ⟨g, 0, none⟩) (n + 1) cap ∧ n + 1 ≤ cap ∧ cap ≤ maxLen ∧ w.cell? ⟨g, n * 2, none⟩ = some a ∧ w.cell? ⟨g, n * 2 + 1, none⟩ = some b ∧ w.ownsRow B e 2 (.slice (some ⟨g, 0, none⟩) n cap) n xs := by
  obtain ⟨hl, h⟩ := h
  rcases h with ⟨_, h0⟩ | ⟨g, cap, cur, rfl, hb, hh, h1, h2, h3, h4⟩
  · omega
  · have hB : Blk w g e cur.toList := by simpa [Blk] using hh
    have e1 : cur.toList = xs ++ ([a, b] ++ cur.toList.drop ((n + 1) * 2)) := by rw [← List.append_assoc, ← h4, List.take_append_drop]
    rw [e1] at hB
    refine ⟨g, cap, rfl, h1, h2, ?_, ?_, hx, .inr ⟨g, cap, cur, rfl, hb, hh, by omega, h2, h3, ?_⟩⟩
    · exact Blk.mid hB hx (j := 0) (by simp)
    · exact Blk.mid hB hx (j := 1) (by simp)
    · rw [e1, List.take_left' hx]
/-- the stack and its box -/
def PS (ST PT : TypeId) (B sb : Nat) (st : List (Int × Int)) (w : World) : Prop := ∃ v, Blk w sb ST [v] ∧ w.ownsRow B PT 2 v st.length (stC st)
theorem PS.ext {ST PT : TypeId} {B sb : Nat} {st : List (Int × Int)} {w w' : World} (h : PS ST PT B sb st w) (E : Ext w w') : PS ST PT B sb st w' := by
  obtain ⟨v, h1, h2⟩ := h
  exact ⟨v, h1.ext E, own_ext h2 E⟩
theorem row_far {w : World} {B n b i size : Nat} {e t : TypeId} {v u : Value} {xs cs : List Value} (h : w.ownsRow B e size v n xs) (hb : Blk w b t cs) (hne : t ≠ e) : (w.setCell ⟨b, i, none⟩ u).ownsRow B e size v n xs :=
  own_far h (grown_step (World.grownBy.refl _ _) (Ext.refl _) b i u) (fun e => by obtain ⟨cs', hb'⟩ := own_some_blk' h e; exact hne (blk_ty' hb hb'))
theorem PS.push {w : World} {B sb : Nat} {A : Option Addr} {c : Nat} {v : Value} {k d : Int} {r : List (Int × Int)} (hb : Blk w sb 157 [v]) (ho : w.ownsRow B 159 2 (.slice A (r.length + 1) c) (r.length + 1) (stC r ++ [.int .i64 k, .int .i64 d])) : PS 157 159 B sb ((k, d) :: r) (w.setCell ⟨sb, 0, none⟩ (.slice A (r.length + 1) c)) :=
  ⟨_, hb.set 0 _, by rw [stC_cons, List.length_cons]; exact row_far ho hb (by decide)⟩
/-- at most the stack's box has turned -/
def Keep (sb : Nat) (w w' : World) : Prop := w' = w ∨ ∃ u, w' = w.setCell ⟨sb, 0, none⟩ u
theorem Keep.ext {w0 w w' : World} {sb : Nat} (h : Keep sb w w') (E : Ext w0 w) (hb : w0.heap.size ≤ sb) : Ext w0 w' := by
  rcases h with rfl | ⟨u, rfl⟩
  · exact E
  · exact E.set hb u
theorem Keep.blk {w w' : World} {sb b : Nat} {t : TypeId} {cs : List Value} (h : Keep sb w w') (hB : Blk w b t cs) (hne : b ≠ sb) : Blk w' b t cs := by
  rcases h with rfl | ⟨u, rfl⟩
  · exact hB
  · exact hB.far (p := ⟨sb, 0, none⟩) hne u
/-- what the pop answers -/
def PopPost (w : World) (B sb : Nat) (want : Int) (st : List (Int × Int)) (e : Ending) (w' : World) : Prop :=
  ∃ (d : Int) (ok : Bool) (st' : List (Int × Int)), e = .returned (.tuple #[.int .i64 d, .bool ok]) ∧ PS 157 159 B sb st' w' ∧ Keep sb w w' ∧ st'.length ≤ st.length ∧ (∀ p ∈ st', p ∈ st) ∧ (ok = true → popR st want = some (d, st')) ∧ (ok = false → popR st want = none ∧ d = 0)
theorem popR_bound {st r : List (Int × Int)} {want d M : Int} (h : popR st want = some (d, r)) (hb : (∀ p ∈ st, 1 ≤ p.2 ∧ p.2 ≤ M)) : (1 ≤ d ∧ d ≤ M) ∧ (∀ p ∈ r, 1 ≤ p.2 ∧ p.2 ≤ M) ∧ r.length ≤ st.length := by
  unfold popR at h
  rcases st with _ | ⟨⟨k, d'⟩, r'⟩
  · cases h
  · simp only at h
    split at h
    · injection h with h; injection h with h1 h2; subst h1; subst h2
      exact ⟨hb _ List.mem_cons_self, fun p hp => hb p (List.mem_cons_of_mem _ hp), by simp⟩
    · cases h
theorem info_part : (Try.prog.info? 159).map (fun i => (i.zero, i.size, i.bytes)) = some (some (Value.agg #[.int .i64 0, .int .i64 0]), 2, 16) := by kernel_rfl
theorem call_pop (args : Array Value) (W : World) : (callFunc 118 args).run Try.prog W = .ok (.enter 118 args) W := by kernel_rfl
set_option maxHeartbeats 2000000 in
theorem impl_pop (sb B : Nat) (want : Int) (st : List (Int × Int)) (w : World) (hps : PS 157 159 B sb st w) (hn : st.length ≤ 1000) :
    Calls Try.prog 118 #[.int .i64 want, .pointer (some ⟨sb, 0, none⟩)] w (PopPost w B sb want st) := by
  have HPS := Lib.hid hps
  obtain ⟨v, hb, hrow⟩ := hps
  rcases st with _ | ⟨⟨k, d⟩, r⟩
  · obtain ⟨A0, c0, rfl⟩ := own_sl2 hrow
    have s0 := hb.cell (i := 0) (by simp)
    simp only [List.getElem_cons_zero, List.length_nil] at s0
    clear hb hrow
    go_enter Try.func118, Try.ntmps118
    go_wp2_with fail
    go_ret2
    exact ⟨0, false, [], rfl, HPS.out, .inl rfl, Nat.le_refl _, (fun _ h => h), (fun h => by cases h), fun _ => ⟨rfl, rfl⟩⟩
  · rw [stC_cons, List.length_cons] at hrow
    obtain ⟨g, cap, rfl, hcap, hcm, t0, t1, hrest⟩ := own_top hrow (stC_len r)
    have s0 := hb.cell (i := 0) (by simp)
    have f0 := hb.frozen 0
    simp only [List.getElem_cons_zero] at s0
    have HB := Lib.hid hb
    unfold maxLen at hcm
    rw [List.length_cons] at hn
    generalize hrl : r.length = n at s0 t0 t1 hcap hrest hn
    have HREST := Lib.hid hrest
    have HRL := Lib.hid hrl
    clear hb hrow hrest hrl
    have hn0 : ¬ (n : Int) < 0 := by omega
    have hn1 : (n : Int) < (n : Int) + 1 := by omega
    have hn2 : (n : Int) ≤ (n : Int) + 1 := by omega
    by_cases hk : k = want
    rotate_left
    · have hkb : (k != want) = true := by rw [bne_iff_ne]; exact hk
      have HK := Lib.hid hk
      clear hk
      go_enter Try.func118, Try.ntmps118
      go_wp2_with fail
      go_ret2
      exact ⟨0, false, (k, d) :: r, rfl, HPS.out, .inl rfl, Nat.le_refl _, (fun _ h => h), (fun h => by cases h), fun _ => ⟨by unfold popR; simp only; rw [if_neg HK.out], rfl⟩⟩
    · subst hk
      have hkb : (k != k) = false := by simp
      go_enter Try.func118, Try.ntmps118
      go_wp2_with fail
      go_ret2
      exact ⟨d, true, r, rfl, ⟨_, HB.out.set 0 _, by rw [HRL.out]; exact row_far HREST.out HB.out (by decide)⟩, .inr ⟨_, rfl⟩, by simp, (fun p hp => List.mem_cons_of_mem _ hp), (fun _ => by unfold popR; simp), fun h => by cases h⟩
theorem expr_isUnary (a : Int) (w : World) : Calls Try.prog 119 #[.int .i64 a] w fun e w' => e = .returned (.bool (inB a 3 5)) ∧ w = w' := by
  have HI := Lib.hid (fun W => impl_inRange a 3 5 W)
  go_enter Try.func119, Try.ntmps119
  go_wp2_with fail
  refine (HI.out _).mono ?_
  rintro e w' ⟨rfl, rfl⟩
  go_wp2_with fail
  go_ret
  exact ⟨rfl, rfl⟩
theorem expr_isBinary (a : Int) (w : World) : Calls Try.prog 81 #[.int .i64 a] w fun e w' => e = .returned (.bool (inB a 6 13)) ∧ w = w' := by
  have HI := Lib.hid (fun W => impl_inRange a 6 13 W)
  go_enter Try.func81, Try.ntmps81
  go_wp2_with fail
  refine (HI.out _).mono ?_
  rintro e w' ⟨rfl, rfl⟩
  go_wp2_with fail
  go_ret
  exact ⟨rfl, rfl⟩
theorem expr_isPlace3 (d : Int) (w : World) : Calls Try.prog 107 #[.int .i64 d, .int .i64 3] w fun e w' => e = .returned (.bool (inB d 0 2)) ∧ w = w' := by
  have HI := Lib.hid (fun W => impl_inRange d 0 2 W)
  go_enter Try.func107, Try.ntmps107
  go_wp2_with fail
  refine (HI.out _).mono ?_
  rintro e w' ⟨rfl, rfl⟩
  go_wp2_with fail
  go_ret
  exact ⟨rfl, rfl⟩
set_option maxRecDepth 100000 in
set_option maxHeartbeats 20000000 in
theorem impl_depthOf (A : Option Addr) (n p : Nat) (l : List CExprNode) (w : World) (hl : l.length = n) (hn : n ≤ 40) (hxs : ∀ x ∈ l, x.s.size ≤ maxLen) (hr : Rd w A (l.flatMap CExprNode.cs)) :
    Calls Try.prog 77 #[.slice A n p] w fun e w' => ∃ D, e = .returned (.int .i64 D) ∧ Ext w w' ∧ inB D 1 12 = exprB (l.map toE) := by
  generalize hEE : l.map toE = EE
  have HEE := Lib.hid hEE
  have HL := Lib.hid hl
  have HR := Lib.hid hr
  have HXS := Lib.hid hxs
  have hEl : EE.length = n := by rw [← hEE, List.length_map, hl]
  have HEL := Lib.hid hEl
  clear hEE hl hr hxs hEl
  obtain ⟨i0, hi, hz0, hz1, hz2⟩ := info_parts info_part
  have hE0 : Ext w ((w.alloc (.cells #[] 159)).alloc (.cells #[.slice (some ⟨w.heap.size, 0, none⟩) 0 0] 157)) := (by repeat (first | exact Ext.refl _ | assumption | refine Ext.alloc ?_ _ | refine Ext.drewN ?_ _ | refine Ext.drew ?_ | refine Ext.set ?_ (by dsimp only; omega) _ | refine Ext.trans ?_ (by assumption)))
  have hb0 := Blk.new (w.alloc (.cells #[] 159)) 157 [.slice (some ⟨w.heap.size, 0, none⟩) 0 0]
  rw [World.size_alloc] at hb0
  have hr0 := World.ownsRow_lit (base := w.heap.size) (e := 159) (size := 2) w #[] 0 (Nat.le_refl _) (by unfold maxLen; omega) rfl
  have HPS0 := Lib.hid (show PS 157 159 w.heap.size (w.heap.size + 1) [] ((w.alloc (.cells #[] 159)).alloc (.cells #[.slice (some ⟨w.heap.size, 0, none⟩) 0 0] 157)) from ⟨_, hb0, own_ext hr0 ((Ext.refl _).alloc _)⟩)
  have HE0 := Lib.hid hE0
  clear hE0 hb0 hr0
  go_enter Try.func77, Try.ntmps77
  go_wp2_with fail
  go_loopw [17] (fun iv wr => ∃ (ii : Nat) (st : List (Int × Int)), ii ≤ n ∧ iv = .int .i64 ii ∧ PS 157 159 w.heap.size (w.heap.size + 1) st wr ∧ Ext w wr ∧ runE EE ii 0 [] = some st) (fun iv _ => n - (intOf iv).toNat)
  case atStart => exact ⟨0, [], Nat.zero_le _, rfl, HPS0.out, HE0.out, rfl⟩
  case round =>
    obtain ⟨ii, st, hii, rfl, hps, hE, hrun⟩ := hrel
    have hch := chainE_run ii 0 [] st rfl hrun
    rw [Nat.zero_add] at hch
    obtain ⟨hbd, hsl⟩ := chain_bound _ _ hch
    have HCH := Lib.hid hch
    have HBND := Lib.hid hbd
    have HPS := Lib.hid hps
    have HE := Lib.hid hE
    have HRUN := Lib.hid hrun
    clear hch hbd hrun
    by_cases hin : ii < n
    rotate_left
    · obtain rfl : n = ii := by omega
      have hin0 : ¬ (n : Int) < (n : Int) := by omega
      obtain ⟨v, hsb, hrow⟩ := hps
      have HNB := Lib.hid (fun h => exprB_no (l := EE) (st := some st) (by rw [HEL.out]; exact HRUN.out) h)
      rcases st with _ | ⟨⟨k1, d1⟩, _ | ⟨y2, r⟩⟩
      · obtain ⟨Av, cv, rfl⟩ := own_sl2 hrow
        have s0 := hsb.cell (i := 0) (by simp)
        simp only [List.getElem_cons_zero, List.length_nil] at s0
        clear hsb hrow hE hin
        go_wp2_with fail
        go_ret
        exact ⟨0, rfl, HE.out, by rw [HNB.out (by intro y e; cases e)]; rfl⟩
      · rw [stC_cons] at hrow
        obtain ⟨gg, cap, rfl, hcap, -, -, t1, -⟩ := own_top (n := 0) hrow rfl
        rw [Nat.zero_mul, Nat.zero_add] at t1
        have s0 := hsb.cell (i := 0) (by simp)
        simp only [List.getElem_cons_zero] at s0
        have HD := Lib.hid (show inB d1 1 12 = exprB EE by
          have h1 := exprB_of_run (l := EE) (k := k1) (d := d1) (by rw [HEL.out]; exact HCH.out)
          have h2 := (HBND.out (k1, d1) List.mem_cons_self).1
          rw [h1]; unfold inB; rw [decide_eq_true h2, Bool.true_and])
        clear hsb hrow hE hin
        go_wp2_with fail
        go_ret
        exact ⟨d1, rfl, HE.out, HD.out⟩
      · obtain ⟨Av, cv, rfl⟩ := own_sl2 hrow
        have s0 := hsb.cell (i := 0) (by simp)
        simp only [List.getElem_cons_zero] at s0
        generalize hq : (((k1, d1) :: y2 :: r).length) = q at s0
        have hq2 : 2 ≤ q := by rw [← hq]; simp
        have hqb : ((q : Int) != 1) = true := by rw [bne_iff_ne]; omega
        clear hsb hrow hE hin hq
        go_wp2_with fail
        go_ret
        exact ⟨0, rfl, HE.out, by rw [HNB.out (by intro y e; cases e)]; rfl⟩
    have HIN := Lib.hid hin
    have hinI : (ii : Int) < (n : Int) := by omega
    have hml : ii < l.length := by rw [HL.out]; exact hin
    have hxm : EE[ii]? = some (toE l[ii]) := by rw [← HEE.out, List.getElem?_map, List.getElem?_eq_getElem hml]; rfl
    have hss := HXS.out _ (List.getElem_mem hml)
    obtain ⟨bn, on, rfl, hc⟩ := (HR.out.ext hE).flat CExprNode.len (by decide) hml
    have c0 : wr.cell? ⟨bn, on + ii * 7, none⟩ = some (.int .i64 l[ii].a) := by exact hc 0 _ rfl
    have c1 : wr.cell? ⟨bn, on + ii * 7 + 1, none⟩ = some (.int .i64 l[ii].b) := by rw [Nat.add_assoc]; exact hc 1 _ rfl
    have c2 : wr.cell? ⟨bn, on + ii * 7 + 2, none⟩ = some (.int .i64 l[ii].c) := by rw [Nat.add_assoc]; exact hc 2 _ rfl
    have c3 : wr.cell? ⟨bn, on + ii * 7 + 3, none⟩ = some (.int .i64 l[ii].d) := by rw [Nat.add_assoc]; exact hc 3 _ rfl
    have c4 : wr.cell? ⟨bn, on + ii * 7 + 4, none⟩ = some (.int .i64 l[ii].g) := by rw [Nat.add_assoc]; exact hc 4 _ rfl
    have c5 : wr.cell? ⟨bn, on + ii * 7 + 5, none⟩ = some (.int .i64 l[ii].h) := by rw [Nat.add_assoc]; exact hc 5 _ rfl
    have c6 : wr.cell? ⟨bn, on + ii * 7 + 6, none⟩ = some (.string l[ii].s) := by rw [Nat.add_assoc]; exact hc 6 _ rfl
    generalize l[ii] = x at hxm hss c0 c1 c2 c3 c4 c5 c6
    obtain ⟨a, b, c, d, g, h, s⟩ := x
    dsimp only at hss c0 c1 c2 c3 c4 c5 c6
    have HXM := Lib.hid hxm
    have HSTOP := Lib.hid (fun hs => exprB_no (l := EE) (st := none) (by rw [HEL.out]; exact run_stop HXM.out HRUN.out hs hin) (fun y e => by cases e))
    have HB := Lib.hid (Blk.new wr 155 [.int .i64 a, .int .i64 b, .int .i64 c, .int .i64 d, .int .i64 g, .int .i64 h, .string s])
    have HEY := Lib.hid (hE.alloc (.cells #[.int .i64 a, .int .i64 b, .int .i64 c, .int .i64 d, .int .i64 g, .int .i64 h, .string s] 155))
    have HPSY := Lib.hid (hps.ext ((Ext.refl wr).alloc (.cells #[.int .i64 a, .int .i64 b, .int .i64 c, .int .i64 d, .int .i64 g, .int .i64 h, .string s] 155)))
    have hnb : wr.heap.size ≠ w.heap.size + 1 := by obtain ⟨v, hsb, -⟩ := hps; have := hsb.lt; omega
    have hzq := run_zero_Value g h s
    have HVAL := Lib.hid (fun W => impl_ValueOK g h s W hss)
    have HI0 := Lib.hid (fun W => expr_isPlace3 d W)
    have HI1 := Lib.hid (fun W => expr_isUnary a W)
    have HI2 := Lib.hid (fun W => expr_isBinary a W)
    clear hxm hc hps hE hin HPS
    have hii40 : ii ≤ 40 := by omega
    by_cases ha1 : a = 1
    · subst ha1
      by_cases hb0 : b = 0
      rotate_left
      · have hb : (b == 0) = false := by rw [beq_eq_false_iff_ne]; exact hb0
        go_wp2_with fail
        go_ret
        exact ⟨0, rfl, HEY.out, by rw [HSTOP.out (step_kind0 (show nodeK ⟨1, b, c, d, g, h, s⟩ = 0 by unfold nodeK; dsimp only; rw [if_pos rfl, if_neg (fun hh => hb0 hh.1)]))]; rfl⟩
      subst hb0
      by_cases hc0 : c = 0
      rotate_left
      · have hc : (c == 0) = false := by rw [beq_eq_false_iff_ne]; exact hc0
        go_wp2_with fail
        go_ret
        exact ⟨0, rfl, HEY.out, by rw [HSTOP.out (step_kind0 (show nodeK ⟨1, 0, c, d, g, h, s⟩ = 0 by unfold nodeK; dsimp only; rw [if_pos rfl, if_neg (fun hh => hc0 hh.2.1)]))]; rfl⟩
      subst hc0
      by_cases hd0 : d = 0
      rotate_left
      · have hd : (d == 0) = false := by rw [beq_eq_false_iff_ne]; exact hd0
        go_wp2_with fail
        go_ret
        exact ⟨0, rfl, HEY.out, by rw [HSTOP.out (step_kind0 (show nodeK ⟨1, 0, 0, d, g, h, s⟩ = 0 by unfold nodeK; dsimp only; rw [if_pos rfl, if_neg (fun hh => hd0 hh.2.2.1)]))]; rfl⟩
      subst hd0
      rcases hv : valB g h s with _ | _
      · rw [hv] at HVAL
        have HKZ := Lib.hid (show stepE (ii : Int) (toE ⟨1, 0, 0, 0, g, h, s⟩) st = none from step_kind0 (show nodeK ⟨1, 0, 0, 0, g, h, s⟩ = 0 by unfold nodeK; dsimp only; rw [if_pos rfl, if_neg (fun hh => by have h4 := hh.2.2.2; rw [hv] at h4; cases h4)]))
        clear hv
        go_wp2_with fail
        refine (HVAL.out _).mono ?_
        rintro e w1 ⟨rfl, E1⟩
        go_wp2_with fail
        go_ret
        exact ⟨0, rfl, (HEY.out.trans E1), by rw [HSTOP.out (HKZ.out)]; rfl⟩
      · rw [hv] at HVAL
        have HKY := Lib.hid (show stepE (ii : Int) (toE ⟨1, 0, 0, 0, g, h, s⟩) st = some (((ii : Int), 1) :: st) from step_leaf (show nodeK ⟨1, 0, 0, 0, g, h, s⟩ = 1 by unfold nodeK; dsimp only; rw [if_pos rfl, if_pos ⟨rfl, rfl, rfl, hv⟩]))
        clear hv
        go_wp2_with fail
        refine (HVAL.out _).mono ?_
        rintro e w1 ⟨rfl, E1⟩
        have hps := (HPSY.out.ext E1)
        obtain ⟨vs, hsb, hrow⟩ := hps
        obtain ⟨Av, cv, rfl⟩ := own_sl2 hrow
        have s0 := hsb.cell (i := 0) (by simp)
        simp only [List.getElem_cons_zero] at s0
        have HSB := Lib.hid hsb
        have HROW := Lib.hid hrow
        have HSTEP := Lib.hid (run_step_of HXM.out HRUN.out (HKY.out))
        have hdb : (0 : Int) ≤ 1 := by omega
        clear hsb hrow
        go_wp2_with (at_builtin; refine wpList_append_own _ rfl (.tmp 133) (.tmp 138) 157 rfl w.heap.size 159 i0 (.agg #[.int .i64 0, .int .i64 0]) 2 16 Try.underlying157 hi hz0 hz1 hz2 rfl (by decide) _ st.length _ rfl (own_ext HROW.out ((Ext.refl _).alloc _)) ⟨w1.heap.size, 0, none⟩ 1 1 [.int .i64 (ii : Int), .int .i64 1] rfl rfl (rd_add (Blk.new w1 _ _).rd) (by intro u hu; simp at hu; rcases hu with rfl | rfl <;> rfl) (by unfold maxLen; omega) (by omega) (by rw [World.size_alloc]; have := ((HEY.out.trans E1)).le; omega) ?_)
        intro v' w9 ho9 hg9 _
        have hsb9 := (hg9.block (w.heap.size + 1) (Nat.lt_of_lt_of_le HSB.out.lt (by rw [World.size_alloc]; omega)) (fun e => by obtain ⟨cs', hb⟩ := own_some_blk' HROW.out e.symm; exact absurd (blk_ty' HSB.out hb) (by decide))).trans (HSB.out.ext ((Ext.refl _).alloc _))
        have HSB9 := Lib.hid (show Blk w9 (w.heap.size + 1) 157 [Value.slice Av st.length cv] from hsb9)
        have HE9 := Lib.hid ((((HEY.out.trans E1)).alloc _).grown hg9 (own_blk HROW.out))
        obtain ⟨A9, c9, rfl⟩ := own_sl2 ho9
        have HO9 := Lib.hid ho9
        have f9 := HSB9.out.frozen 0
        have s9 := HSB9.out.cell (i := 0) (by simp)
        simp only [List.getElem_cons_zero] at s9
        clear hsb9 hg9 ho9 s0
        go_wp2_with fail
        go_roundw
        case rel => exact ⟨ii + 1, _, HIN.out, by go_num, PS.push HSB9.out HO9.out, HE9.out.set (by dsimp only; omega) _, HSTEP.out⟩
        case measure => simp [intOf]; have := HIN.out; omega
    have ha1b : (a == 1) = false := by rw [beq_eq_false_iff_ne]; exact ha1
    by_cases ha2 : a = 2
    · subst ha2
      by_cases hb0 : b = 0
      rotate_left
      · have hb : (b == 0) = false := by rw [beq_eq_false_iff_ne]; exact hb0
        go_wp2_with fail
        go_ret
        exact ⟨0, rfl, HEY.out, by rw [HSTOP.out (step_kind0 (show nodeK ⟨2, b, c, d, g, h, s⟩ = 0 by unfold nodeK; dsimp only; rw [if_neg (by decide), if_pos rfl, if_neg (fun hh => hb0 hh.1)]))]; rfl⟩
      subst hb0
      by_cases hc0 : c = 0
      rotate_left
      · have hc : (c == 0) = false := by rw [beq_eq_false_iff_ne]; exact hc0
        go_wp2_with fail
        go_ret
        exact ⟨0, rfl, HEY.out, by rw [HSTOP.out (step_kind0 (show nodeK ⟨2, 0, c, d, g, h, s⟩ = 0 by unfold nodeK; dsimp only; rw [if_neg (by decide), if_pos rfl, if_neg (fun hh => hc0 hh.2.1)]))]; rfl⟩
      subst hc0
      rcases hd : inB d 0 2 with _ | _
      · rw [hd] at HI0
        have HKZ := Lib.hid (show stepE (ii : Int) (toE ⟨2, 0, 0, d, g, h, s⟩) st = none from step_kind0 (show nodeK ⟨2, 0, 0, d, g, h, s⟩ = 0 by unfold nodeK; dsimp only; rw [if_neg (by decide), if_pos rfl, if_neg (fun hh => by have h4 := hh.2.2.1; rw [hd] at h4; cases h4)]))
        clear hd
        go_wp2_with fail
        refine (HI0.out _).mono ?_
        rintro e w1 ⟨rfl, rfl⟩
        go_wp2_with fail
        go_ret
        exact ⟨0, rfl, HEY.out, by rw [HSTOP.out (HKZ.out)]; rfl⟩
      rcases hz : zV g h s with _ | _
      · rw [hd] at HI0
        rw [hz] at hzq
        have HKZ := Lib.hid (show stepE (ii : Int) (toE ⟨2, 0, 0, d, g, h, s⟩) st = none from step_kind0 (show nodeK ⟨2, 0, 0, d, g, h, s⟩ = 0 by unfold nodeK; dsimp only; rw [if_neg (by decide), if_pos rfl, if_neg (fun hh => by have h4 := hh.2.2.2; rw [hz] at h4; cases h4)]))
        clear hd hz
        go_wp2_with fail
        refine (HI0.out _).mono ?_
        rintro e w1 ⟨rfl, rfl⟩
        go_wp2_with fail
        go_ret
        exact ⟨0, rfl, HEY.out, by rw [HSTOP.out (HKZ.out)]; rfl⟩
      · rw [hd] at HI0
        rw [hz] at hzq
        have HKY := Lib.hid (show stepE (ii : Int) (toE ⟨2, 0, 0, d, g, h, s⟩) st = some (((ii : Int), 1) :: st) from step_leaf (show nodeK ⟨2, 0, 0, d, g, h, s⟩ = 1 by unfold nodeK; dsimp only; rw [if_neg (by decide), if_pos rfl, if_pos ⟨rfl, rfl, hd, hz⟩]))
        clear hd hz
        go_wp2_with fail
        refine (HI0.out _).mono ?_
        rintro e w1 ⟨rfl, rfl⟩
        obtain ⟨z0, z1, z2, z3, z4, z5, z6⟩ := en7 HB.out
        generalize wr.alloc (.cells #[.int .i64 2, .int .i64 0, .int .i64 0, .int .i64 d, .int .i64 g, .int .i64 h, .string s] 155) = y at HPSY HEY HB z0 z1 z2 z3 z4 z5 z6 ⊢
        have hps := HPSY.out
        obtain ⟨vs, hsb, hrow⟩ := hps
        obtain ⟨Av, cv, rfl⟩ := own_sl2 hrow
        have s0 := hsb.cell (i := 0) (by simp)
        simp only [List.getElem_cons_zero] at s0
        have HSB := Lib.hid hsb
        have HROW := Lib.hid hrow
        have HSTEP := Lib.hid (run_step_of HXM.out HRUN.out (HKY.out))
        have hdb : (0 : Int) ≤ 1 := by omega
        clear hsb hrow
        go_wp2_with (at_builtin; refine wpList_append_own _ rfl (.tmp 133) (.tmp 138) 157 rfl w.heap.size 159 i0 (.agg #[.int .i64 0, .int .i64 0]) 2 16 Try.underlying157 hi hz0 hz1 hz2 rfl (by decide) _ st.length _ rfl (own_ext HROW.out ((Ext.refl _).alloc _)) ⟨y.heap.size, 0, none⟩ 1 1 [.int .i64 (ii : Int), .int .i64 1] rfl rfl (rd_add (Blk.new y _ _).rd) (by intro u hu; simp at hu; rcases hu with rfl | rfl <;> rfl) (by unfold maxLen; omega) (by omega) (by rw [World.size_alloc]; have := (HEY.out).le; omega) ?_)
        intro v' w9 ho9 hg9 _
        have hsb9 := (hg9.block (w.heap.size + 1) (Nat.lt_of_lt_of_le HSB.out.lt (by rw [World.size_alloc]; omega)) (fun e => by obtain ⟨cs', hb⟩ := own_some_blk' HROW.out e.symm; exact absurd (blk_ty' HSB.out hb) (by decide))).trans (HSB.out.ext ((Ext.refl _).alloc _))
        have HSB9 := Lib.hid (show Blk w9 (w.heap.size + 1) 157 [Value.slice Av st.length cv] from hsb9)
        have HE9 := Lib.hid (((HEY.out).alloc _).grown hg9 (own_blk HROW.out))
        obtain ⟨A9, c9, rfl⟩ := own_sl2 ho9
        have HO9 := Lib.hid ho9
        have f9 := HSB9.out.frozen 0
        have s9 := HSB9.out.cell (i := 0) (by simp)
        simp only [List.getElem_cons_zero] at s9
        clear hsb9 hg9 ho9 s0
        go_wp2_with fail
        go_roundw
        case rel => exact ⟨ii + 1, _, HIN.out, by go_num, PS.push HSB9.out HO9.out, HE9.out.set (by dsimp only; omega) _, HSTEP.out⟩
        case measure => simp [intOf]; have := HIN.out; omega
    have ha2b : (a == 2) = false := by rw [beq_eq_false_iff_ne]; exact ha2
    rcases h35 : inB a 3 5 with _ | _
    rotate_left
    · have HK := Lib.hid (nodeK_one ⟨a, b, c, d, g, h, s⟩ h35)
      have HH35 := Lib.hid h35
      rw [h35] at HI1
      have HPC := Lib.hid (impl_pop (w.heap.size + 1) w.heap.size b st _ HPSY.out (by omega))
      clear h35
      go_wp2_with fail
      refine (HI1.out _).mono ?_
      rintro e w1 ⟨rfl, rfl⟩
      go_wp2_with fail
      generalize wr.alloc (.cells #[.int .i64 a, .int .i64 b, .int .i64 c, .int .i64 d, .int .i64 g, .int .i64 h, .string s] 155) = y at HPSY HEY HB HPC ⊢
      refine HPC.out.mono ?_
      rintro e w2 ⟨dd, ok, st2, rfl, hps2, hkeep, hlen, hmem, hok, hno⟩
      have HE2 := Lib.hid (hkeep.ext HEY.out (Nat.le_succ _))
      have HB2 := Lib.hid (hkeep.blk HB.out hnb)
      have HPS2 := Lib.hid hps2
      obtain ⟨z0, z1, z2, z3, z4, z5, z6⟩ := en7 HB2.out
      have h35 := HH35.out
      clear hps2 hkeep HPSY HB HEY HPC
      rcases ok with _ | _
      · have HKZ := Lib.hid (show stepE (ii : Int) (toE ⟨a, b, c, d, g, h, s⟩) st = none from step_one_no HK.out (hno rfl).1)
        clear hok hno h35
        go_wp2_with fail
        go_ret
        exact ⟨0, rfl, HE2.out, by rw [HSTOP.out (HKZ.out)]; rfl⟩
      have hpr := hok rfl
      obtain ⟨⟨hdd1, hdd2⟩, -, hst2⟩ := popR_bound hpr HBND.out
      have HPR := Lib.hid hpr
      clear hpr hok hno
      by_cases hc0 : c = 0
      rotate_left
      · have hc : (c == 0) = false := by rw [beq_eq_false_iff_ne]; exact hc0
        have HKZ := Lib.hid (show stepE (ii : Int) (toE ⟨a, b, c, d, g, h, s⟩) st = none from step_kind0 (show nodeK ⟨a, b, c, d, g, h, s⟩ = 0 by unfold nodeK; dsimp only; rw [if_neg ha1, if_neg ha2, if_pos h35, if_neg (fun hh => hc0 hh.1)]))
        clear h35
        (try clear hc0)
        (try clear hd0)
        go_wp2_with fail
        go_ret
        exact ⟨0, rfl, HE2.out, by rw [HSTOP.out (HKZ.out)]; rfl⟩
      have hc : (c == 0) = true := by rw [beq_iff_eq]; exact hc0
      by_cases hd0 : d = 0
      rotate_left
      · have hd : (d == 0) = false := by rw [beq_eq_false_iff_ne]; exact hd0
        have HKZ := Lib.hid (show stepE (ii : Int) (toE ⟨a, b, c, d, g, h, s⟩) st = none from step_kind0 (show nodeK ⟨a, b, c, d, g, h, s⟩ = 0 by unfold nodeK; dsimp only; rw [if_neg ha1, if_neg ha2, if_pos h35, if_neg (fun hh => hd0 hh.2.1)]))
        clear h35
        (try clear hc0)
        (try clear hd0)
        go_wp2_with fail
        go_ret
        exact ⟨0, rfl, HE2.out, by rw [HSTOP.out (HKZ.out)]; rfl⟩
      have hd : (d == 0) = true := by rw [beq_iff_eq]; exact hd0
      rcases hz : zV g h s with _ | _
      · rw [hz] at hzq
        have HKZ := Lib.hid (show stepE (ii : Int) (toE ⟨a, b, c, d, g, h, s⟩) st = none from step_kind0 (show nodeK ⟨a, b, c, d, g, h, s⟩ = 0 by unfold nodeK; dsimp only; rw [if_neg ha1, if_neg ha2, if_pos h35, if_neg (fun hh => by have h4 := hh.2.2; rw [hz] at h4; cases h4)]))
        clear h35 hz hc0 hd0
        go_wp2_with fail
        go_ret
        exact ⟨0, rfl, HE2.out, by rw [HSTOP.out (HKZ.out)]; rfl⟩
      · rw [hz] at hzq
        have HKY := Lib.hid (show stepE (ii : Int) (toE ⟨a, b, c, d, g, h, s⟩) st = some (((ii : Int), dd + 1) :: st2) from step_one_yes (show nodeK ⟨a, b, c, d, g, h, s⟩ = 2 by unfold nodeK; dsimp only; rw [if_neg ha1, if_neg ha2, if_pos h35, if_pos ⟨hc0, hd0, hz⟩]) HPR.out)
        clear h35 hz hc0 hd0
        have hps := HPS2.out
        obtain ⟨vs, hsb, hrow⟩ := hps
        obtain ⟨Av, cv, rfl⟩ := own_sl2 hrow
        have s0 := hsb.cell (i := 0) (by simp)
        simp only [List.getElem_cons_zero] at s0
        have HSB := Lib.hid hsb
        have HROW := Lib.hid hrow
        have HSTEP := Lib.hid (run_step_of HXM.out HRUN.out (HKY.out))
        have hdb : 0 ≤ dd ∧ dd ≤ 40 := by omega
        clear hsb hrow
        go_wp2_with (at_builtin; refine wpList_append_own _ rfl (.tmp 133) (.tmp 138) 157 rfl w.heap.size 159 i0 (.agg #[.int .i64 0, .int .i64 0]) 2 16 Try.underlying157 hi hz0 hz1 hz2 rfl (by decide) _ st2.length _ rfl (own_ext HROW.out ((Ext.refl _).alloc _)) ⟨w2.heap.size, 0, none⟩ 1 1 [.int .i64 (ii : Int), .int .i64 (dd + 1)] rfl rfl (rd_add (Blk.new w2 _ _).rd) (by intro u hu; simp at hu; rcases hu with rfl | rfl <;> rfl) (by unfold maxLen; omega) (by omega) (by rw [World.size_alloc]; have := (HE2.out).le; omega) ?_)
        intro v' w9 ho9 hg9 _
        have hsb9 := (hg9.block (w.heap.size + 1) (Nat.lt_of_lt_of_le HSB.out.lt (by rw [World.size_alloc]; omega)) (fun e => by obtain ⟨cs', hb⟩ := own_some_blk' HROW.out e.symm; exact absurd (blk_ty' HSB.out hb) (by decide))).trans (HSB.out.ext ((Ext.refl _).alloc _))
        have HSB9 := Lib.hid (show Blk w9 (w.heap.size + 1) 157 [Value.slice Av st2.length cv] from hsb9)
        have HE9 := Lib.hid (((HE2.out).alloc _).grown hg9 (own_blk HROW.out))
        obtain ⟨A9, c9, rfl⟩ := own_sl2 ho9
        have HO9 := Lib.hid ho9
        have f9 := HSB9.out.frozen 0
        have s9 := HSB9.out.cell (i := 0) (by simp)
        simp only [List.getElem_cons_zero] at s9
        clear hsb9 hg9 ho9 s0
        go_wp2_with fail
        go_roundw
        case rel => exact ⟨ii + 1, _, HIN.out, by go_num, PS.push HSB9.out HO9.out, HE9.out.set (by dsimp only; omega) _, HSTEP.out⟩
        case measure => simp [intOf]; have := HIN.out; omega
    rw [h35] at HI1
    rcases h613 : inB a 6 13 with _ | _
    · rw [h613] at HI2
      have HKZ := Lib.hid (show stepE (ii : Int) (toE ⟨a, b, c, d, g, h, s⟩) st = none from step_kind0 (show nodeK ⟨a, b, c, d, g, h, s⟩ = 0 by unfold nodeK; dsimp only; rw [if_neg ha1, if_neg ha2, if_neg (by rw [h35]; decide), if_neg (by rw [h613]; decide)]))
      clear h35 h613
      go_wp2_with fail
      refine (HI1.out _).mono ?_
      rintro e w1 ⟨rfl, rfl⟩
      go_wp2_with fail
      refine (HI2.out _).mono ?_
      rintro e w1 ⟨rfl, rfl⟩
      go_wp2_with fail
      go_ret
      exact ⟨0, rfl, HEY.out, by rw [HSTOP.out (HKZ.out)]; rfl⟩
    have HK := Lib.hid (nodeK_two ⟨a, b, c, d, g, h, s⟩ h613)
    have HH := Lib.hid (And.intro h35 h613)
    rw [h613] at HI2
    have HPC := Lib.hid (impl_pop (w.heap.size + 1) w.heap.size c st _ HPSY.out (by omega))
    clear h35 h613
    go_wp2_with fail
    refine (HI1.out _).mono ?_
    rintro e w1 ⟨rfl, rfl⟩
    go_wp2_with fail
    refine (HI2.out _).mono ?_
    rintro e w1 ⟨rfl, rfl⟩
    go_wp2_with fail
    generalize wr.alloc (.cells #[.int .i64 a, .int .i64 b, .int .i64 c, .int .i64 d, .int .i64 g, .int .i64 h, .string s] 155) = y at HPSY HEY HB HPC ⊢
    refine HPC.out.mono ?_
    rintro e w2 ⟨dd, ok, st2, rfl, hps2, hkeep, hlen, hmem, hok, hno⟩
    have HE2 := Lib.hid (hkeep.ext HEY.out (Nat.le_succ _))
    have HB2 := Lib.hid (hkeep.blk HB.out hnb)
    obtain ⟨z0, z1, z2, z3, z4, z5, z6⟩ := en7 HB2.out
    have hddb : 0 ≤ dd ∧ dd ≤ 40 := by
      rcases ok with _ | _
      · have h1 := (hno rfl).2; omega
      · have h1 := (popR_bound (hok rfl) HBND.out).1; omega
    have HBND2 := Lib.hid (fun p hp => HBND.out p (hmem p hp))
    have HPC2 := Lib.hid (impl_pop (w.heap.size + 1) w.heap.size b st2 w2 hps2 (by omega))
    have HOK := Lib.hid hok
    have HNO := Lib.hid hno
    clear hps2 hkeep hok hno hmem HPSY HB HEY HPC
    go_wp2_with fail
    refine HPC2.out.mono ?_
    rintro e w3 ⟨cc, ok2, st3, rfl, hps3, hkeep, hlen3, -, hok2, hno2⟩
    have HE3 := Lib.hid (hkeep.ext HE2.out (Nat.le_succ _))
    have HB3 := Lib.hid (hkeep.blk HB2.out hnb)
    have HPS3 := Lib.hid hps3
    clear z0 z1 z2 z3 z4 z5 z6
    obtain ⟨z0, z1, z2, z3, z4, z5, z6⟩ := en7 HB3.out
    have hccb : 0 ≤ cc ∧ cc ≤ 40 := by
      rcases ok2 with _ | _
      · have h1 := (hno2 rfl).2; omega
      · have h1 := (popR_bound (hok2 rfl) HBND2.out).1; omega
    have HOK2 := Lib.hid hok2
    have HNO2 := Lib.hid hno2
    have hmx1 : 0 ≤ max cc dd := by omega
    have hmx2 : max cc dd ≤ 40 := by omega
    have hml2 : ∀ (ts : Array TypeId) (tt : TypeId) (W : World), (Builtin.max_ ts tt #[.int .i64 cc, .int .i64 dd]).run Try.prog W = .ok (.int .i64 (max cc dd)) W := fun ts tt W => by
      rcases Int.lt_or_le cc dd with hlt | hle
      · rw [show max cc dd = dd by omega]; simp [Builtin.max_, Builtin.max2, hlt]
      · rw [show max cc dd = cc by omega]; simp [Builtin.max_, Builtin.max2]; omega
    generalize hMX : max cc dd = M at hmx1 hmx2 hml2
    have HMX := Lib.hid hMX
    clear hMX hps3 hkeep hok2 hno2 HE2 HB2 HPC2
    go_wp2_with fail
    obtain ⟨h35, h613⟩ := HH.out
    rcases ok with _ | _
    · have HKZ := Lib.hid (show stepE (ii : Int) (toE ⟨a, b, c, d, g, h, s⟩) st = none from step_two_no HK.out (HNO.out rfl).1)
      clear h35 h613
      refine rg_start (by kernel_rfl) (Ext.refl w3) (fun hE0 => ?_)
      (refine rg_take (v := ?_) 0 rfl (by kernel_rfl) (by kernel_rfl) (by kernel_rfl) (fun _ _ _ h => h) (by rfl) (by assumption) (fun W hW => ?_) ?_; rotate_left; (focus (go_simp; try with_reducible rfl)); (try simp only [List.setIfInBounds_toArray, List.set_cons_succ, List.set_cons_zero]))
      (refine rg_take (v := ?_) 1 rfl (by kernel_rfl) (by kernel_rfl) (by kernel_rfl) (fun _ _ _ h => h) (by rfl) (by assumption) (fun W hW => ?_) ?_; rotate_left; (focus (go_simp; try with_reducible rfl)); (try simp only [List.setIfInBounds_toArray, List.set_cons_succ, List.set_cons_zero]))
      (refine rg_take (v := ?_) 2 rfl (by kernel_rfl) (by kernel_rfl) (by kernel_rfl) (fun _ _ _ h => h) (by rfl) (by assumption) (fun W hW => ?_) ?_; rotate_left; (focus (go_simp; try with_reducible rfl)); (try simp only [List.setIfInBounds_toArray, List.set_cons_succ, List.set_cons_zero]))
      (refine rg_take (v := ?_) 3 rfl (by kernel_rfl) (by kernel_rfl) (by kernel_rfl) (fun _ _ _ h => h) (by rfl) (by assumption) (fun W hW => ?_) ?_; rotate_left; (focus (go_simp; try with_reducible rfl)); (try simp only [List.setIfInBounds_toArray, List.set_cons_succ, List.set_cons_zero]))
      (refine rg_take (v := ?_) 4 rfl (by kernel_rfl) (by kernel_rfl) (by kernel_rfl) (fun _ _ _ h => h) (by rfl) (by assumption) (fun W hW => ?_) ?_; rotate_left; (focus (go_simp; try with_reducible rfl)); (try simp only [List.setIfInBounds_toArray, List.set_cons_succ, List.set_cons_zero]))
      (refine rg_skip 5 rfl (by kernel_rfl) (by kernel_rfl) (by kernel_rfl) (fun _ _ _ h => h) (by rfl) (by assumption) ?_; (try simp only [List.setIfInBounds_toArray, List.set_cons_succ, List.set_cons_zero]))
      (refine rg_take (v := ?_) 6 rfl (by kernel_rfl) (by kernel_rfl) (by kernel_rfl) (fun _ _ _ h => h) (by rfl) (by assumption) (fun W hW => ?_) ?_; rotate_left; (focus (go_simp; try with_reducible rfl)); (try simp only [List.setIfInBounds_toArray, List.set_cons_succ, List.set_cons_zero]))
      (refine rg_take (v := ?_) 7 rfl (by kernel_rfl) (by kernel_rfl) (by kernel_rfl) (fun _ _ _ h => h) (by rfl) (by assumption) (fun W hW => ?_) ?_; rotate_left; (focus (go_simp; try with_reducible rfl)); (try simp only [List.setIfInBounds_toArray, List.set_cons_succ, List.set_cons_zero]))
      (refine rg_skip 8 rfl (by kernel_rfl) (by kernel_rfl) (by kernel_rfl) (fun _ _ _ h => h) (by rfl) (by assumption) ?_; (try simp only [List.setIfInBounds_toArray, List.set_cons_succ, List.set_cons_zero]))
      (refine rg_skip 9 rfl (by kernel_rfl) (by kernel_rfl) (by kernel_rfl) (fun _ _ _ h => h) (by rfl) (by assumption) ?_; (try simp only [List.setIfInBounds_toArray, List.set_cons_succ, List.set_cons_zero]))
      (refine rg_skip 10 rfl (by kernel_rfl) (by kernel_rfl) (by kernel_rfl) (fun _ _ _ h => h) (by rfl) (by assumption) ?_; (try simp only [List.setIfInBounds_toArray, List.set_cons_succ, List.set_cons_zero]))
      (refine rg_take (v := ?_) 11 rfl (by kernel_rfl) (by kernel_rfl) (by kernel_rfl) (fun _ _ _ h => h) (by rfl) (by assumption) (fun W hW => ?_) ?_; rotate_left; (focus (go_simp; try with_reducible rfl)); (try simp only [List.setIfInBounds_toArray, List.set_cons_succ, List.set_cons_zero]))
      (refine rg_take (v := ?_) 12 rfl (by kernel_rfl) (by kernel_rfl) (by kernel_rfl) (fun _ _ _ h => h) (by rfl) (by assumption) (fun W hW => ?_) ?_; rotate_left; (focus (go_simp; try with_reducible rfl)); (try simp only [List.setIfInBounds_toArray, List.set_cons_succ, List.set_cons_zero]))
      (refine rg_skip 13 rfl (by kernel_rfl) (by kernel_rfl) (by kernel_rfl) (fun _ _ _ h => h) (by rfl) (by assumption) ?_; (try simp only [List.setIfInBounds_toArray, List.set_cons_succ, List.set_cons_zero]))
      (refine rg_skip 14 rfl (by kernel_rfl) (by kernel_rfl) (by kernel_rfl) (fun _ _ _ h => h) (by rfl) (by assumption) ?_; (try simp only [List.setIfInBounds_toArray, List.set_cons_succ, List.set_cons_zero]))
      (refine rg_skip 15 rfl (by kernel_rfl) (by kernel_rfl) (by kernel_rfl) (fun _ _ _ h => h) (by rfl) (by assumption) ?_; (try simp only [List.setIfInBounds_toArray, List.set_cons_succ, List.set_cons_zero]))
      (refine rg_skip 16 rfl (by kernel_rfl) (by kernel_rfl) (by kernel_rfl) (fun _ _ _ h => h) (by rfl) (by assumption) ?_; (try simp only [List.setIfInBounds_toArray, List.set_cons_succ, List.set_cons_zero]))
      (refine rg_take (v := ?_) 17 rfl (by kernel_rfl) (by kernel_rfl) (by kernel_rfl) (fun _ _ _ h => h) (by rfl) (by assumption) (fun W hW => ?_) ?_; rotate_left; (focus (go_simp; try with_reducible rfl)); (try simp only [List.setIfInBounds_toArray, List.set_cons_succ, List.set_cons_zero]))
      (refine rg_take (v := ?_) 18 rfl (by kernel_rfl) (by kernel_rfl) (by kernel_rfl) (fun _ _ _ h => h) (by rfl) (by assumption) (fun W hW => ?_) ?_; rotate_left; (focus (go_simp; try with_reducible rfl)); (try simp only [List.setIfInBounds_toArray, List.set_cons_succ, List.set_cons_zero]))
      (refine rg_take (v := ?_) 19 rfl (by kernel_rfl) (by kernel_rfl) (by kernel_rfl) (fun _ _ _ h => h) (by rfl) (by assumption) (fun W hW => ?_) ?_; rotate_left; (focus (go_simp; try with_reducible rfl)); (try simp only [List.setIfInBounds_toArray, List.set_cons_succ, List.set_cons_zero]))
      refine rg_done (by kernel_rfl) ?_
      go_wp2_with fail
      go_ret
      exact ⟨0, rfl, (HE3.out.trans hE0), by rw [HSTOP.out (HKZ.out)]; rfl⟩
    rcases ok2 with _ | _
    · have HKZ := Lib.hid (show stepE (ii : Int) (toE ⟨a, b, c, d, g, h, s⟩) st = none from step_two_no2 HK.out (HOK.out rfl) (HNO2.out rfl).1)
      clear h35 h613
      refine rg_start (by kernel_rfl) (Ext.refl w3) (fun hE0 => ?_)
      (refine rg_take (v := ?_) 0 rfl (by kernel_rfl) (by kernel_rfl) (by kernel_rfl) (fun _ _ _ h => h) (by rfl) (by assumption) (fun W hW => ?_) ?_; rotate_left; (focus (go_simp; try with_reducible rfl)); (try simp only [List.setIfInBounds_toArray, List.set_cons_succ, List.set_cons_zero]))
      (refine rg_take (v := ?_) 1 rfl (by kernel_rfl) (by kernel_rfl) (by kernel_rfl) (fun _ _ _ h => h) (by rfl) (by assumption) (fun W hW => ?_) ?_; rotate_left; (focus (go_simp; try with_reducible rfl)); (try simp only [List.setIfInBounds_toArray, List.set_cons_succ, List.set_cons_zero]))
      (refine rg_take (v := ?_) 2 rfl (by kernel_rfl) (by kernel_rfl) (by kernel_rfl) (fun _ _ _ h => h) (by rfl) (by assumption) (fun W hW => ?_) ?_; rotate_left; (focus (go_simp; try with_reducible rfl)); (try simp only [List.setIfInBounds_toArray, List.set_cons_succ, List.set_cons_zero]))
      (refine rg_take (v := ?_) 3 rfl (by kernel_rfl) (by kernel_rfl) (by kernel_rfl) (fun _ _ _ h => h) (by rfl) (by assumption) (fun W hW => ?_) ?_; rotate_left; (focus (go_simp; try with_reducible rfl)); (try simp only [List.setIfInBounds_toArray, List.set_cons_succ, List.set_cons_zero]))
      (refine rg_take (v := ?_) 4 rfl (by kernel_rfl) (by kernel_rfl) (by kernel_rfl) (fun _ _ _ h => h) (by rfl) (by assumption) (fun W hW => ?_) ?_; rotate_left; (focus (go_simp; try with_reducible rfl)); (try simp only [List.setIfInBounds_toArray, List.set_cons_succ, List.set_cons_zero]))
      (refine rg_take (v := ?_) 5 rfl (by kernel_rfl) (by kernel_rfl) (by kernel_rfl) (fun _ _ _ h => h) (by rfl) (by assumption) (fun W hW => ?_) ?_; rotate_left; (focus (go_simp; try with_reducible rfl)); (try simp only [List.setIfInBounds_toArray, List.set_cons_succ, List.set_cons_zero]))
      (refine rg_take (v := ?_) 6 rfl (by kernel_rfl) (by kernel_rfl) (by kernel_rfl) (fun _ _ _ h => h) (by rfl) (by assumption) (fun W hW => ?_) ?_; rotate_left; (focus (go_simp; try with_reducible rfl)); (try simp only [List.setIfInBounds_toArray, List.set_cons_succ, List.set_cons_zero]))
      (refine rg_take (v := ?_) 7 rfl (by kernel_rfl) (by kernel_rfl) (by kernel_rfl) (fun _ _ _ h => h) (by rfl) (by assumption) (fun W hW => ?_) ?_; rotate_left; (focus (go_simp; try with_reducible rfl)); (try simp only [List.setIfInBounds_toArray, List.set_cons_succ, List.set_cons_zero]))
      (refine rg_skip 8 rfl (by kernel_rfl) (by kernel_rfl) (by kernel_rfl) (fun _ _ _ h => h) (by rfl) (by assumption) ?_; (try simp only [List.setIfInBounds_toArray, List.set_cons_succ, List.set_cons_zero]))
      (refine rg_skip 9 rfl (by kernel_rfl) (by kernel_rfl) (by kernel_rfl) (fun _ _ _ h => h) (by rfl) (by assumption) ?_; (try simp only [List.setIfInBounds_toArray, List.set_cons_succ, List.set_cons_zero]))
      (refine rg_skip 10 rfl (by kernel_rfl) (by kernel_rfl) (by kernel_rfl) (fun _ _ _ h => h) (by rfl) (by assumption) ?_; (try simp only [List.setIfInBounds_toArray, List.set_cons_succ, List.set_cons_zero]))
      (refine rg_take (v := ?_) 11 rfl (by kernel_rfl) (by kernel_rfl) (by kernel_rfl) (fun _ _ _ h => h) (by rfl) (by assumption) (fun W hW => ?_) ?_; rotate_left; (focus (go_simp; try with_reducible rfl)); (try simp only [List.setIfInBounds_toArray, List.set_cons_succ, List.set_cons_zero]))
      (refine rg_take (v := ?_) 12 rfl (by kernel_rfl) (by kernel_rfl) (by kernel_rfl) (fun _ _ _ h => h) (by rfl) (by assumption) (fun W hW => ?_) ?_; rotate_left; (focus (go_simp; try with_reducible rfl)); (try simp only [List.setIfInBounds_toArray, List.set_cons_succ, List.set_cons_zero]))
      (refine rg_skip 13 rfl (by kernel_rfl) (by kernel_rfl) (by kernel_rfl) (fun _ _ _ h => h) (by rfl) (by assumption) ?_; (try simp only [List.setIfInBounds_toArray, List.set_cons_succ, List.set_cons_zero]))
      (refine rg_skip 14 rfl (by kernel_rfl) (by kernel_rfl) (by kernel_rfl) (fun _ _ _ h => h) (by rfl) (by assumption) ?_; (try simp only [List.setIfInBounds_toArray, List.set_cons_succ, List.set_cons_zero]))
      (refine rg_skip 15 rfl (by kernel_rfl) (by kernel_rfl) (by kernel_rfl) (fun _ _ _ h => h) (by rfl) (by assumption) ?_; (try simp only [List.setIfInBounds_toArray, List.set_cons_succ, List.set_cons_zero]))
      (refine rg_skip 16 rfl (by kernel_rfl) (by kernel_rfl) (by kernel_rfl) (fun _ _ _ h => h) (by rfl) (by assumption) ?_; (try simp only [List.setIfInBounds_toArray, List.set_cons_succ, List.set_cons_zero]))
      (refine rg_take (v := ?_) 17 rfl (by kernel_rfl) (by kernel_rfl) (by kernel_rfl) (fun _ _ _ h => h) (by rfl) (by assumption) (fun W hW => ?_) ?_; rotate_left; (focus (go_simp; try with_reducible rfl)); (try simp only [List.setIfInBounds_toArray, List.set_cons_succ, List.set_cons_zero]))
      (refine rg_take (v := ?_) 18 rfl (by kernel_rfl) (by kernel_rfl) (by kernel_rfl) (fun _ _ _ h => h) (by rfl) (by assumption) (fun W hW => ?_) ?_; rotate_left; (focus (go_simp; try with_reducible rfl)); (try simp only [List.setIfInBounds_toArray, List.set_cons_succ, List.set_cons_zero]))
      (refine rg_take (v := ?_) 19 rfl (by kernel_rfl) (by kernel_rfl) (by kernel_rfl) (fun _ _ _ h => h) (by rfl) (by assumption) (fun W hW => ?_) ?_; rotate_left; (focus (go_simp; try with_reducible rfl)); (try simp only [List.setIfInBounds_toArray, List.set_cons_succ, List.set_cons_zero]))
      refine rg_done (by kernel_rfl) ?_
      go_wp2_with fail
      go_ret
      exact ⟨0, rfl, (HE3.out.trans hE0), by rw [HSTOP.out (HKZ.out)]; rfl⟩
    by_cases hd0 : d = 0
    rotate_left
    · have hd : (d == 0) = false := by rw [beq_eq_false_iff_ne]; exact hd0
      have HKZ := Lib.hid (show stepE (ii : Int) (toE ⟨a, b, c, d, g, h, s⟩) st = none from step_kind0 (show nodeK ⟨a, b, c, d, g, h, s⟩ = 0 by unfold nodeK; dsimp only; rw [if_neg ha1, if_neg ha2, if_neg (by rw [h35]; decide), if_pos h613, if_neg (fun hh => hd0 hh.1)]))
      clear h35 h613 hd0
      refine rg_start (by kernel_rfl) (Ext.refl w3) (fun hE0 => ?_)
      (refine rg_take (v := ?_) 0 rfl (by kernel_rfl) (by kernel_rfl) (by kernel_rfl) (fun _ _ _ h => h) (by rfl) (by assumption) (fun W hW => ?_) ?_; rotate_left; (focus (go_simp; try with_reducible rfl)); (try simp only [List.setIfInBounds_toArray, List.set_cons_succ, List.set_cons_zero]))
      (refine rg_take (v := ?_) 1 rfl (by kernel_rfl) (by kernel_rfl) (by kernel_rfl) (fun _ _ _ h => h) (by rfl) (by assumption) (fun W hW => ?_) ?_; rotate_left; (focus (go_simp; try with_reducible rfl)); (try simp only [List.setIfInBounds_toArray, List.set_cons_succ, List.set_cons_zero]))
      (refine rg_take (v := ?_) 2 rfl (by kernel_rfl) (by kernel_rfl) (by kernel_rfl) (fun _ _ _ h => h) (by rfl) (by assumption) (fun W hW => ?_) ?_; rotate_left; (focus (go_simp; try with_reducible rfl)); (try simp only [List.setIfInBounds_toArray, List.set_cons_succ, List.set_cons_zero]))
      (refine rg_take (v := ?_) 3 rfl (by kernel_rfl) (by kernel_rfl) (by kernel_rfl) (fun _ _ _ h => h) (by rfl) (by assumption) (fun W hW => ?_) ?_; rotate_left; (focus (go_simp; try with_reducible rfl)); (try simp only [List.setIfInBounds_toArray, List.set_cons_succ, List.set_cons_zero]))
      (refine rg_take (v := ?_) 4 rfl (by kernel_rfl) (by kernel_rfl) (by kernel_rfl) (fun _ _ _ h => h) (by rfl) (by assumption) (fun W hW => ?_) ?_; rotate_left; (focus (go_simp; try with_reducible rfl)); (try simp only [List.setIfInBounds_toArray, List.set_cons_succ, List.set_cons_zero]))
      (refine rg_take (v := ?_) 5 rfl (by kernel_rfl) (by kernel_rfl) (by kernel_rfl) (fun _ _ _ h => h) (by rfl) (by assumption) (fun W hW => ?_) ?_; rotate_left; (focus (go_simp; try with_reducible rfl)); (try simp only [List.setIfInBounds_toArray, List.set_cons_succ, List.set_cons_zero]))
      (refine rg_take (v := ?_) 6 rfl (by kernel_rfl) (by kernel_rfl) (by kernel_rfl) (fun _ _ _ h => h) (by rfl) (by assumption) (fun W hW => ?_) ?_; rotate_left; (focus (go_simp; try with_reducible rfl)); (try simp only [List.setIfInBounds_toArray, List.set_cons_succ, List.set_cons_zero]))
      (refine rg_take (v := ?_) 7 rfl (by kernel_rfl) (by kernel_rfl) (by kernel_rfl) (fun _ _ _ h => h) (by rfl) (by assumption) (fun W hW => ?_) ?_; rotate_left; (focus (go_simp; try with_reducible rfl)); (try simp only [List.setIfInBounds_toArray, List.set_cons_succ, List.set_cons_zero]))
      (refine rg_take (v := ?_) 8 rfl (by kernel_rfl) (by kernel_rfl) (by kernel_rfl) (fun _ _ _ h => h) (by rfl) (by assumption) (fun W hW => ?_) ?_; rotate_left; (focus (go_simp; try with_reducible rfl)); (try simp only [List.setIfInBounds_toArray, List.set_cons_succ, List.set_cons_zero]))
      (refine rg_take (v := ?_) 9 rfl (by kernel_rfl) (by kernel_rfl) (by kernel_rfl) (fun _ _ _ h => h) (by rfl) (by assumption) (fun W hW => ?_) ?_; rotate_left; (focus (have q0 := hW.cell z0; have q1 := hW.cell z1; have q2 := hW.cell z2; have q3 := hW.cell z3; have q4 := hW.cell z4; have q5 := hW.cell z5; have q6 := hW.cell z6; go_simp; try with_reducible rfl)); (try simp only [List.setIfInBounds_toArray, List.set_cons_succ, List.set_cons_zero]))
      (refine rg_take (v := ?_) 10 rfl (by kernel_rfl) (by kernel_rfl) (by kernel_rfl) (fun _ _ _ h => h) (by rfl) (by assumption) (fun W hW => ?_) ?_; rotate_left; (focus (go_simp; try with_reducible rfl)); (try simp only [List.setIfInBounds_toArray, List.set_cons_succ, List.set_cons_zero]))
      (refine rg_take (v := ?_) 11 rfl (by kernel_rfl) (by kernel_rfl) (by kernel_rfl) (fun _ _ _ h => h) (by rfl) (by assumption) (fun W hW => ?_) ?_; rotate_left; (focus (go_simp; try with_reducible rfl)); (try simp only [List.setIfInBounds_toArray, List.set_cons_succ, List.set_cons_zero]))
      (refine rg_take (v := ?_) 12 rfl (by kernel_rfl) (by kernel_rfl) (by kernel_rfl) (fun _ _ _ h => h) (by rfl) (by assumption) (fun W hW => ?_) ?_; rotate_left; (focus (go_simp; try with_reducible rfl)); (try simp only [List.setIfInBounds_toArray, List.set_cons_succ, List.set_cons_zero]))
      (refine rg_skip 13 rfl (by kernel_rfl) (by kernel_rfl) (by kernel_rfl) (fun _ _ _ h => h) (by rfl) (by assumption) ?_; (try simp only [List.setIfInBounds_toArray, List.set_cons_succ, List.set_cons_zero]))
      (refine rg_skip 14 rfl (by kernel_rfl) (by kernel_rfl) (by kernel_rfl) (fun _ _ _ h => h) (by rfl) (by assumption) ?_; (try simp only [List.setIfInBounds_toArray, List.set_cons_succ, List.set_cons_zero]))
      (refine rg_skip 15 rfl (by kernel_rfl) (by kernel_rfl) (by kernel_rfl) (fun _ _ _ h => h) (by rfl) (by assumption) ?_; (try simp only [List.setIfInBounds_toArray, List.set_cons_succ, List.set_cons_zero]))
      (refine rg_skip 16 rfl (by kernel_rfl) (by kernel_rfl) (by kernel_rfl) (fun _ _ _ h => h) (by rfl) (by assumption) ?_; (try simp only [List.setIfInBounds_toArray, List.set_cons_succ, List.set_cons_zero]))
      (refine rg_take (v := ?_) 17 rfl (by kernel_rfl) (by kernel_rfl) (by kernel_rfl) (fun _ _ _ h => h) (by rfl) (by assumption) (fun W hW => ?_) ?_; rotate_left; (focus (go_simp; try with_reducible rfl)); (try simp only [List.setIfInBounds_toArray, List.set_cons_succ, List.set_cons_zero]))
      (refine rg_take (v := ?_) 18 rfl (by kernel_rfl) (by kernel_rfl) (by kernel_rfl) (fun _ _ _ h => h) (by rfl) (by assumption) (fun W hW => ?_) ?_; rotate_left; (focus (go_simp; try with_reducible rfl)); (try simp only [List.setIfInBounds_toArray, List.set_cons_succ, List.set_cons_zero]))
      (refine rg_take (v := ?_) 19 rfl (by kernel_rfl) (by kernel_rfl) (by kernel_rfl) (fun _ _ _ h => h) (by rfl) (by assumption) (fun W hW => ?_) ?_; rotate_left; (focus (go_simp; try with_reducible rfl)); (try simp only [List.setIfInBounds_toArray, List.set_cons_succ, List.set_cons_zero]))
      refine rg_done (by kernel_rfl) ?_
      go_wp2_with fail
      go_ret
      exact ⟨0, rfl, (HE3.out.trans hE0), by rw [HSTOP.out (HKZ.out)]; rfl⟩
    have hd : (d == 0) = true := by rw [beq_iff_eq]; exact hd0
    rcases hz : zV g h s with _ | _
    · rw [hz] at hzq
      have HKZ := Lib.hid (show stepE (ii : Int) (toE ⟨a, b, c, d, g, h, s⟩) st = none from step_kind0 (show nodeK ⟨a, b, c, d, g, h, s⟩ = 0 by unfold nodeK; dsimp only; rw [if_neg ha1, if_neg ha2, if_neg (by rw [h35]; decide), if_pos h613, if_neg (fun hh => by have h4 := hh.2; rw [hz] at h4; cases h4)]))
      clear h35 h613 hd0 hz
      refine rg_start (by kernel_rfl) (Ext.refl w3) (fun hE0 => ?_)
      (refine rg_take (v := ?_) 0 rfl (by kernel_rfl) (by kernel_rfl) (by kernel_rfl) (fun _ _ _ h => h) (by rfl) (by assumption) (fun W hW => ?_) ?_; rotate_left; (focus (go_simp; try with_reducible rfl)); (try simp only [List.setIfInBounds_toArray, List.set_cons_succ, List.set_cons_zero]))
      (refine rg_take (v := ?_) 1 rfl (by kernel_rfl) (by kernel_rfl) (by kernel_rfl) (fun _ _ _ h => h) (by rfl) (by assumption) (fun W hW => ?_) ?_; rotate_left; (focus (go_simp; try with_reducible rfl)); (try simp only [List.setIfInBounds_toArray, List.set_cons_succ, List.set_cons_zero]))
      (refine rg_take (v := ?_) 2 rfl (by kernel_rfl) (by kernel_rfl) (by kernel_rfl) (fun _ _ _ h => h) (by rfl) (by assumption) (fun W hW => ?_) ?_; rotate_left; (focus (go_simp; try with_reducible rfl)); (try simp only [List.setIfInBounds_toArray, List.set_cons_succ, List.set_cons_zero]))
      (refine rg_take (v := ?_) 3 rfl (by kernel_rfl) (by kernel_rfl) (by kernel_rfl) (fun _ _ _ h => h) (by rfl) (by assumption) (fun W hW => ?_) ?_; rotate_left; (focus (go_simp; try with_reducible rfl)); (try simp only [List.setIfInBounds_toArray, List.set_cons_succ, List.set_cons_zero]))
      (refine rg_take (v := ?_) 4 rfl (by kernel_rfl) (by kernel_rfl) (by kernel_rfl) (fun _ _ _ h => h) (by rfl) (by assumption) (fun W hW => ?_) ?_; rotate_left; (focus (go_simp; try with_reducible rfl)); (try simp only [List.setIfInBounds_toArray, List.set_cons_succ, List.set_cons_zero]))
      (refine rg_take (v := ?_) 5 rfl (by kernel_rfl) (by kernel_rfl) (by kernel_rfl) (fun _ _ _ h => h) (by rfl) (by assumption) (fun W hW => ?_) ?_; rotate_left; (focus (go_simp; try with_reducible rfl)); (try simp only [List.setIfInBounds_toArray, List.set_cons_succ, List.set_cons_zero]))
      (refine rg_take (v := ?_) 6 rfl (by kernel_rfl) (by kernel_rfl) (by kernel_rfl) (fun _ _ _ h => h) (by rfl) (by assumption) (fun W hW => ?_) ?_; rotate_left; (focus (go_simp; try with_reducible rfl)); (try simp only [List.setIfInBounds_toArray, List.set_cons_succ, List.set_cons_zero]))
      (refine rg_take (v := ?_) 7 rfl (by kernel_rfl) (by kernel_rfl) (by kernel_rfl) (fun _ _ _ h => h) (by rfl) (by assumption) (fun W hW => ?_) ?_; rotate_left; (focus (go_simp; try with_reducible rfl)); (try simp only [List.setIfInBounds_toArray, List.set_cons_succ, List.set_cons_zero]))
      (refine rg_take (v := ?_) 8 rfl (by kernel_rfl) (by kernel_rfl) (by kernel_rfl) (fun _ _ _ h => h) (by rfl) (by assumption) (fun W hW => ?_) ?_; rotate_left; (focus (go_simp; try with_reducible rfl)); (try simp only [List.setIfInBounds_toArray, List.set_cons_succ, List.set_cons_zero]))
      (refine rg_take (v := ?_) 9 rfl (by kernel_rfl) (by kernel_rfl) (by kernel_rfl) (fun _ _ _ h => h) (by rfl) (by assumption) (fun W hW => ?_) ?_; rotate_left; (focus (have q0 := hW.cell z0; have q1 := hW.cell z1; have q2 := hW.cell z2; have q3 := hW.cell z3; have q4 := hW.cell z4; have q5 := hW.cell z5; have q6 := hW.cell z6; go_simp; try with_reducible rfl)); (try simp only [List.setIfInBounds_toArray, List.set_cons_succ, List.set_cons_zero]))
      (refine rg_take (v := ?_) 10 rfl (by kernel_rfl) (by kernel_rfl) (by kernel_rfl) (fun _ _ _ h => h) (by rfl) (by assumption) (fun W hW => ?_) ?_; rotate_left; (focus (go_simp; try with_reducible rfl)); (try simp only [List.setIfInBounds_toArray, List.set_cons_succ, List.set_cons_zero]))
      (refine rg_take (v := ?_) 11 rfl (by kernel_rfl) (by kernel_rfl) (by kernel_rfl) (fun _ _ _ h => h) (by rfl) (by assumption) (fun W hW => ?_) ?_; rotate_left; (focus (go_simp; try with_reducible rfl)); (try simp only [List.setIfInBounds_toArray, List.set_cons_succ, List.set_cons_zero]))
      (refine rg_take (v := ?_) 12 rfl (by kernel_rfl) (by kernel_rfl) (by kernel_rfl) (fun _ _ _ h => h) (by rfl) (by assumption) (fun W hW => ?_) ?_; rotate_left; (focus (go_simp; try with_reducible rfl)); (try simp only [List.setIfInBounds_toArray, List.set_cons_succ, List.set_cons_zero]))
      (refine rg_take (v := ?_) 13 rfl (by kernel_rfl) (by kernel_rfl) (by kernel_rfl) (fun _ _ _ h => h) (by rfl) (by assumption) (fun W hW => ?_) ?_; rotate_left; (focus (go_simp; try with_reducible rfl)); (try simp only [List.setIfInBounds_toArray, List.set_cons_succ, List.set_cons_zero]))
      (refine rg_take (v := ?_) 14 rfl (by kernel_rfl) (by kernel_rfl) (by kernel_rfl) (fun _ _ _ h => h) (by rfl) (by assumption) (fun W hW => ?_) ?_; rotate_left; (focus (have q0 := hW.cell z0; have q1 := hW.cell z1; have q2 := hW.cell z2; have q3 := hW.cell z3; have q4 := hW.cell z4; have q5 := hW.cell z5; have q6 := hW.cell z6; go_simp; try with_reducible rfl)); (try simp only [List.setIfInBounds_toArray, List.set_cons_succ, List.set_cons_zero]))
      (refine rg_take (v := ?_) 15 rfl (by kernel_rfl) (by kernel_rfl) (by kernel_rfl) (fun _ _ _ h => h) (by rfl) (by assumption) (fun W hW => ?_) ?_; rotate_left; (focus (go_simp; try with_reducible rfl)); (try simp only [List.setIfInBounds_toArray, List.set_cons_succ, List.set_cons_zero]))
      (refine rg_take (v := ?_) 16 rfl (by kernel_rfl) (by kernel_rfl) (by kernel_rfl) (fun _ _ _ h => h) (by rfl) (by assumption) (fun W hW => ?_) ?_; rotate_left; (focus (go_simp; try with_reducible rfl)); (try simp only [List.setIfInBounds_toArray, List.set_cons_succ, List.set_cons_zero]))
      (refine rg_take (v := ?_) 17 rfl (by kernel_rfl) (by kernel_rfl) (by kernel_rfl) (fun _ _ _ h => h) (by rfl) (by assumption) (fun W hW => ?_) ?_; rotate_left; (focus (go_simp; try with_reducible rfl)); (try simp only [List.setIfInBounds_toArray, List.set_cons_succ, List.set_cons_zero]))
      (refine rg_take (v := ?_) 18 rfl (by kernel_rfl) (by kernel_rfl) (by kernel_rfl) (fun _ _ _ h => h) (by rfl) (by assumption) (fun W hW => ?_) ?_; rotate_left; (focus (go_simp; try with_reducible rfl)); (try simp only [List.setIfInBounds_toArray, List.set_cons_succ, List.set_cons_zero]))
      (refine rg_take (v := ?_) 19 rfl (by kernel_rfl) (by kernel_rfl) (by kernel_rfl) (fun _ _ _ h => h) (by rfl) (by assumption) (fun W hW => ?_) ?_; rotate_left; (focus (go_simp; try with_reducible rfl)); (try simp only [List.setIfInBounds_toArray, List.set_cons_succ, List.set_cons_zero]))
      refine rg_done (by kernel_rfl) ?_
      go_wp2_with fail
      go_ret
      exact ⟨0, rfl, (HE3.out.trans hE0), by rw [HSTOP.out (HKZ.out)]; rfl⟩
    · rw [hz] at hzq
      have HKY := Lib.hid (show stepE (ii : Int) (toE ⟨a, b, c, d, g, h, s⟩) st = some (((ii : Int), M + 1) :: st3) from by
        rw [← HMX.out]
        exact step_two_yes (show nodeK ⟨a, b, c, d, g, h, s⟩ = 3 by unfold nodeK; dsimp only; rw [if_neg ha1, if_neg ha2, if_neg (by rw [h35]; decide), if_pos h613, if_pos ⟨hd0, hz⟩]) (HOK.out rfl) (HOK2.out rfl))
      clear h35 h613 hd0 hz
      refine rg_start (by kernel_rfl) (Ext.refl w3) (fun hE0 => ?_)
      (refine rg_take (v := ?_) 0 rfl (by kernel_rfl) (by kernel_rfl) (by kernel_rfl) (fun _ _ _ h => h) (by rfl) (by assumption) (fun W hW => ?_) ?_; rotate_left; (focus (go_simp; try with_reducible rfl)); (try simp only [List.setIfInBounds_toArray, List.set_cons_succ, List.set_cons_zero]))
      (refine rg_take (v := ?_) 1 rfl (by kernel_rfl) (by kernel_rfl) (by kernel_rfl) (fun _ _ _ h => h) (by rfl) (by assumption) (fun W hW => ?_) ?_; rotate_left; (focus (go_simp; try with_reducible rfl)); (try simp only [List.setIfInBounds_toArray, List.set_cons_succ, List.set_cons_zero]))
      (refine rg_take (v := ?_) 2 rfl (by kernel_rfl) (by kernel_rfl) (by kernel_rfl) (fun _ _ _ h => h) (by rfl) (by assumption) (fun W hW => ?_) ?_; rotate_left; (focus (go_simp; try with_reducible rfl)); (try simp only [List.setIfInBounds_toArray, List.set_cons_succ, List.set_cons_zero]))
      (refine rg_take (v := ?_) 3 rfl (by kernel_rfl) (by kernel_rfl) (by kernel_rfl) (fun _ _ _ h => h) (by rfl) (by assumption) (fun W hW => ?_) ?_; rotate_left; (focus (go_simp; try with_reducible rfl)); (try simp only [List.setIfInBounds_toArray, List.set_cons_succ, List.set_cons_zero]))
      (refine rg_take (v := ?_) 4 rfl (by kernel_rfl) (by kernel_rfl) (by kernel_rfl) (fun _ _ _ h => h) (by rfl) (by assumption) (fun W hW => ?_) ?_; rotate_left; (focus (go_simp; try with_reducible rfl)); (try simp only [List.setIfInBounds_toArray, List.set_cons_succ, List.set_cons_zero]))
      (refine rg_take (v := ?_) 5 rfl (by kernel_rfl) (by kernel_rfl) (by kernel_rfl) (fun _ _ _ h => h) (by rfl) (by assumption) (fun W hW => ?_) ?_; rotate_left; (focus (go_simp; try with_reducible rfl)); (try simp only [List.setIfInBounds_toArray, List.set_cons_succ, List.set_cons_zero]))
      (refine rg_take (v := ?_) 6 rfl (by kernel_rfl) (by kernel_rfl) (by kernel_rfl) (fun _ _ _ h => h) (by rfl) (by assumption) (fun W hW => ?_) ?_; rotate_left; (focus (go_simp; try with_reducible rfl)); (try simp only [List.setIfInBounds_toArray, List.set_cons_succ, List.set_cons_zero]))
      (refine rg_take (v := ?_) 7 rfl (by kernel_rfl) (by kernel_rfl) (by kernel_rfl) (fun _ _ _ h => h) (by rfl) (by assumption) (fun W hW => ?_) ?_; rotate_left; (focus (go_simp; try with_reducible rfl)); (try simp only [List.setIfInBounds_toArray, List.set_cons_succ, List.set_cons_zero]))
      (refine rg_take (v := ?_) 8 rfl (by kernel_rfl) (by kernel_rfl) (by kernel_rfl) (fun _ _ _ h => h) (by rfl) (by assumption) (fun W hW => ?_) ?_; rotate_left; (focus (go_simp; try with_reducible rfl)); (try simp only [List.setIfInBounds_toArray, List.set_cons_succ, List.set_cons_zero]))
      (refine rg_take (v := ?_) 9 rfl (by kernel_rfl) (by kernel_rfl) (by kernel_rfl) (fun _ _ _ h => h) (by rfl) (by assumption) (fun W hW => ?_) ?_; rotate_left; (focus (have q0 := hW.cell z0; have q1 := hW.cell z1; have q2 := hW.cell z2; have q3 := hW.cell z3; have q4 := hW.cell z4; have q5 := hW.cell z5; have q6 := hW.cell z6; go_simp; try with_reducible rfl)); (try simp only [List.setIfInBounds_toArray, List.set_cons_succ, List.set_cons_zero]))
      (refine rg_take (v := ?_) 10 rfl (by kernel_rfl) (by kernel_rfl) (by kernel_rfl) (fun _ _ _ h => h) (by rfl) (by assumption) (fun W hW => ?_) ?_; rotate_left; (focus (go_simp; try with_reducible rfl)); (try simp only [List.setIfInBounds_toArray, List.set_cons_succ, List.set_cons_zero]))
      (refine rg_take (v := ?_) 11 rfl (by kernel_rfl) (by kernel_rfl) (by kernel_rfl) (fun _ _ _ h => h) (by rfl) (by assumption) (fun W hW => ?_) ?_; rotate_left; (focus (go_simp; try with_reducible rfl)); (try simp only [List.setIfInBounds_toArray, List.set_cons_succ, List.set_cons_zero]))
      (refine rg_take (v := ?_) 12 rfl (by kernel_rfl) (by kernel_rfl) (by kernel_rfl) (fun _ _ _ h => h) (by rfl) (by assumption) (fun W hW => ?_) ?_; rotate_left; (focus (go_simp; try with_reducible rfl)); (try simp only [List.setIfInBounds_toArray, List.set_cons_succ, List.set_cons_zero]))
      (refine rg_take (v := ?_) 13 rfl (by kernel_rfl) (by kernel_rfl) (by kernel_rfl) (fun _ _ _ h => h) (by rfl) (by assumption) (fun W hW => ?_) ?_; rotate_left; (focus (go_simp; try with_reducible rfl)); (try simp only [List.setIfInBounds_toArray, List.set_cons_succ, List.set_cons_zero]))
      (refine rg_take (v := ?_) 14 rfl (by kernel_rfl) (by kernel_rfl) (by kernel_rfl) (fun _ _ _ h => h) (by rfl) (by assumption) (fun W hW => ?_) ?_; rotate_left; (focus (have q0 := hW.cell z0; have q1 := hW.cell z1; have q2 := hW.cell z2; have q3 := hW.cell z3; have q4 := hW.cell z4; have q5 := hW.cell z5; have q6 := hW.cell z6; go_simp; try with_reducible rfl)); (try simp only [List.setIfInBounds_toArray, List.set_cons_succ, List.set_cons_zero]))
      (refine rg_take (v := ?_) 15 rfl (by kernel_rfl) (by kernel_rfl) (by kernel_rfl) (fun _ _ _ h => h) (by rfl) (by assumption) (fun W hW => ?_) ?_; rotate_left; (focus (go_simp; try with_reducible rfl)); (try simp only [List.setIfInBounds_toArray, List.set_cons_succ, List.set_cons_zero]))
      (refine rg_take (v := ?_) 16 rfl (by kernel_rfl) (by kernel_rfl) (by kernel_rfl) (fun _ _ _ h => h) (by rfl) (by assumption) (fun W hW => ?_) ?_; rotate_left; (focus (go_simp; try with_reducible rfl)); (try simp only [List.setIfInBounds_toArray, List.set_cons_succ, List.set_cons_zero]))
      (refine rg_take (v := ?_) 17 rfl (by kernel_rfl) (by kernel_rfl) (by kernel_rfl) (fun _ _ _ h => h) (by rfl) (by assumption) (fun W hW => ?_) ?_; rotate_left; (focus (go_simp; try with_reducible rfl)); (try simp only [List.setIfInBounds_toArray, List.set_cons_succ, List.set_cons_zero]))
      (refine rg_take (v := ?_) 18 rfl (by kernel_rfl) (by kernel_rfl) (by kernel_rfl) (fun _ _ _ h => h) (by rfl) (by assumption) (fun W hW => ?_) ?_; rotate_left; (focus (go_simp; try with_reducible rfl)); (try simp only [List.setIfInBounds_toArray, List.set_cons_succ, List.set_cons_zero]))
      (refine rg_take (v := ?_) 19 rfl (by kernel_rfl) (by kernel_rfl) (by kernel_rfl) (fun _ _ _ h => h) (by rfl) (by assumption) (fun W hW => ?_) ?_; rotate_left; (focus (go_simp; try with_reducible rfl)); (try simp only [List.setIfInBounds_toArray, List.set_cons_succ, List.set_cons_zero]))
      refine rg_done (by kernel_rfl) ?_
      have HPS4 := Lib.hid (HPS3.out.ext hE0)
      have HE4 := Lib.hid (HE3.out.trans hE0)
      generalize w3.drew = w4 at HPS4 HE4 ⊢
      have hps := HPS4.out
      obtain ⟨vs, hsb, hrow⟩ := hps
      obtain ⟨Av, cv, rfl⟩ := own_sl2 hrow
      have s0 := hsb.cell (i := 0) (by simp)
      simp only [List.getElem_cons_zero] at s0
      have HSB := Lib.hid hsb
      have HROW := Lib.hid hrow
      have HSTEP := Lib.hid (run_step_of HXM.out HRUN.out (HKY.out))
      have hdb : 0 ≤ M ∧ M ≤ 40 := by omega
      clear hsb hrow
      go_wp2_with (at_builtin; refine wpList_append_own _ rfl (.tmp 133) (.tmp 138) 157 rfl w.heap.size 159 i0 (.agg #[.int .i64 0, .int .i64 0]) 2 16 Try.underlying157 hi hz0 hz1 hz2 rfl (by decide) _ st3.length _ rfl (own_ext HROW.out ((Ext.refl _).alloc _)) ⟨w4.heap.size, 0, none⟩ 1 1 [.int .i64 (ii : Int), .int .i64 (M + 1)] rfl rfl (rd_add (Blk.new w4 _ _).rd) (by intro u hu; simp at hu; rcases hu with rfl | rfl <;> rfl) (by unfold maxLen; omega) (by omega) (by rw [World.size_alloc]; have := (HE4.out).le; omega) ?_)
      intro v' w9 ho9 hg9 _
      have hsb9 := (hg9.block (w.heap.size + 1) (Nat.lt_of_lt_of_le HSB.out.lt (by rw [World.size_alloc]; omega)) (fun e => by obtain ⟨cs', hb⟩ := own_some_blk' HROW.out e.symm; exact absurd (blk_ty' HSB.out hb) (by decide))).trans (HSB.out.ext ((Ext.refl _).alloc _))
      have HSB9 := Lib.hid (show Blk w9 (w.heap.size + 1) 157 [Value.slice Av st3.length cv] from hsb9)
      have HE9 := Lib.hid (((HE4.out).alloc _).grown hg9 (own_blk HROW.out))
      obtain ⟨A9, c9, rfl⟩ := own_sl2 ho9
      have HO9 := Lib.hid ho9
      have f9 := HSB9.out.frozen 0
      have s9 := HSB9.out.cell (i := 0) (by simp)
      simp only [List.getElem_cons_zero] at s9
      clear hsb9 hg9 ho9 s0
      go_wp2_with fail
      go_roundw
      case rel => exact ⟨ii + 1, _, HIN.out, by go_num, PS.push HSB9.out HO9.out, HE9.out.set (by dsimp only; omega) _, HSTEP.out⟩
      case measure => simp [intOf]; have := HIN.out; omega
set_option maxHeartbeats 2000000 in
theorem impl_ExprOK (A : Option Addr) (n p : Nat) (l : List CExprNode) (w : World) (hl : l.length = n) (hn : n ≤ 1099511627776) (hxs : ∀ x ∈ l, x.s.size ≤ maxLen) (hr : Rd w A (l.flatMap CExprNode.cs)) :
    Calls Try.prog 33 #[.agg #[.slice A n p]] w fun e w' => e = .returned (.bool (exB l)) ∧ Ext w w' := by
  have hE0 : Ext w (w.alloc (.cells #[.slice A n p] 54)) := (by repeat (first | exact Ext.refl _ | assumption | refine Ext.alloc ?_ _ | refine Ext.drewN ?_ _ | refine Ext.drew ?_ | refine Ext.set ?_ (by dsimp only; omega) _ | refine Ext.trans ?_ (by assumption)))
  have HE0 := Lib.hid hE0
  have HIN := Lib.hid (fun W => impl_inRange (n : Int) 1 40 W)
  unfold exB
  rw [hl]
  rcases hin : inB (n : Int) 1 40 with _ | _
  · rw [hin] at HIN
    clear hin hxs hr hE0
    go_enter Try.func33, Try.ntmps33
    go_wp2_with fail
    refine (HIN.out _).mono ?_
    rintro e w1 ⟨rfl, rfl⟩
    go_wp2_with fail
    go_ret
    exact ⟨by rfl, HE0.out⟩
  · rw [hin] at HIN
    have hb := inB_true hin
    have HC := Lib.hid (impl_depthOf A n p l (w.alloc (.cells #[.slice A n p] 54)) hl (by omega) hxs (hr.ext hE0))
    clear hin hxs hr hE0 hl
    rw [Bool.true_and]
    go_enter Try.func33, Try.ntmps33
    go_wp2_with fail
    refine (HIN.out _).mono ?_
    rintro e w1 ⟨rfl, rfl⟩
    go_wp2_with fail
    refine HC.out.mono ?_
    rintro e w2 ⟨D, rfl, E2, hD⟩
    have HD := Lib.hid hD
    have HI2 := Lib.hid (fun W => impl_inRange D 1 12 W)
    clear hD
    go_wp2_with fail
    refine (HI2.out _).mono ?_
    rintro e w3 ⟨rfl, rfl⟩
    go_wp2_with fail
    go_ret
    exact ⟨by (rw [← HD.out]; try rfl), HE0.out.trans E2⟩
end Go.Proofs.Ythfkfdfcgldbeaa
