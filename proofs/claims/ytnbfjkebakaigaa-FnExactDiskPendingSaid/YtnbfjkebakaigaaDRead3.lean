/- The walks of what a sector tells, both sides. -/
import Derived.Test.YtnbfjkebakaigaaDRead2
namespace Go.Proofs.Ytnbfjkebakaigaa
open Go.RowKit Go.Shelf
attribute [local go_sem] Oper.semAt_some
set_option linter.unusedVariables false
set_option maxRecDepth 100000
theorem bkUp_ne {l : List CPending} {x : Int} {m : Nat} (h : ∀ p ∈ bkUp l m, p.2.a ≠ x) {j : Nat} (hj : j < l.length) (hm : l.length ≤ j + m) : l[j].a ≠ x := by
  have h1 := h (bk l (l.length - 1 - j)) (List.mem_map.2 ⟨_, List.mem_range.2 (by omega), rfl⟩)
  have e : (bk l (l.length - 1 - j)).2 = l[j] := by
    unfold bk
    rw [show l.length - 1 - (l.length - 1 - j) = j by omega, List.getD_eq_getElem?_getD, List.getElem?_eq_getElem hj]; rfl
  rw [e] at h1
  exact h1
theorem bkUp_none {l : List CPending} {x : Int} {m : Nat} (h : ∀ p ∈ bkUp l m, p.2.a ≠ x) (hm : l.length ≤ m) : ∀ j, (hj : j < l.length) → (l[j]'hj).a ≠ x := fun j hj => bkUp_ne h hj (by omega)
theorem lastP_bk {l : List CPending} {x : Int} {m : Nat} (h : ∀ p ∈ bkUp l m, p.2.a ≠ x) (hx : (bk l m).2.a = x) (hm : m < l.length) : lastP x l = some (bk l m).2.c := by
  obtain ⟨j, hj⟩ : ∃ j, j = l.length - 1 - m := ⟨_, rfl⟩
  have hjl : j < l.length := by omega
  have e : (bk l m).2 = l[j] := by
    unfold bk
    rw [← hj, List.getD_eq_getElem?_getD, List.getElem?_eq_getElem hjl]; rfl
  rw [e] at hx ⊢
  exact lastP_found hjl hx (fun i hi hk => bkUp_ne h hi (by omega))
theorem blk_own {β : Type} (b : Nat) (t : TypeId) (cs : List Value) : Own (fun (_ : β) W => Blk W b t cs) := fun s X Y row hs hg hrow => by
  have hs' : X.heap[b]? = some (.cells cs.toArray t (0, 0)) := hs
  refine (hg.block b (Array.getElem?_eq_some_iff.1 hs').1 (fun e' => ?_)).trans hs'
  obtain ⟨o, ho, hc⟩ := hrow b e'.symm
  rw [hs'] at ho; cases ho; cases hc
set_option maxRecDepth 100000 in
set_option maxHeartbeats 4000000 in
theorem read_in (F : Fence) (n : Nat) (hf : F.fn 80) (hf1 : F.fn 140) (hf2 : F.fn 173) (hro : F.round = none) (hn : 6 ≤ n)
    (As : Option Addr) (ns ps bc nc pc : Nat) (ar : Bool) (Ak : Option Addr) (nk pk : Nat) (ls : List ByteArray) (lc : List CPending) (k : Nat) (w : World) (hlc : lc.length = nc) (hnc : nc ≤ 1000) (hls : ls.length = ns) (hns : ns ≤ 1000) (hk : k < ns) (hbc : bc < w.heap.size) (hrs : Rd w As (ls.map fun c => Value.string c)) (hrc : PCells w bc 0 lc) :
    CallsIn F n Try.prog 80 #[.agg #[.slice As ns ps, .slice (some ⟨bc, 0, none⟩) nc pc, .bool ar, .slice Ak nk pk], .int .i64 (k : Int)] w fun e W' => e = .returned (.string (tellB ls lc (k : Int))) ∧ Ext w W' := by
  have h1 : 1 ≤ n := by omega
  refine callsIn_of_wp_marks Try.func80 rfl hf ?_ hro
  simp only [Try.ntmps80, List.size_toArray, List.length_cons, List.length_nil, Nat.reduceAdd, Nat.reduceSub, Array.replicate_succ, Array.replicate_zero, List.push_toArray, List.append_toArray, List.nil_append, List.cons_append]
  gi_wp2_with (gi_at_call 140; refine (back_in F (n - 1) hf1 hro _ _ _ _).mono ?_; rintro e w' ⟨rfl, rfl⟩)
  have E1 : Ext w (w.alloc (.cells #[.slice As ns ps, .slice (some ⟨bc, 0, none⟩) nc pc, .bool ar, .slice Ak nk pk] 26)) := (by repeat (first | exact Ext.refl _ | assumption | refine Ext.alloc ?_ _ | refine Ext.drewN ?_ _ | refine Ext.drew ?_ | refine Ext.set ?_ (by dsimp only; omega) _ | refine Ext.trans ?_ (by assumption)))
  have bD := ((Blk.new w 26 [.slice As ns ps, .slice (some ⟨bc, 0, none⟩) nc pc, .bool ar, .slice Ak nk pk]).alloc (.cells #[.int .i64 (k : Int)] 3)).alloc (.cells #[.string ⟨#[]⟩] 9)
  have bA := (Blk.new (w.alloc (.cells #[.slice As ns ps, .slice (some ⟨bc, 0, none⟩) nc pc, .bool ar, .slice Ak nk pk] 26)) 3 [.int .i64 (k : Int)]).alloc (.cells #[.string ⟨#[]⟩] 9)
  have bR := Blk.new ((w.alloc (.cells #[.slice As ns ps, .slice (some ⟨bc, 0, none⟩) nc pc, .bool ar, .slice Ak nk pk] 26)).alloc (.cells #[.int .i64 (k : Int)] 3)) 9 [.string ⟨#[]⟩]
  have bN := Blk.new (((w.alloc (.cells #[.slice As ns ps, .slice (some ⟨bc, 0, none⟩) nc pc, .bool ar, .slice Ak nk pk] 26)).alloc (.cells #[.int .i64 (k : Int)] 3)).alloc (.cells #[.string ⟨#[]⟩] 9)) 23 [.slice (some ⟨bc, 0, none⟩) nc pc]
  have bD := bD.alloc (.cells #[.slice (some ⟨bc, 0, none⟩) nc pc] 23)
  have bA := bA.alloc (.cells #[.slice (some ⟨bc, 0, none⟩) nc pc] 23)
  have bR := bR.alloc (.cells #[.slice (some ⟨bc, 0, none⟩) nc pc] 23)
  have hE0 : Ext w ((((w.alloc (.cells #[.slice As ns ps, .slice (some ⟨bc, 0, none⟩) nc pc, .bool ar, .slice Ak nk pk] 26)).alloc (.cells #[.int .i64 (k : Int)] 3)).alloc (.cells #[.string ⟨#[]⟩] 9)).alloc (.cells #[.slice (some ⟨bc, 0, none⟩) nc pc] 23)) := (by repeat (first | exact Ext.refl _ | assumption | refine Ext.alloc ?_ _ | refine Ext.drewN ?_ _ | refine Ext.drew ?_ | refine Ext.set ?_ (by dsimp only; omega) _ | refine Ext.trans ?_ (by assumption)))
  have hsz : ((((w.alloc (.cells #[.slice As ns ps, .slice (some ⟨bc, 0, none⟩) nc pc, .bool ar, .slice Ak nk pk] 26)).alloc (.cells #[.int .i64 (k : Int)] 3)).alloc (.cells #[.string ⟨#[]⟩] 9)).alloc (.cells #[.slice (some ⟨bc, 0, none⟩) nc pc] 23)).heap.size = w.heap.size + 4 := by simp
  simp only [World.size_alloc] at bD bA bR bN
  obtain ⟨W0, hW0⟩ : ∃ W0, ((((w.alloc (.cells #[.slice As ns ps, .slice (some ⟨bc, 0, none⟩) nc pc, .bool ar, .slice Ak nk pk] 26)).alloc (.cells #[.int .i64 (k : Int)] 3)).alloc (.cells #[.string ⟨#[]⟩] 9)).alloc (.cells #[.slice (some ⟨bc, 0, none⟩) nc pc] 23)) = W0 := ⟨_, rfl⟩
  rw [hW0] at bD bA bR bN hE0 hsz ⊢
  clear hW0
  have hcx : PCells W0 bc 0 lc := fun j hj => ⟨hE0.cell (hrc j hj).1, hE0.cell (hrc j hj).2⟩
  have bNc : W0.cell? ⟨w.heap.size + 1 + 1 + 1, 0, none⟩ = some (.slice (some ⟨bc, 0, none⟩) nc pc) := bN.cell (i := 0) (by simp)
  have HE1 := Lib.hid E1
  clear E1
  refine wpIn_rangeFunc_ownH hro h1 (gf := 173) (lb := #[.pointer (some ⟨w.heap.size + 1 + 1 + 1, 0, none⟩)]) rfl hf2 (enters_of Try.func173 (by kernel_rfl) rfl)
    (back_stops F (n - 1) hf2 hro (by omega) (w.heap.size + 1 + 1 + 1) W0.heap.size bc 0 nc pc lc hlc hnc (by omega) (by omega) W0 (Nat.le_refl _) bNc hcx) belowK_t (belowK_b (Nat.le_refl _)) (Below.refl _ _) (fun _ => rfl)
    (fun pre W => (∀ p ∈ pre, p.2.a ≠ (k : Int)) ∧ Below W0.heap.size W0 W)
    (fun c pre W => (c = .ret ∧ ∃ ini last, pre = ini ++ [last] ∧ (∀ p ∈ ini, p.2.a ≠ (k : Int)) ∧ last.2.a = (k : Int) ∧ Blk W (w.heap.size + 1 + 1) 9 [.string last.2.c]) ∧ Below w.heap.size w W)
    (OwnFrom.and (ownFrom_pure _ _) (ownFrom_below (Nat.le_refl _) (Nat.le_refl _)))
    (fun c => OwnFrom.and (fun s A B row hs hg hr => by obtain ⟨hc, ini, last, e1, e2, e3, e4⟩ := hs; exact ⟨hc, ini, last, e1, e2, e3, Own.from (blk_own (β := Unit) _ _ _) _ () A B row e4 hg hr⟩) (ownFrom_below (Nat.le_refl _) (by omega)))
    ⟨by simp, Below.refl _ _⟩
    (fun x a' W => ∃ Bx, W0.heap.size ≤ Bx ∧ Blk W Bx 118 [.int .i64 x.2.a, .string x.2.c] ∧ a' = { tmps := #[Value.agg #[Value.slice As ns ps, Value.slice (some ⟨bc, 0, none⟩) nc pc, Value.bool ar, Value.slice Ak nk pk], Value.int IntKind.i64 ↑k, Value.pointer (some ⟨w.heap.size, 0, none⟩), Value.pointer (some ⟨w.heap.size + 1, 0, none⟩), Value.pointer (some ⟨w.heap.size + 1 + 1, 0, none⟩), undef, .pointer (some ⟨Bx, 0, none⟩), Value.pointer (some ⟨w.heap.size, 1, none⟩), Value.slice (some ⟨bc, 0, none⟩) nc pc, Value.func (Fn.func 173) #[] #[Value.pointer (some ⟨w.heap.size + 1 + 1 + 1, 0, none⟩)], .int .i64 (x.1 : Int), .agg #[.int .i64 x.2.a, .string x.2.c], undef, undef, undef, undef, undef, undef, undef, undef, undef, undef, undef], defers := [] })
    (fun x a' _ X Y row hs hg hr => by obtain ⟨Bx, h1, h2, h3⟩ := hs; exact ⟨Bx, h1, Own.from (blk_own (β := Unit) _ _ _) _ () X Y row h2 hg hr, h3⟩)
    ?assign ?body ?done ?stop
  case assign =>
    rintro l pre x W K ⟨hp, hB1⟩ hK
    have hsW := hB1.size
    gi_wp2
    exact hK _ _ ((KeepsOthers.alloc _ _).from _) ((Below.refl _ W).alloc hB1.size _) ⟨hp, hB1.alloc hB1.size _⟩ ⟨W.heap.size, hsW, Blk.new W _ [_, _], rfl⟩
  case body =>
    rintro l pre x a' W hl ⟨r, hr⟩ ⟨hp, hB1⟩ ⟨Bx, hBx, bX, rfl⟩ hlt
    obtain ⟨xi, xa, xc⟩ := x
    have HBA := Lib.hid (show Ext W0 W from hB1)
    have c1 := (bA.ext HBA.out).cell (i := 0) (by simp)
    have cr := (bR.ext HBA.out).cell (i := 0) (by simp)
    have fr := (bR.ext HBA.out).frozen 0
    have x0 := bX.cell (i := 0) (by simp)
    have x1 := bX.cell (i := 1) (by simp)
    dsimp only [List.getElem_cons_zero, List.getElem_cons_succ] at c1 cr x0 x1
    by_cases hx : xa = (k : Int)
    · subst hx
      have e1 : ((k : Int) == (k : Int)) = true := by simp
      gi_wp2
      exact ⟨(KeepsOthers.setCell _ _ _).from _, ⟨rfl, pre, xi, ⟨_, xc⟩, rfl, fun a b h => hp (a, b) h, rfl, (bR.ext HBA.out).set 0 _⟩, (hE0.trans HBA.out).set (p := ⟨w.heap.size + 1 + 1, 0, none⟩) (by show w.heap.size ≤ w.heap.size + 1 + 1; omega) _⟩
    · have e1 : (xa == (k : Int)) = false := by simpa using hx
      gi_wp2
      exact ⟨KeepsFrom.refl _ _, Below.refl _ _, fun a b h => (List.mem_append.1 h).elim (hp (a, b)) (fun e => by simp at e; obtain ⟨-, rfl⟩ := e; exact hx), by rw [← hsz]; exact hB1⟩
  case done =>
    rintro D ys W hD rfl ⟨hp, hB1⟩ hK
    have HBA := Lib.hid (show Ext W0 W from hB1)
    obtain ⟨d0, d1, d2, d3⟩ := (bD.ext HBA.out).cells4
    have c1 := (bA.ext HBA.out).cell (i := 0) (by simp)
    have cr := (bR.ext HBA.out).cell (i := 0) (by simp)
    have fr := (bR.ext HBA.out).frozen 0
    dsimp only [List.getElem_cons_zero, List.getElem_cons_succ] at c1 cr
    obtain ⟨sb, so, hAs, hsc⟩ := (hrs.ext (hE0.trans HBA.out)) (by intro h; have := congrArg List.length h; simp at this; subst this; simp at hls; omega)
    subst hAs
    have hcell := hsc k (.string ls[k]) (by simp [List.getElem?_eq_getElem (show k < ls.length by omega)])
    have HNO := Lib.hid hp
    clear hp
    have hk0 : (0 : Int) ≤ (k : Int) := by omega
    have hkn : (k : Int) < (ns : Int) := by omega
    gi_wp2
    have hK' := (KeepsOthers.setCell W ⟨w.heap.size + 1 + 1, 0, none⟩ (.string ls[k])).same D _ hK rfl
    refine ⟨by simp, .inl ⟨_, _, rfl, run_takeDeferred hK', ?_⟩⟩
    have hc5 := cell_kept (World.cell?_setCell_same' W ⟨w.heap.size + 1 + 1, 0, none⟩ (.string ls[k]) (by rw [cr]; rfl)) (grownBy_putObj' _ D (.deferred none)) (fun r e => by cases e; exact ⟨_, hK', rfl⟩)
    refine ⟨.string ls[k], ?_, ?_, Below.trans (show Below w.heap.size w _ from (hE0.trans HBA.out).set (p := ⟨w.heap.size + 1 + 1, 0, none⟩) (by show w.heap.size ≤ w.heap.size + 1 + 1; omega) _) (belowK_b (w := w) (Nat.le_refl _) _ D _ _ (by omega) hK' rfl rfl)⟩
    · simp [results, Try.f80, go_sem, hc5]
    · rw [tellB_none (lastP_none (bkUp_none HNO.out (by omega))) rfl (by omega)]
  case stop =>
    rintro D c pre W hD ⟨k1, hk1, rfl⟩ ⟨⟨rfl, ini, last, e1, e2, e3, bR1⟩, hB⟩ hK
    gi_wp2
    refine ⟨by simp, .inl ⟨_, _, rfl, run_takeDeferred hK, ?_⟩⟩
    have hc5 := cell_kept (bR1.cell (i := 0) (by simp)) (grownBy_putObj' _ D (.deferred none)) (fun r e => by cases e; exact ⟨_, hK, rfl⟩)
    obtain ⟨k', rfl⟩ : ∃ k', k1 = k' + 1 := by
      cases k1 with
      | zero => simp [bkUp] at e1
      | succ k' => exact ⟨k', rfl⟩
    rw [bkUp_succ] at e1
    obtain ⟨rfl, e5⟩ := List.append_inj' e1 rfl
    obtain rfl : bk lc k' = last := by simpa using e5
    refine ⟨.string (bk lc k').2.c, ?_, ?_, hB.trans (belowK_b (w := w) (Nat.le_refl _) W D _ _ (by omega) hK rfl rfl)⟩
    · simp [results, Try.f80, go_sem, hc5]
    · rw [tellB_some (lastP_bk e2 e3 (by omega))]
end Go.Proofs.Ytnbfjkebakaigaa
