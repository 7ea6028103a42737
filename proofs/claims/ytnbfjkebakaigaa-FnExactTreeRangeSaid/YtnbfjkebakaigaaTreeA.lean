/- What is put behind a row out of a slice that reads, nil too. No program in sight. -/
import Derived.Test.YtnbfjkebakaigaaTreeM
import Derived.Test.YtnbfjkebakaigaaRg
import Derived.Test.YtnbfjkebakaigaaRgX
import Derived.Test.YtnbfjkebakaigaaFields
namespace Go.Proofs.Ytnbfjkebakaigaa
open Go.RowKit Go.Deep
set_option linter.unusedVariables false
set_option maxRecDepth 100000
theorem run_append_zero {P : Program} {w : World} (base : Nat) (t ty e : TypeId) (i : TypeInfo) (size : Nat) (ht : P.underlying t = some (.slice e)) (hi : P.info? e = some i)
    (v : Value) (n : Nat) (xs : List Value) (hown : w.ownsRow base e size v n xs) (c : Nat) : (Builtin.append_ #[t, t] ty #[v, .slice none 0 c]).run P w = .ok v w := by
  rcases hown.2 with ⟨rfl, rfl⟩ | ⟨g, cap, cur, rfl, _, _, h, _⟩
  · simp [Builtin.append_, run_underlying ht, sizeOf, typeInfo, hi, Builtin.lenOf, Builtin.firstCells]
  · simp [Builtin.append_, run_underlying ht, sizeOf, typeInfo, hi, Builtin.lenOf, Builtin.firstCells, h, storeCells]
theorem wp_append_rd {P : Program} {d : Option Tmp} {ty : TypeId} {pos : String} {af : Array Edge} {g : Option (Nat × Bool)} {a : Act} {w : World} {K : Act → World → Prop} {Q : Exit → Act → World → Prop}
    (s x : Operand) (t : TypeId)
    (base : Nat) (e : TypeId) (i : TypeInfo) (z : Value) (bytes : Nat) (h1 : P.underlying t = some (.slice e)) (h2 : P.info? e = some i) (h3 : i.zero = some z) (h4 : i.size = 1) (h5 : i.bytes = bytes) (h6 : z.cells.size = 1)
    (v : Value) (n : Nat) (xs : List Value) (hs : a.eval s = v) (hown : w.ownsRow base e 1 v n xs)
    (A : Option Addr) (m c : Nat) (news : List Value) (hx : a.eval x = .slice A m c) (hn : news.length = m) (hr : Rd w A news) (h1c : ∀ u ∈ news, u.oneCell' = true)
    (b1 : n + m ≤ maxLen) (b2 : (n + m) * bytes ≤ 140737488355328) (hb : base ≤ w.heap.size)
    (hK : ∀ v' w', w'.ownsRow base e 1 v' (n + m) (xs ++ news) → w.grownBy w' v.ownBlock → K (a.put d v') w') :
    Oper.wp P ⟨d, Op.call { callee := Callee.builtin Builtin.append, args := #[s, x], argTypes := #[t, t] }, ty, pos, af, g⟩ a w K Q := by
  rcases A with _ | ad
  · have hnil : news = [] := by
      rcases news with _ | ⟨u, r⟩
      · rfl
      · obtain ⟨b, o, h, _⟩ := hr (by simp)
        cases h
    subst hnil
    obtain rfl : m = 0 := by simpa using hn.symm
    have hrun := run_append_zero (P := P) base t ty e i 1 h1 h2 v n xs hown c
    unfold Oper.wp
    simp [execOp, resolve, invoke, builtin, hs, hx, hrun, Result.andThen]
    exact hK v w (by simpa using hown) (World.grownBy.refl w _)
  · refine wp_append_own s x t base e i z 1 bytes h1 h2 h3 h4 h5 h6 (by decide) v n xs hs hown ad m c news hx (by omega) ?_ h1c b1 b2 hb hK
    intro j u hu
    obtain ⟨b, o, h, _⟩ := hr (by intro h0; rw [h0] at hu; simp at hu)
    injection h with h
    subst h
    exact rd_add hr j u hu
section
variable {P : Program} {ops : Array Oper} {Q : Exit → Act → World → Prop} {md : Region.Mode} {S : World → Prop} {t : Nat}
theorem listed_both {l : Array Bool} {i : Nat} (h : l.getD i true = false) (h1 : l.getD i false = true) : False := by
  rcases Nat.lt_or_ge i l.size with h' | h'
  · simp [h'] at h h1; rw [h] at h1; cases h1
  · simp [Array.getElem?_eq_none h'] at h1
theorem wpAnyX_first2 {i k : Nat} {oi : Oper} {v : Value} (hi : ops[i]? = some oi) (hsel : ∀ (j : Nat) (o : Oper) cs b, ops[j]? = some o → o.op ≠ .select cs b)
    (hQ : ∀ c a w, Q (.panic c) (a.put oi.dst v) w → Q (.panic c) a w) (hT : waitsX md ops t k = true) (hT2 : waitsX md ops k i = true) :
    ∀ (fuel : Nat) (listed : Array Bool) (a : Act) (w : World),
      (∀ j oj, ops[j]? = some oj → j ≠ i → listed.getD j true = false → (∀ e ∈ oj.after, Region.binds md e = true → e.on ≠ i) → oi.apart ops oj = true) →
      i ∈ Region.ready md ops listed → listed.getD k true = false → YieldsIf P ops S oi v a → S w →
      wpAnyX P md ops Q S t fuel (listed.setIfInBounds i true) (a.put oi.dst v) w → wpAnyX P md ops Q S t (fuel + 1) listed a w := by
  have wait : ∀ {a b : Nat} {listed : Array Bool} {o : Oper}, waitsX md ops a b = true → ops[a]? = some o → (∀ e ∈ o.after, Region.binds md e = true → listed.getD e.on false = true) → listed.getD b false = true := by
    intro a b listed o hw ho hall
    unfold waitsX at hw
    rw [ho] at hw
    rw [List.any_eq_true] at hw
    obtain ⟨x, hx, hb⟩ := hw
    rw [Bool.and_eq_true] at hb
    have h1 := hall x (Array.mem_toList_iff.1 hx) hb.1
    have h2 : x.on = b := by simpa using hb.2
    rw [h2] at h1
    exact h1
  intro fuel
  induction fuel with
  | zero =>
    intro listed a w _ hr hk hy hS H
    refine ⟨fun h => (by rw [h] at hr; cases hr), fun j hj => ?_⟩
    by_cases hji : j = i
    · subst hji; exact hy.wpOp hi hS ⟨.inr hS, H⟩
    · have := ready_mono hj hji
      rw [H.1] at this
      cases this
  | succ fuel ih =>
    intro listed a w hfree hr hk hy hS H
    refine ⟨fun h => (by rw [h] at hr; cases hr), fun j hj => ?_⟩
    by_cases hji : j = i
    · subst hji; exact hy.wpOp hi hS ⟨.inr hS, H⟩
    · have h1 := H.2 j (ready_mono hj hji)
      obtain ⟨hjun, oj, hoj, hall⟩ := mem_ready.1 hj
      have hiun := (mem_ready.1 hr).1
      have hin : ¬ listed.getD i false = true := fun h0 => listed_both hiun h0
      have hnot : ∀ e ∈ oj.after, Region.binds md e = true → e.on ≠ i := fun e he hb heq => hin (heq ▸ hall e he hb)
      have hjt : j ≠ t := by
        intro e
        subst e
        exact listed_both hk (wait hT hoj hall)
      have hjk : j ≠ k := by
        intro e
        subst e
        exact hin (wait hT2 hoj hall)
      have h2 := wpOp_putIf hoj (hfree j oj hoj hji hjun hnot) (fun cs b => hsel i oi cs b hi) (fun cs b => hsel j oj cs b hoj) hQ hy h1
      have hfree' : ∀ k ok, ops[k]? = some ok → k ≠ i → (listed.setIfInBounds j true).getD k true = false →
          (∀ e ∈ ok.after, Region.binds md e = true → e.on ≠ i) → oi.apart ops ok = true := fun k ok hk hki hun hno => by
        refine hfree k ok hk hki ?_ hno
        by_cases hjk : j = k
        · subst hjk; exact hjun
        · rw [getD_set_ne true hjk] at hun; exact hun
      refine wpOp_mono (fun a' w' h3 => ⟨h3.2.1, ih (listed.setIfInBounds j true) a' w' hfree' (ready_mono hr (Ne.symm hji)) (by rw [getD_set_ne true hjk]; exact hk) h3.1 (h3.2.1.resolve_left hjt) ?_⟩) h2
      rw [Array.setIfInBounds_comm _ _ hji]
      exact h3.2.2
theorem rx_take2 {d : Tmp} {op : Op} {ty : TypeId} {pos : String} {af : Array Edge} {g : Option (Nat × Bool)} {v : Value} {fuel : Nat} {listed : Array Bool} {tmps : Array Value} {dfs : List Deferred} {w : World}
    (i k : Nat) (hi : ops[i]? = some ⟨some d, op, ty, pos, af, g⟩) (hT : waitsX md ops t k = true) (hT2 : waitsX md ops k i = true) (hk : listed.getD k true = false) (hs : Region.noSelect ops = true) (hf : Region.free md ops listed i = true) (hr : (Region.ready md ops listed).contains i = true)
    (hQ : ∀ c a w, Q (.panic c) (a.put (some d) v) w → Q (.panic c) a w) (hw : Region.wanted ⟨some d, op, ty, pos, af, g⟩ (yielded ops tmps) = true)
    (hS : S w) (hy : ∀ W, S W → (execOp (Act.eval ⟨tmps, dfs⟩) ⟨some d, op, ty, pos, af, g⟩).run P W = .ok (.value v) W)
    (h : wpAnyX P md ops Q S t fuel (listed.setIfInBounds i true) ⟨tmps.setIfInBounds d v, dfs⟩ w) : wpAnyX P md ops Q S t (fuel + 1) listed ⟨tmps, dfs⟩ w :=
  wpAnyX_first2 hi (Region.noSelect_spec hs) hQ hT hT2 fuel listed _ w (Region.free_spec hi hf) (by simpa using hr) hk (Or.inl ⟨hw, hy⟩) hS h
theorem rx_skip {d : Tmp} {op : Op} {ty : TypeId} {pos : String} {af : Array Edge} {g : Option (Nat × Bool)} {fuel : Nat} {listed : Array Bool} {tmps : Array Value} {dfs : List Deferred} {w : World}
    (i : Nat) (hi : ops[i]? = some ⟨some d, op, ty, pos, af, g⟩) (hT : waitsX md ops t i = true) (hs : Region.noSelect ops = true) (hf : Region.free md ops listed i = true) (hr : (Region.ready md ops listed).contains i = true)
    (hQ : ∀ c a w, Q (.panic c) (a.put (some d) undef) w → Q (.panic c) a w) (hw : Region.wanted ⟨some d, op, ty, pos, af, g⟩ (yielded ops tmps) = false)
    (hS : S w)
    (h : wpAnyX P md ops Q S t fuel (listed.setIfInBounds i true) ⟨tmps.setIfInBounds d undef, dfs⟩ w) : wpAnyX P md ops Q S t (fuel + 1) listed ⟨tmps, dfs⟩ w :=
  wpAnyX_first hi (Region.noSelect_spec hs) hQ hT fuel listed _ w (Region.free_spec hi hf) (by simpa using hr) (Or.inr ⟨hw, rfl⟩) hS h
end
theorem str_one (l : List ByteArray) : ∀ u ∈ l.map (fun c => Value.string c), u.oneCell' = true := by
  intro u hu
  obtain ⟨c, -, rfl⟩ := List.mem_map.1 hu
  rfl
/-- one level up -/
def upV (R : Option VSt) : Option VSt := match R with | none => none | some (d, s, q) => some (d + 1, s, q)
/-- how far the kids' rounds have come: RK is what they answer at the end -/
def KRel (vis : Int → List Bool → List ByteArray → Option VSt) (ks : List ByteArray) (ds : List Int) (RK : Option VSt) (i d : Nat) (ok : Bool) (s : List Bool) (q : List ByteArray) : Prop :=
  (ok = true ∧ kidsV vis ks (ds.drop i) i (d, s, q) = RK) ∨ (ok = false ∧ RK = none)
section
variable {vis : Int → List Bool → List ByteArray → Option VSt} {ks : List ByteArray} {ds : List Int} {RK : Option VSt} {i d d2 : Nat} {ok2 : Bool} {s s2 : List Bool} {q q2 : List ByteArray} {k : Int}
theorem KRel.start (vis : Int → List Bool → List ByteArray → Option VSt) (ks : List ByteArray) (ds : List Int) (s : List Bool) (q : List ByteArray) : KRel vis ks ds (kidsV vis ks ds 0 (0, s, q)) 0 0 true s q := .inl ⟨rfl, rfl⟩
theorem KRel.good (h : KRel vis ks ds RK i d true s q) (hi : ds[i]? = some k) (hP : (ok2 = true ∧ vis k s q = some (d2, s2, q2)) ∨ (ok2 = false ∧ vis k s q = none)) (hk : kidOK i d d2 q.length q2 ks = true) : KRel vis ks ds RK (i + 1) d2 ok2 s2 q2 := by
  rcases h with ⟨-, h⟩ | ⟨h, -⟩
  · obtain ⟨hl, rfl⟩ := List.getElem?_eq_some_iff.1 hi
    rw [List.drop_eq_getElem_cons hl, kidsV] at h
    rcases hP with ⟨rfl, hv⟩ | ⟨rfl, hv⟩
    · rw [hv] at h
      dsimp only at h
      rw [if_pos hk] at h
      exact .inl ⟨rfl, h⟩
    · rw [hv] at h
      exact .inr ⟨rfl, h.symm⟩
  · cases h
theorem KRel.bad (h : KRel vis ks ds RK i d true s q) (hi : ds[i]? = some k) (hP : (ok2 = true ∧ vis k s q = some (d2, s2, q2)) ∨ (ok2 = false ∧ vis k s q = none)) (hk : kidOK i d d2 q.length q2 ks = false) : KRel vis ks ds RK (i + 1) d2 false s2 q2 := by
  rcases h with ⟨-, h⟩ | ⟨h, -⟩
  · obtain ⟨hl, rfl⟩ := List.getElem?_eq_some_iff.1 hi
    rw [List.drop_eq_getElem_cons hl, kidsV] at h
    rcases hP with ⟨rfl, hv⟩ | ⟨rfl, hv⟩
    · rw [hv] at h
      dsimp only at h
      rw [if_neg (by rw [hk]; decide)] at h
      exact .inr ⟨rfl, h.symm⟩
    · rw [hv] at h
      exact .inr ⟨rfl, h.symm⟩
  · cases h
theorem KRel.no (h : KRel vis ks ds RK i d false s q) : RK = none := by
  rcases h with ⟨h, -⟩ | ⟨-, h⟩
  · cases h
  · exact h
theorem KRel.done (h : KRel vis ks ds RK i d true s q) (hi : ds.length ≤ i) : RK = some (d, s, q) := by
  rcases h with ⟨-, h⟩ | ⟨h, -⟩
  · rw [List.drop_of_length_le hi, kidsV] at h
    exact h.symm
  · cases h
theorem kidOK_zero (d d2 b : Nat) (q nk : List ByteArray) : kidOK 0 d d2 b q nk = true := rfl
theorem kidOK_depth {i d d2 b : Nat} {q nk : List ByteArray} (h : d2 ≠ d) : kidOK (i + 1) d d2 b q nk = false := by
  unfold kidOK
  have h1 : (i + 1 == 0) = false := by simp
  have h2 : (d2 == d) = false := by simpa using h
  rw [h1, h2]; rfl
theorem kidOK_end {i d d2 b : Nat} {q nk : List ByteArray} (h : q.length ≤ b) : kidOK (i + 1) d d2 b q nk = false := by
  unfold kidOK
  have h1 : (i + 1 == 0) = false := by simp
  rw [h1, List.getElem?_eq_none h, Bool.false_or, Bool.and_false]
theorem kidOK_key {i d b : Nat} {q nk : List ByteArray} {x y : ByteArray} (hx : q[b]? = some x) (hy : nk[i]? = some y) : kidOK (i + 1) d d b q nk = (x.toList == y.toList) := by
  unfold kidOK
  have h1 : (i + 1 == 0) = false := by simp
  rw [h1, hx, Nat.add_sub_cancel, hy]
  simp
end
end Go.Proofs.Ytnbfjkebakaigaa
