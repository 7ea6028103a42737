/- A slice that begins within its block: what it is to be read and appended to. No program in sight. -/
import Derived.Test.YtnbfjkebakaigaaMem
import Derived.Laws.AppendOwn
namespace Go.Proofs.Ytnbfjkebakaigaa
open Go.RowKit
set_option linter.unusedVariables false
set_option maxRecDepth 100000
/-- the value v, of n elements of one cell each, within block g, in memory from base on, holds xs -/
def QB (w : World) (base : Nat) (e : TypeId) (g : Nat) (v : Value) (n : Nat) (xs : List Value) : Prop :=
  xs.length = n ∧ base ≤ g ∧ ∃ o cap cur, v = .slice (some ⟨g, o, none⟩) n cap ∧ w.heap[g]? = some (.cells cur e (0, 0)) ∧ n ≤ cap ∧ cap ≤ maxLen ∧ o + cap ≤ cur.size ∧ (cur.toList.drop o).take n = xs
theorem QB.of_lit {w : World} {base n : Nat} {e : TypeId} (cs : Array Value) (hb : base ≤ w.heap.size) (hn : cs.size = n) (hm : n ≤ maxLen) : QB (w.alloc (.cells cs e)) base e w.heap.size (.slice (some ⟨w.heap.size, 0, none⟩) n n) n cs.toList :=
  ⟨by simpa using hn, hb, 0, n, cs, rfl, heap_alloc_new w _, Nat.le_refl _, hm, by omega, by rw [List.drop_zero, List.take_of_length_le (by rw [Array.length_toList, hn]; exact Nat.le_refl _)]⟩
theorem QB.lt {w : World} {base g n : Nat} {e : TypeId} {v : Value} {xs : List Value} (h : QB w base e g v n xs) : g < w.heap.size := by
  obtain ⟨_, _, o, cap, cur, hv, hg, _⟩ := h
  exact (Array.getElem?_eq_some_iff.1 hg).1
theorem QB.le {w : World} {base g n : Nat} {e : TypeId} {v : Value} {xs : List Value} (h : QB w base e g v n xs) : base ≤ g := h.2.1
theorem QB.slice {w : World} {base g n : Nat} {e : TypeId} {v : Value} {xs : List Value} (h : QB w base e g v n xs) : ∃ o cap, v = .slice (some ⟨g, o, none⟩) n cap ∧ n ≤ cap ∧ cap ≤ maxLen := by
  obtain ⟨_, _, o, cap, cur, hv, hg, hnc, hm, _⟩ := h
  exact ⟨o, cap, hv, hnc, hm⟩
theorem QB.kept {w w' : World} {base g n : Nat} {e : TypeId} {v : Value} {xs : List Value} {row : Option Nat} (h : QB w base e g v n xs) (hg : w.grownBy w' row) (hne : some g ≠ row) : QB w' base e g v n xs := by
  obtain ⟨h1, hb, o, cap, cur, hv, hgg, rest⟩ := h
  exact ⟨h1, hb, o, cap, cur, hv, (hg.block g (Array.getElem?_eq_some_iff.1 hgg).1 hne).trans hgg, rest⟩
theorem QB.ext {w w' : World} {base g n : Nat} {e : TypeId} {v : Value} {xs : List Value} (h : QB w base e g v n xs) (E : Ext w w') : QB w' base e g v n xs := by
  obtain ⟨h1, hb, o, cap, cur, hv, hgg, rest⟩ := h
  exact ⟨h1, hb, o, cap, cur, hv, (Below.block E g (Array.getElem?_eq_some_iff.1 hgg).1).trans hgg, rest⟩
theorem QB.cell {w : World} {base g n o cap : Nat} {e : TypeId} {xs : List Value} (h : QB w base e g (.slice (some ⟨g, o, none⟩) n cap) n xs) {k : Nat} (hk : k < xs.length) : w.cell? ⟨g, o + k, none⟩ = some xs[k] := by
  obtain ⟨h1, hb, o', cap', cur, hv, hgg, hnc, hcm, hcs, ht⟩ := h
  injection hv with hv _ _
  injection hv with hv
  injection hv with e1 e2 _
  subst e2
  rw [cell_of_row w g (o + k) cur e (0, 0) hgg]
  have hx : xs[k]? = some xs[k] := List.getElem?_eq_getElem hk
  rw [← hx, ← ht, List.getElem?_take, if_pos (by omega), List.getElem?_drop]
  simp
theorem QB.rd {w : World} {base g n o cap : Nat} {e : TypeId} {xs : List Value} (h : QB w base e g (.slice (some ⟨g, o, none⟩) n cap) n xs) : Rd w (some ⟨g, o, none⟩) xs := fun _ => ⟨g, o, rfl, fun j u hu => by
  obtain ⟨hj, rfl⟩ := List.getElem?_eq_some_iff.1 hu
  exact h.cell hj⟩
theorem QB.tail0 {w : World} {base g n o : Nat} {e : TypeId} {x : Value} {xs : List Value} (h : QB w base e g (.slice (some ⟨g, o, none⟩) (n + 1) 1) (n + 1) (x :: xs)) : QB w base e g (.slice (some ⟨g, o, none⟩) n 0) n xs := by
  obtain ⟨h1, hb, o', cap', cur, hv, hgg, hnc, hcm, hcs, ht⟩ := h
  injection hv with hv _ hv3
  injection hv with hv
  injection hv with e1 e2 _
  subst e2; subst hv3
  have hn : n = 0 := by omega
  subst hn
  have hx : xs = [] := List.eq_nil_of_length_eq_zero (by simpa using h1)
  subst hx
  exact ⟨rfl, hb, o, 0, cur, rfl, hgg, Nat.le_refl _, Nat.zero_le _, by omega, by simp⟩
/-- its first element taken off -/
theorem QB.tail {w : World} {base g n o cap : Nat} {e : TypeId} {x : Value} {xs : List Value} (h : QB w base e g (.slice (some ⟨g, o, none⟩) (n + 1) cap) (n + 1) (x :: xs)) : QB w base e g (.slice (some ⟨g, o + 1, none⟩) n (cap - 1)) n xs := by
  obtain ⟨h1, hb, o', cap', cur, hv, hgg, hnc, hcm, hcs, ht⟩ := h
  injection hv with hv _ hv3
  injection hv with hv
  injection hv with e1 e2 _
  subst e2; subst hv3
  refine ⟨by simpa using h1, hb, o + 1, cap - 1, cur, rfl, hgg, by omega, by omega, by omega, ?_⟩
  have : ((cur.toList.drop o).take (n + 1)).drop 1 = xs := by rw [ht]; rfl
  rw [← this, List.drop_take, List.drop_drop, Nat.add_sub_cancel]
section
variable {P : Program} (w : World)
theorem run_append_roomQ (t ty e : TypeId) (i : TypeInfo) (ht : P.underlying t = some (.slice e)) (hi : P.info? e = some i) (hs : i.size = 1)
    (g o sLen sCap : Nat) (cur : Array Value) (hg : w.heap[g]? = some (.cells cur e (0, 0)))
    (a : Addr) (m c : Nat) (news : List Value) (hl : news.length = m) (hnews : ∀ j u, news[j]? = some u → w.cell? (a.add j) = some u) (h1 : ∀ u ∈ news, u.oneCell' = true)
    (hroom : sLen + m ≤ sCap) (hfit : o + sLen + news.length ≤ cur.size) :
    (Builtin.append_ #[t, t] ty #[.slice (some ⟨g, o, none⟩) sLen sCap, .slice (some a) m c]).run P w =
      .ok (.slice (some ⟨g, o, none⟩) (sLen + m) sCap) (w.setRow g (cur.toList.take (o + sLen) ++ news ++ cur.toList.drop (o + sLen + news.length)).toArray) := by
  have hf := run_firstCells_some (P := P) w i.size m a m c news (by rw [hs]; omega) hnews
  have hst := run_storeCells_at P g (o + sLen) e news 0 cur w hg (by simpa using hfit) h1
  simp only [Nat.add_zero] at hst
  rw [hs] at hf
  have hadd : (⟨g, o, none⟩ : Addr).add sLen = ⟨g, o + sLen, none⟩ := by unfold Addr.add; split <;> simp_all
  simp [Builtin.append_, run_underlying ht, sizeOf, typeInfo, hi, Builtin.lenOf, hroom, hf, hs, hadd, hst]
theorem run_append_q (base : Nat) (t ty e : TypeId) (i : TypeInfo) (z : Value) (bytes : Nat) (ht : P.underlying t = some (.slice e)) (hi : P.info? e = some i) (hz : i.zero = some z)
    (hsize : i.size = 1) (hby : i.bytes = bytes) (hzs : z.cells.size = 1)
    (gb : Nat) (v : Value) (n : Nat) (xs : List Value) (hown : QB w base e gb v n xs)
    (a : Addr) (m c : Nat) (news : List Value) (hl : news.length = m) (hnews : ∀ j u, news[j]? = some u → w.cell? (a.add j) = some u) (h1 : ∀ u ∈ news, u.oneCell' = true)
    (h63 : n + m ≤ maxLen) (hbytes : (n + m) * bytes ≤ 140737488355328) (hbase : base ≤ w.heap.size) :
    ∃ v' w', (Builtin.append_ #[t, t] ty #[v, .slice (some a) m c]).run P w = .ok v' w' ∧ (∃ g', (g' = gb ∨ g' = w.heap.size) ∧ QB w' base e g' v' (n + m) (xs ++ news)) ∧ w.grownBy w' (some gb) := by
  subst hby
  have hlen : (xs ++ news).length = n + m := by rw [List.length_append, hown.1, hl]
  obtain ⟨hx, hbg, o, cap, cur, rfl, hg, hnc, hcm, hcs, htake⟩ := hown
  by_cases hroom : n + m ≤ cap
  · have hfit : o + n + news.length ≤ cur.size := by omega
    have hr := run_append_roomQ (P := P) w t ty e i ht hi hsize gb o n cap cur hg a m c news hl hnews h1 hroom hfit
    refine ⟨_, _, hr, ⟨gb, .inl rfl, hlen, hbg, o, cap, _, rfl, setRow_heap w gb cur _ e _ hg, hroom, hcm, ?_, ?_⟩, ⟨rfl, rfl, rfl, by simp, fun k _ hk => setRow_other w gb k _ (fun e => hk (by rw [e]))⟩⟩
    · simp only [List.size_toArray, List.length_append, List.length_take, List.length_drop, Array.length_toList]
      omega
    · have e1 : (cur.toList.take (o + n) ++ news ++ cur.toList.drop (o + n + news.length)).drop o = xs ++ news ++ cur.toList.drop (o + n + news.length) := by
        rw [List.append_assoc, List.drop_append_of_le_length (by rw [List.length_take, Array.length_toList]; omega), List.drop_take, Nat.add_sub_cancel_left, htake, List.append_assoc]
      rw [e1, ← hlen]
      exact List.take_left
  · have holds : ∀ j u, xs[j]? = some u → w.cell? ((⟨gb, o, none⟩ : Addr).add j) = some u := by
      intro j u hu
      have hadd : (⟨gb, o, none⟩ : Addr).add j = ⟨gb, o + j, none⟩ := by unfold Addr.add; split <;> simp_all
      rw [hadd, cell_of_row w gb (o + j) cur e (0, 0) hg]
      have hj : j < n := by rw [← hx]; exact (List.getElem?_eq_some_iff.1 hu).1
      rw [← htake, List.getElem?_take, if_pos hj, List.getElem?_drop] at hu
      simpa using hu
    have hr := run_append_grow (P := P) w t ty e i z ht hi hz ⟨gb, o, none⟩ n cap xs (by rw [hsize]; omega) holds a m c news (by rw [hsize]; omega) hnews (by omega) (by simp only [maxLen] at h63; omega) (growslice_fits (by omega) hbytes)
    have hge := grownCap_ge w (n + m) cap e
    have hcm2 : grownCap w (n + m) cap e ≤ maxLen := grownCap_le_maxLen w (n + m) cap e h63
    refine ⟨_, _, hr, ⟨w.heap.size, .inr rfl, hlen, hbase, 0, _, _, rfl, heap_alloc_new w.drew _, hge, hcm2, ?_, ?_⟩, ⟨rfl, rfl, rfl, by simp, fun k hk _ => heap_alloc_old w.drew _ hk⟩⟩
    · simp only [Array.size_append, List.size_toArray, size_zeroCells, hzs, hx, hl]
      omega
    · rw [List.drop_zero]
      simp only [Array.toList_append, List.append_assoc]
      rw [← List.append_assoc, ← hlen]
      exact List.take_left
theorem wp_append_q {o : Oper} {a : Act} {K : Act → World → Prop} {Q : Exit → Act → World → Prop} (s x : Operand) (t : TypeId)
    (ho : o.op = .call { callee := .builtin .append, args := #[s, x], argTypes := #[t, t] })
    (base : Nat) (e : TypeId) (i : TypeInfo) (z : Value) (bytes : Nat) (ht : P.underlying t = some (.slice e)) (hi : P.info? e = some i) (hz : i.zero = some z)
    (hsize : i.size = 1) (hby : i.bytes = bytes) (hzs : z.cells.size = 1)
    (gb : Nat) (v : Value) (n : Nat) (xs : List Value) (hs : a.eval s = v) (hown : QB w base e gb v n xs)
    (ad : Addr) (m c : Nat) (news : List Value) (hx : a.eval x = .slice (some ad) m c) (hl : news.length = m) (hnews : ∀ j u, news[j]? = some u → w.cell? (ad.add j) = some u) (h1 : ∀ u ∈ news, u.oneCell' = true)
    (h63 : n + m ≤ maxLen) (hbytes : (n + m) * bytes ≤ 140737488355328) (hbase : base ≤ w.heap.size)
    (h : ∀ v' w' g', g' = gb ∨ g' = w.heap.size → QB w' base e g' v' (n + m) (xs ++ news) → w.grownBy w' (some gb) → K (a.put o.dst v') w') : o.wp P a w K Q := by
  obtain ⟨v', w', hr, ⟨g', hg', h2⟩, h3⟩ := run_append_q (P := P) w base t o.type e i z bytes ht hi hz hsize hby hzs gb v n xs hown ad m c news hl hnews h1 h63 hbytes hbase
  unfold Oper.wp execOp
  simp only [ho, resolve, invoke, builtin, Sem.run_bind, Sem.run_pure, Result.andThen_ok, List.map_toArray, List.map_cons, List.map_nil, hs, hx, hr]
  exact h v' w' g' hg' h2 h3
end
end Go.Proofs.Ytnbfjkebakaigaa
