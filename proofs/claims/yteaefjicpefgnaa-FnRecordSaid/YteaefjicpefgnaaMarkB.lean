/- The walks of the laws' marking helpers over bytes. -/
import Derived.Test.YteaefjicpefgnaaCodec
namespace Go.Proofs.Yteaefjicpefgnaa
open Go.RowKit Go.Deep
set_option linter.unusedVariables false
set_option maxRecDepth 100000
/-- the marks of bytes from k on -/
def bmarks (k : Int) (n : Nat) : List Value := (List.range n).map fun (i : Nat) => Value.int .u8 ((k + (i : Int)) % 256)
theorem bmarks_len (k : Int) (n : Nat) : (bmarks k n).length = n := by simp [bmarks]
theorem bmarks_at (k : Int) (n j : Nat) (h : j < n) : (bmarks k n)[j]? = some (Value.int .u8 ((k + (j : Int)) % 256)) := by simp [bmarks, h]
theorem bmarks_step (k : Int) (cs : List Value) (j : Nat) (hj : j < cs.length) :
    (bmarks k j ++ cs.drop j).set j (Value.int .u8 ((k + (j : Int)) % 256)) = bmarks k (j + 1) ++ cs.drop (j + 1) := by
  have e : cs.drop j = cs[j] :: cs.drop (j + 1) := List.drop_eq_getElem_cons hj
  have e2 : bmarks k (j + 1) = bmarks k j ++ [Value.int .u8 ((k + (j : Int)) % 256)] := by unfold bmarks; rw [List.range_succ, List.map_append]; rfl
  rw [e, List.set_append, if_neg (by rw [bmarks_len]; omega), bmarks_len, Nat.sub_self, List.set_cons_zero, e2, List.append_assoc]
  rfl
set_option maxHeartbeats 400000 in
/-- []uint8: every byte turned into its mark -/
theorem markByteS_blk (b n cp : Nat) (k : Int) (cs : List Value) (w : World) (hn : n ≤ 1099511627776) (h1 : 1 ≤ k) (h2 : k ≤ 1099511627776) (hl : n ≤ cs.length) (hB : Blk w b 5 cs) :
    Calls Try.prog 18 #[.slice (some ⟨b, 0, none⟩) n cp, .int .i64 k] w fun e w' => e = .returned (.int .i64 (k + n)) ∧ Blk w' b 5 (bmarks k n ++ cs.drop n) ∧ w.grownBy w' (some b) := by
  have HL := Lib.hid hl
  clear hl
  go_enter Try.func18, Try.ntmps18
  go_wp2
  go_loopw [5, 1] (fun i t wr => ∃ j : Nat, j ≤ n ∧ i = .int .i64 j ∧ t = .int .i64 (k + j) ∧ Blk wr b 5 (bmarks k j ++ cs.drop j) ∧ w.grownBy wr (some b)) (fun i _ _ => n - (intOf i).toNat)
  case atStart => exact ⟨0, Nat.zero_le _, rfl, by simp, by simpa [bmarks] using hB, World.grownBy.refl _ _⟩
  case round =>
    obtain ⟨j, hj, rfl, rfl, hBr, hG⟩ := hrel
    have HB := Lib.hid hBr
    have HG := Lib.hid hG
    clear hBr hG
    by_cases hlt : j < n
    · have hjl : j < cs.length := by have := HL.out; omega
      have hjc : j < (bmarks k j ++ cs.drop j).length := by rw [List.length_append, bmarks_len, List.length_drop]; omega
      obtain ⟨u, hc⟩ : ∃ u, wr.cell? ⟨b, j, none⟩ = some u := ⟨_, HB.out.cell hjc⟩
      have hf := HB.out.frozen j
      have hlt2 : (j : Int) < (n : Int) := by omega
      go_wp2_with fail
      go_roundw
      case rel => exact ⟨j + 1, by omega, by go_num, by go_num, (HB.out.set j _).of_eq (bmarks_step k cs j hjl), grown_step HG.out (Ext.refl _) b j _⟩
      case measure => simp [intOf]; omega
    · have hj4 : j = n := by omega
      subst hj4
      go_wp2_with fail
      go_ret
      exact ⟨rfl, HB.out, HG.out⟩
theorem markByteS_none (A : Option Addr) (cp : Nat) (k : Int) (w : World) :
    Calls Try.prog 18 #[.slice A 0 cp, .int .i64 k] w fun e w' => e = .returned (.int .i64 k) ∧ w = w' := by
  go_enter Try.func18, Try.ntmps18
  go_wp2
  go_loopw [5, 1] (fun i t wr => i = .int .i64 0 ∧ t = .int .i64 k ∧ wr = w) (fun i _ _ => 0)
  case atStart => exact ⟨rfl, rfl, rfl⟩
  case round =>
    obtain ⟨rfl, rfl, rfl⟩ := hrel
    go_wp2_with fail
    go_ret
    exact ⟨rfl, rfl⟩
/-- the same, over what a call owns -/
theorem markByteS_any (B n : Nat) (v : Value) (k : Int) (xs : List Value) (w : World) (hn : n ≤ 1099511627776) (h1 : 1 ≤ k) (h2 : k ≤ 1099511627776) (ho : w.ownsRow B 5 1 v n xs) :
    Calls Try.prog 18 #[v, .int .i64 k] w fun e w' => e = .returned (.int .i64 (k + n)) ∧ w'.ownsRow B 5 1 v n (bmarks k n) ∧ w.grownBy w' v.ownBlock := by
  by_cases h0 : n = 0
  · subst h0
    have hxs : xs = [] := by have := ho.1; simpa using this
    subst hxs
    obtain ⟨A, cap, rfl, _⟩ := own_rd ho
    refine (markByteS_none A cap k w).mono ?_
    rintro e w' ⟨rfl, rfl⟩
    exact ⟨by simp, by simpa [bmarks] using ho, World.grownBy.refl _ _⟩
  · obtain ⟨g, cap, cs, rfl, hg, hc1, hc2, hB, hl, ht⟩ := own_form ho (by omega)
    rw [Nat.mul_one] at hl ht
    refine (markByteS_blk g n cap k cs w hn h1 h2 (by omega) hB).mono ?_
    rintro e w' ⟨rfl, hB', hG⟩
    refine ⟨rfl, ⟨by rw [bmarks_len]; omega, Or.inr ⟨g, cap, (bmarks k n ++ cs.drop n).toArray, rfl, hg, hB', hc1, hc2, ?_, ?_⟩⟩, hG⟩
    · simp [bmarks_len]; omega
    · simp [bmarks_len]
set_option maxHeartbeats 400000 in
/-- []uint8: the marks are held -/
theorem heldByteS_any (A : Option Addr) (n cp : Nat) (k : Int) (w : World) (hn : n ≤ 1099511627776) (h1 : 1 ≤ k) (h2 : k ≤ 1099511627776) (hr : Rd w A (bmarks k n)) :
    Calls Try.prog 19 #[.slice A n cp, .int .i64 k] w fun e w' => e = .returned (.int .i64 (k + n)) ∧ w = w' := by
  go_enter Try.func19, Try.ntmps19
  go_wp2
  go_loop [5, 1] (fun i t => ∃ j : Nat, j ≤ n ∧ i = .int .i64 j ∧ t = .int .i64 (k + j)) (fun i _ => n - (intOf i).toNat)
  case atStart => exact ⟨0, Nat.zero_le _, rfl, by simp⟩
  case round =>
    obtain ⟨j, hj, rfl, rfl⟩ := hrel
    by_cases hlt : j < n
    · obtain ⟨b, o, rfl, hc⟩ := hr.at_ (k := j) (by rw [bmarks_len]; exact hlt)
      have hc2 : (bmarks k n)[j]'(by rw [bmarks_len]; exact hlt) = Value.int .u8 ((k + (j : Int)) % 256) := by
        have := bmarks_at k n j hlt
        rw [List.getElem?_eq_getElem (by rw [bmarks_len]; exact hlt)] at this
        exact Option.some.inj this
      rw [hc2] at hc
      have hlt2 : (j : Int) < (n : Int) := by omega
      go_wp2_with fail
      go_round
      case rel => exact ⟨j + 1, by omega, by go_num, by go_num⟩
      case measure => simp [intOf]; omega
    · have hj4 : j = n := by omega
      subst hj4
      go_wp2_with fail
      go_ret
      exact ⟨rfl, rfl⟩
theorem eqByteS_sl {w : World} {v v' : Value} {l : List UInt8} (h : Sl w v l) (h' : Sl w v' l) (hn : l.length ≤ 1099511627776) :
    Calls Try.prog 17 #[v, v'] w fun e w' => e = .returned (.bool true) ∧ Ext w w' ∧ w'.heap = w.heap := by
  obtain ⟨A, cap, rfl, hr⟩ := h
  obtain ⟨A', cap', rfl, hr'⟩ := h'
  exact eqByteS_same A A' l.length cap cap' l w rfl hn hr hr'
theorem own_rd' {w : World} {B n m : Nat} {e : TypeId} {A : Option Addr} {cap : Nat} {xs : List Value} (h : w.ownsRow B e 1 (.slice A m cap) n xs) : m = n ∧ Rd w A xs := by
  obtain ⟨A', cap', e, hr, _⟩ := own_rd h
  injection e with e1 e2 e3
  subst e1
  exact ⟨e2, hr⟩
theorem own_slice {w : World} {B n : Nat} {e : TypeId} {v : Value} {xs : List Value} (h : w.ownsRow B e 1 v n xs) : ∃ A cap, v = .slice A n cap := by
  obtain ⟨A, cap, e, _⟩ := own_rd h
  exact ⟨A, cap, e⟩
theorem own_apart {w : World} {B n b size : Nat} {e e' : TypeId} {v : Value} {xs : List Value} {c : Array Value} {fz : Nat × Nat} (h : w.ownsRow B e size v n xs) (hb : w.heap[b]? = some (.cells c e' fz)) (hne : e ≠ e') : some b ≠ v.ownBlock := by
  obtain ⟨_, h⟩ := h
  rcases h with ⟨rfl, _⟩ | ⟨g, cap, cur, rfl, _, hh, _⟩
  · intro h; cases h
  · intro h
    have h : b = g := by injection h
    subst h
    rw [hb] at hh
    injection hh with hh
    injection hh with _ hh _
    exact hne hh.symm
theorem own_base {w : World} {B B' n size : Nat} {e : TypeId} {v : Value} {xs : List Value} (h : w.ownsRow B' e size v n xs) (hb : B ≤ B') : w.ownsRow B e size v n xs := by
  obtain ⟨h1, h2⟩ := h
  refine ⟨h1, ?_⟩
  rcases h2 with h2 | ⟨g, cap, cur, hv, hg, r⟩
  · exact Or.inl h2
  · exact Or.inr ⟨g, cap, cur, hv, by omega, r⟩
theorem own_far {w w' : World} {B n b size : Nat} {e : TypeId} {v : Value} {xs : List Value} (h : w.ownsRow B e size v n xs) (hg : w.grownBy w' (some b)) (hne : v.ownBlock ≠ some b) : w'.ownsRow B e size v n xs := by
  obtain ⟨h1, h2⟩ := h
  refine ⟨h1, ?_⟩
  rcases h2 with h2 | ⟨g, cap, cur, rfl, hb, hh, r⟩
  · exact Or.inl h2
  · refine Or.inr ⟨g, cap, cur, rfl, hb, ?_, r⟩
    have hlt : g < w.heap.size := by
      rcases Nat.lt_or_ge g w.heap.size with hlt | hge
      · exact hlt
      · rw [Array.getElem?_eq_none hge] at hh; cases hh
    exact (hg.block g hlt (by intro e; exact hne e)).trans hh
end Go.Proofs.Yteaefjicpefgnaa
