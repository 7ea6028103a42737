/- The walks of NewDisk and of the laws' helpers over a disk whose cache and plan are nothing. -/
import Derived.Test.YtnbfjkebakaigaaDisk
import Derived.Test.YtnbfjkebakaigaaInRange
import Derived.Test.YtnbfjkebakaigaaMarkS
namespace Go.Proofs.Ytnbfjkebakaigaa
open Go.RowKit Go.Deep
set_option linter.unusedVariables false
set_option maxRecDepth 100000
theorem grown_preR {w w1 w2 : World} {row : Option Nat} (e : Ext w w1) (h : w1.grownBy w2 row) : w.grownBy w2 row :=
  ⟨h.os.trans e.os, h.tape.trans e.tape, h.output.trans e.output, Nat.le_trans e.le h.size, fun k hk hne => (h.block k (Nat.lt_of_lt_of_le hk e.le) hne).trans (Below.block e k hk)⟩
theorem own_setR {w : World} {B n b i size : Nat} {e : TypeId} {v u : Value} {xs : List Value} (h : w.ownsRow B e size v n xs) (hb : b < B) : (w.setCell ⟨b, i, none⟩ u).ownsRow B e size v n xs :=
  own_far h (grown_step (World.grownBy.refl w (some b)) (Ext.refl w) b i u) (by intro e; have := own_blk h _ e; omega)
theorem own_made {w : World} {B b n : Nat} {e : TypeId} {cs : List Value} (h : Blk w b e cs) (hb : B ≤ b) (hl : cs.length = n) (hn : n ≤ maxLen) : w.ownsRow B e 1 (.slice (some ⟨b, 0, none⟩) n n) n cs :=
  ⟨by omega, Or.inr ⟨b, n, cs.toArray, rfl, hb, h, Nat.le_refl _, hn, by simp [hl], by simp [← hl]⟩⟩
/-- a new disk with a code -/
def NdPost (w : World) (T : TypeId) (L : List ByteArray) (C : Int) (e : Ending) (w' : World) : Prop :=
  ∃ (v : Value) (Ac Ak : Option Addr), e = .returned (.tuple #[.agg #[v, .slice Ac 0 0, .bool false, .slice Ak 0 0], .int .i64 C]) ∧ w'.ownsRow w.heap.size T 1 v L.length (L.map fun c => Value.string c) ∧ Ext w w'
def ndN (n : Int) : Nat := if inB n 1 100 then n.toNat else 0
def ndL (n : Int) : List ByteArray := List.replicate (ndN n) ByteArray.empty
def ndC (n : Int) : Int := if inB n 1 100 then 0 else 4
theorem ndL_len (n : Int) : (ndL n).length ≤ 100 := by
  unfold ndL ndN
  rw [List.length_replicate]
  split
  · rename_i h
    have := inB_true h
    omega
  · omega
set_option maxHeartbeats 1000000 in
theorem eqDisk_bare (v v' : Value) (Ac Ak Ac' Ak' : Option Addr) (l : List ByteArray) (w : World) (hn : l.length ≤ 1099511627776) (h : StS w v l) (h' : StS w v' l) :
    Calls Try.prog 16 #[.agg #[v, .slice Ac 0 0, .bool false, .slice Ak 0 0], .agg #[v', .slice Ac' 0 0, .bool false, .slice Ak' 0 0]] w fun e w' => e = .returned (.bool true) ∧ Ext w w' := by
  have E0 : Ext w ((w.alloc (.cells #[v, .slice Ac 0 0, .bool false, .slice Ak 0 0] 26)).alloc (.cells #[v', .slice Ac' 0 0, .bool false, .slice Ak' 0 0] 26)) := (by repeat (first | exact Ext.refl _ | assumption | refine Ext.alloc ?_ _ | refine Ext.drewN ?_ _ | refine Ext.drew ?_ | refine Ext.set ?_ (by dsimp only; omega) _ | refine Ext.trans ?_ (by assumption)))
  have HS := Lib.hid (eqStringS_st (h.ext E0) (h'.ext E0) hn)
  have hB2 := Blk.new (w.alloc (.cells #[v, .slice Ac 0 0, .bool false, .slice Ak 0 0] 26)) 26 [v', .slice Ac' 0 0, .bool false, .slice Ak' 0 0]
  rw [show (w.alloc (.cells #[v, .slice Ac 0 0, .bool false, .slice Ak 0 0] 26)).heap.size = w.heap.size + 1 by simp] at hB2
  have HB1 := Lib.hid ((Blk.new w 26 [v, .slice Ac 0 0, .bool false, .slice Ak 0 0]).alloc (.cells #[v', .slice Ac' 0 0, .bool false, .slice Ak' 0 0] 26))
  have HB2 := Lib.hid hB2
  have HE := Lib.hid E0
  clear h h' E0 hB2
  go_enter Try.func16, Try.ntmps16
  go_wp2_with fail
  refine HS.out.mono ?_
  rintro e w1 ⟨rfl, E1⟩
  have HE1 := Lib.hid (HE.out.trans E1)
  obtain ⟨p0, p1, p2, p3⟩ := (HB1.out.ext E1).cells4
  obtain ⟨q0, q1, q2, q3⟩ := (HB2.out.ext E1).cells4
  clear E1 HE
  go_wp2_with fail
  refine (eqPendingS_none Ac Ac' 0 0 w1).mono ?_
  rintro e w2 ⟨rfl, rfl⟩
  go_wp2_with fail
  refine (eqIntS_same Ak Ak' 0 0 0 [] w1 rfl (by omega) (fun h => absurd rfl h) (fun h => absurd rfl h)).mono ?_
  rintro e w2 ⟨rfl, E2, -⟩
  go_wp2_with fail
  go_ret
  exact ⟨rfl, HE1.out.trans E2⟩
set_option maxHeartbeats 1000000 in
theorem markDisk_bare (B : Nat) (v : Value) (Ac Ak : Option Addr) (l : List ByteArray) (w : World) (hn : l.length ≤ 100) (ho : w.ownsRow B 9 1 v l.length (l.map fun c => Value.string c)) :
    Calls Try.prog 17 #[.agg #[v, .slice Ac 0 0, .bool false, .slice Ak 0 0], .int .i64 1] w fun e w' => e = .returned (.int .i64 (1 + l.length)) ∧ w'.ownsRow B 9 1 v l.length ((marks 1 l.length).map fun c => Value.string c) ∧ w.grownBy w' v.ownBlock := by
  have E0 : Ext w (w.alloc (.cells #[v, .slice Ac 0 0, .bool false, .slice Ak 0 0] 26)) := (by repeat (first | exact Ext.refl _ | assumption | refine Ext.alloc ?_ _ | refine Ext.drewN ?_ _ | refine Ext.drew ?_ | refine Ext.set ?_ (by dsimp only; omega) _ | refine Ext.trans ?_ (by assumption)))
  have HM := Lib.hid (markStringS_own B v 1 l _ (by omega) (by omega) (by omega) (own_ext ho E0))
  have HB := Lib.hid (Blk.new w 26 [v, .slice Ac 0 0, .bool false, .slice Ak 0 0])
  have hap := own_apart (own_ext ho E0) HB.out (by decide)
  have HE := Lib.hid E0
  obtain ⟨A, cap, rfl⟩ := own_slice ho
  clear ho E0
  go_enter Try.func17, Try.ntmps17
  go_wp2_with fail
  refine HM.out.mono ?_
  rintro e w1 ⟨rfl, O1, G1⟩
  have HB1 : Blk w1 w.heap.size 26 [.slice A l.length cap, .slice Ac 0 0, .bool false, .slice Ak 0 0] := (G1.block _ HB.out.lt hap).trans HB.out
  obtain ⟨p0, p1, p2, p3⟩ := HB1.cells4
  have HO1 := Lib.hid O1
  have HG1 := Lib.hid (grown_preR HE.out G1)
  clear O1 G1 HB1 HM HB
  go_wp2_with fail
  refine (markPendingS_none Ac 0 _ w1).mono ?_
  rintro e w2 ⟨rfl, rfl⟩
  go_wp2_with fail
  refine (markIntS_none Ak 0 _ w1).mono ?_
  rintro e w2 ⟨rfl, rfl⟩
  go_wp2_with fail
  go_ret
  exact ⟨rfl, HO1.out, HG1.out⟩
set_option maxHeartbeats 1000000 in
theorem heldDisk_bare (A Ac Ak : Option Addr) (n cp : Nat) (w : World) (hn : n ≤ 100) (hr : Rd w A ((marks 1 n).map fun c => Value.string c)) :
    Calls Try.prog 18 #[.agg #[.slice A n cp, .slice Ac 0 0, .bool false, .slice Ak 0 0], .int .i64 1] w fun e w' => e = .returned (.int .i64 (1 + n)) ∧ Ext w w' := by
  have E0 : Ext w (w.alloc (.cells #[.slice A n cp, .slice Ac 0 0, .bool false, .slice Ak 0 0] 26)) := (by repeat (first | exact Ext.refl _ | assumption | refine Ext.alloc ?_ _ | refine Ext.drewN ?_ _ | refine Ext.drew ?_ | refine Ext.set ?_ (by dsimp only; omega) _ | refine Ext.trans ?_ (by assumption)))
  have HM := Lib.hid (heldStringS_any A n cp 1 _ (by omega) (by omega) (by omega) (hr.ext E0))
  have HB := Lib.hid (Blk.new w 26 [.slice A n cp, .slice Ac 0 0, .bool false, .slice Ak 0 0])
  have HE := Lib.hid E0
  have d : decide ((1 : Int) + (n : Int) < 0) = false := decide_eq_false (by omega)
  clear hr E0
  go_enter Try.func18, Try.ntmps18
  go_wp2_with fail
  refine HM.out.mono ?_
  rintro e w1 ⟨rfl, E1⟩
  obtain ⟨p0, p1, p2, p3⟩ := (HB.out.ext E1).cells4
  go_wp2_with fail
  refine (heldPendingS_none Ac 0 _ w1).mono ?_
  rintro e w2 ⟨rfl, rfl⟩
  go_wp2_with fail
  refine (heldIntS_none Ak 0 _ w1).mono ?_
  rintro e w2 ⟨rfl, rfl⟩
  go_wp2_with fail
  go_ret
  exact ⟨rfl, HE.out.trans E1⟩
theorem make_texts (k : Nat) (h : k ≤ 100) (w : World) : (Instr.makeSlice 22 (.int .i64 (k : Int)) (.int .i64 (k : Int))).run Try.prog w = .ok (.slice (some ⟨w.heap.size, 0, none⟩) k k) (w.alloc (.cells (madeCells #[.string ByteArray.empty] k) 9)) :=
  run_make_row' (P := Try.prog) 22 9 (.string ByteArray.empty) 16 Try.underlying22 info_StringS rfl .i64 .i64 k (by omega) (by omega) w
set_option maxHeartbeats 1000000 in
theorem impl_NewDisk (n : Int) (w : World) : Calls Try.prog 15 #[.int .i64 n] w (NdPost w 9 (ndL n) (ndC n)) := by
  have HIn := Lib.hid (fun W => impl_inRange n 1 100 W)
  rcases hb : inB n 1 100 with _ | _
  · have hL : ndL n = [] := by unfold ndL ndN; rw [hb]; rfl
    have hC : ndC n = 4 := by unfold ndC; rw [hb]; rfl
    rw [hb] at HIn
    rw [hL, hC]
    clear hb hL hC
    go_enter Try.func15, Try.ntmps15
    go_wp2_with fail
    refine (HIn.out _).mono ?_
    rintro e w1 ⟨rfl, rfl⟩
    go_wp2_with fail
    refine bodyPost_ret (v := .tuple #[.agg #[.slice none 0 0, .slice none 0 0, .bool false, .slice none 0 0], .int .i64 4]) (by simp [results, Try.results15, go_sem]; try rfl) rfl ?_
    exact ⟨.slice none 0 0, none, none, rfl, World.ownsRow_nil _ _ _ _, (by repeat (first | exact Ext.refl _ | assumption | refine Ext.alloc ?_ _ | refine Ext.drewN ?_ _ | refine Ext.drew ?_ | refine Ext.set ?_ (by dsimp only; omega) _ | refine Ext.trans ?_ (by assumption)))⟩
  · have hlo := inB_true hb
    obtain ⟨k, rfl⟩ : ∃ k : Nat, n = (k : Int) := ⟨n.toNat, by omega⟩
    have hL : ndL (k : Int) = List.replicate k ByteArray.empty := by unfold ndL ndN; rw [hb]; rfl
    have hC : ndC (k : Int) = 0 := by unfold ndC; rw [hb]; rfl
    rw [hb] at HIn
    rw [hL, hC]
    have hmk := make_texts k (by omega)
    have hk : k ≤ 100 := by omega
    clear hb hL hC hlo
    go_enter Try.func15, Try.ntmps15
    go_wp2_with fail
    refine (HIn.out _).mono ?_
    rintro e w1 ⟨rfl, rfl⟩
    go_wp2_with fail
    refine bodyPost_ret (v := .tuple #[.agg #[.slice (some ⟨w.heap.size + 1, 0, none⟩) k k, .slice none 0 0, .bool false, .slice none 0 0], .int .i64 0]) (by simp [results, Try.results15, go_sem]; try rfl) rfl ?_
    have h := Blk.made (w.alloc (.cells #[.slice (some ⟨w.heap.size + 1, 0, none⟩) k k, .slice none 0 0, .bool false, .slice none 0 0] 26)) 9 (.string ByteArray.empty) k
    rw [show (w.alloc (.cells #[.slice (some ⟨w.heap.size + 1, 0, none⟩) k k, .slice none 0 0, .bool false, .slice none 0 0] 26)).heap.size = w.heap.size + 1 by simp] at h
    have ho := own_made (B := w.heap.size) h (by omega) (by simp) (by unfold maxLen; omega : k ≤ maxLen)
    refine ⟨_, none, none, rfl, ?_, (by repeat (first | exact Ext.refl _ | assumption | refine Ext.alloc ?_ _ | refine Ext.drewN ?_ _ | refine Ext.drew ?_ | refine Ext.set ?_ (by dsimp only; omega) _ | refine Ext.trans ?_ (by assumption)))⟩
    rw [List.length_replicate, List.map_replicate]
    exact ho
/-- a disk, no code -/
def DkPost (w : World) (T : TypeId) (L : List ByteArray) (e : Ending) (w' : World) : Prop :=
  ∃ (v : Value) (Ac Ak : Option Addr), e = .returned (.agg #[v, .slice Ac 0 0, .bool false, .slice Ak 0 0]) ∧ w'.ownsRow w.heap.size T 1 v L.length (L.map fun c => Value.string c) ∧ Ext w w'
theorem spec_l02New (k : Nat) (hk : k ≤ 100) (w : World) : Calls Try.prog 65 #[.int .i64 (k : Int)] w (DkPost w 9 (List.replicate k ByteArray.empty)) := by
  have hmk := make_texts k (by omega)
  go_enter Try.func65, Try.ntmps65
  go_wp2_with fail
  refine bodyPost_ret (v := .agg #[.slice (some ⟨w.heap.size + 1, 0, none⟩) k k, .slice (some ⟨w.heap.size + 1 + 1, 0, none⟩) 0 0, .bool false, .slice (some ⟨w.heap.size + 1 + 1 + 1, 0, none⟩) 0 0]) (by simp [results, Try.results65, go_sem]; try rfl) rfl ?_
  have h := Blk.made (w.alloc (.cells #[.slice (some ⟨w.heap.size + 1, 0, none⟩) k k, .slice (some ⟨w.heap.size + 1 + 1, 0, none⟩) 0 0, .bool false, .slice (some ⟨w.heap.size + 1 + 1 + 1, 0, none⟩) 0 0] 26)) 9 (.string ByteArray.empty) k
  rw [show (w.alloc (.cells #[.slice (some ⟨w.heap.size + 1, 0, none⟩) k k, .slice (some ⟨w.heap.size + 1 + 1, 0, none⟩) 0 0, .bool false, .slice (some ⟨w.heap.size + 1 + 1 + 1, 0, none⟩) 0 0] 26)).heap.size = w.heap.size + 1 by simp] at h
  refine ⟨_, _, _, rfl, ?_, (by repeat (first | exact Ext.refl _ | assumption | refine Ext.alloc ?_ _ | refine Ext.drewN ?_ _ | refine Ext.drew ?_ | refine Ext.set ?_ (by dsimp only; omega) _ | refine Ext.trans ?_ (by assumption)))⟩
  rw [List.length_replicate, List.map_replicate]
  exact own_made (B := w.heap.size) ((h.alloc _).alloc _) (by omega) (by simp) (by unfold maxLen; omega : k ≤ maxLen)
set_option maxHeartbeats 1000000 in
theorem spec_NewDisk (n : Int) (w : World) : Calls Try.prog 14 #[.int .i64 n] w (NdPost w 9 (ndL n) (ndC n)) := by
  have HIn := Lib.hid (fun W => spec_l01In n 1 100 W)
  rcases hb : inB n 1 100 with _ | _
  · have hL : ndL n = [] := by unfold ndL ndN; rw [hb]; rfl
    have hC : ndC n = 4 := by unfold ndC; rw [hb]; rfl
    rw [hb] at HIn
    rw [hL, hC]
    clear hb hL hC
    go_enter Try.func14, Try.ntmps14
    go_wp2_with fail
    refine (HIn.out _).mono ?_
    rintro e w1 ⟨rfl, rfl⟩
    go_wp2_with fail
    refine bodyPost_ret (v := .tuple #[.agg #[.slice none 0 0, .slice none 0 0, .bool false, .slice none 0 0], .int .i64 4]) (by simp [results, Try.results14, go_sem]; try rfl) rfl ?_
    exact ⟨.slice none 0 0, none, none, rfl, World.ownsRow_nil _ _ _ _, (by repeat (first | exact Ext.refl _ | assumption | refine Ext.alloc ?_ _ | refine Ext.drewN ?_ _ | refine Ext.drew ?_ | refine Ext.set ?_ (by dsimp only; omega) _ | refine Ext.trans ?_ (by assumption)))⟩
  · have hlo := inB_true hb
    obtain ⟨k, rfl⟩ : ∃ k : Nat, n = (k : Int) := ⟨n.toNat, by omega⟩
    have hL : ndL (k : Int) = List.replicate k ByteArray.empty := by unfold ndL ndN; rw [hb]; rfl
    have hC : ndC (k : Int) = 0 := by unfold ndC; rw [hb]; rfl
    rw [hb] at HIn
    rw [hL, hC]
    have HD := Lib.hid (fun W => spec_l02New k (by omega) W)
    have E0 : Ext w (w.alloc (.cells #[.slice none 0 0, .slice none 0 0, .bool false, .slice none 0 0] 26)) := (by repeat (first | exact Ext.refl _ | assumption | refine Ext.alloc ?_ _ | refine Ext.drewN ?_ _ | refine Ext.drew ?_ | refine Ext.set ?_ (by dsimp only; omega) _ | refine Ext.trans ?_ (by assumption)))
    have HE := Lib.hid E0
    have HX := Lib.hid (Blk.new w 26 [.slice none 0 0, .slice none 0 0, .bool false, .slice none 0 0])
    generalize List.replicate k ByteArray.empty = L at HD
    clear hb hL hC hlo E0
    go_enter Try.func14, Try.ntmps14
    go_wp2_with fail
    refine (HIn.out _).mono ?_
    rintro e w1 ⟨rfl, rfl⟩
    go_wp2_with fail
    refine (HD.out _).mono ?_
    rintro e w2 ⟨v, Ac, Ak, rfl, O2, E2⟩
    obtain ⟨Av, cv, rfl⟩ := own_slice O2
    obtain ⟨c0, c1, c2, c3⟩ := (HX.out.ext E2).cells4
    have f0 := (HX.out.ext E2).frozen 0
    have f1 := (HX.out.ext E2).frozen 1
    have f2 := (HX.out.ext E2).frozen 2
    have f3 := (HX.out.ext E2).frozen 3
    have HO2 := Lib.hid O2
    have HE2 := Lib.hid (HE.out.trans E2)
    have hle : w.heap.size < (w.alloc (.cells #[.slice none 0 0, .slice none 0 0, .bool false, .slice none 0 0] 26)).heap.size := by simp
    have HLE := Lib.hid hle
    clear O2 E2 HX HE hle
    go_wp2_with fail
    refine bodyPost_ret (v := .tuple #[.agg #[.slice Av L.length cv, .slice Ac 0 0, .bool false, .slice Ak 0 0], .int .i64 0]) (by simp [results, Try.results14, go_sem, c0, c1, c2, c3]; try rfl) rfl ?_
    refine ⟨_, Ac, Ak, rfl, own_base (own_setR (own_setR (own_setR (own_setR HO2.out HLE.out) HLE.out) HLE.out) HLE.out) (by have := HLE.out; omega), (((HE2.out.set (Nat.le_refl _) _).set (Nat.le_refl _) _).set (Nat.le_refl _) _).set (Nat.le_refl _) _⟩
end Go.Proofs.Ytnbfjkebakaigaa
