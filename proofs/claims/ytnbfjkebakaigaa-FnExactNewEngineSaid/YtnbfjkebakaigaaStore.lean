/- The walks over a new store (printed by gen_store.py). -/
import Derived.Test.YtnbfjkebakaigaaDisk2
import Derived.Test.YtnbfjkebakaigaaHeader
namespace Go.Proofs.Ytnbfjkebakaigaa
open Go.RowKit Go.Deep
set_option linter.unusedVariables false
set_option maxRecDepth 100000
theorem Blk.cells9 {w : World} {b : Nat} {t : TypeId} {a0 a1 a2 a3 a4 a5 a6 a7 a8 : Value} (h : Blk w b t [a0, a1, a2, a3, a4, a5, a6, a7, a8]) : w.cell? ⟨b, 0, none⟩ = some a0 ∧ w.cell? ⟨b, 1, none⟩ = some a1 ∧ w.cell? ⟨b, 2, none⟩ = some a2 ∧ w.cell? ⟨b, 3, none⟩ = some a3 ∧ w.cell? ⟨b, 4, none⟩ = some a4 ∧ w.cell? ⟨b, 5, none⟩ = some a5 ∧ w.cell? ⟨b, 6, none⟩ = some a6 ∧ w.cell? ⟨b, 7, none⟩ = some a7 ∧ w.cell? ⟨b, 8, none⟩ = some a8 :=
  ⟨h.cell (i := 0) (by simp), h.cell (i := 1) (by simp), h.cell (i := 2) (by simp), h.cell (i := 3) (by simp), h.cell (i := 4) (by simp), h.cell (i := 5) (by simp), h.cell (i := 6) (by simp), h.cell (i := 7) (by simp), h.cell (i := 8) (by simp)⟩
/-- a store, no code -/
def StPost (w : World) (T : TypeId) (L : List ByteArray) (e : Ending) (w' : World) : Prop :=
  ∃ (v : Value) (Ac Ak Al Af : Option Addr), e = .returned (.agg #[v, .slice Ac 0 0, .bool false, .slice Ak 0 0, .int .i64 1, .slice Al 0 0, .int .i64 0, .slice Af 0 0, .int .i64 0]) ∧ w'.ownsRow w.heap.size T 1 v L.length (L.map fun c => Value.string c) ∧ Ext w w'
def stL : List ByteArray := (List.replicate 69 ByteArray.empty).set 0 ⟨(headB 1).toArray⟩
theorem stL_len : stL.length = 69 := by simp [stL]
theorem own_set0 {w : World} {B g n cap : Nat} {e : TypeId} {x : ByteArray} {L : List ByteArray} (h : w.ownsRow B e 1 (.slice (some ⟨g, 0, none⟩) n cap) L.length (L.map fun c => Value.string c)) (hL : 0 < L.length) :
    (w.setCell ⟨g, 0, none⟩ (.string x)).ownsRow B e 1 (.slice (some ⟨g, 0, none⟩) n cap) L.length ((L.set 0 x).map fun c => Value.string c) := by
  obtain ⟨g', cap', cs, e1, h1, h2, h3, hB, h5, h6⟩ := own_form h hL
  injection e1 with e1 e2 e3
  injection e1 with e1
  injection e1 with e1 _ _
  subst e1; subst e2; subst e3
  refine ⟨by simp, Or.inr ⟨g, cap, (cs.set 0 (.string x)).toArray, rfl, h1, hB.set 0 _, h2, h3, by simpa using h5, ?_⟩⟩
  rw [List.map_set, ← h6]
  show List.take _ (cs.set 0 _) = _
  rw [List.take_set]
theorem markLogRecordS_none (A : Option Addr) (cp : Nat) (k : Int) (w : World) :
    Calls Try.prog 85 #[.slice A 0 cp, .int .i64 k] w fun e w' => e = .returned (.int .i64 k) ∧ w = w' := by
  go_enter Try.func85, Try.ntmps85
  go_wp2
  go_loopw [5, 1] (fun i t wr => i = .int .i64 0 ∧ t = .int .i64 k ∧ wr = w) (fun i _ _ => 0)
  case atStart => exact ⟨rfl, rfl, rfl⟩
  case round =>
    obtain ⟨rfl, rfl, rfl⟩ := hrel
    go_wp2_with fail
    go_ret
    exact ⟨rfl, rfl⟩
theorem heldLogRecordS_none (A : Option Addr) (cp : Nat) (k : Int) (w : World) :
    Calls Try.prog 87 #[.slice A 0 cp, .int .i64 k] w fun e w' => e = .returned (.int .i64 k) ∧ w = w' := by
  go_enter Try.func87, Try.ntmps87
  go_wp2
  go_loopw [5, 1] (fun i t wr => i = .int .i64 0 ∧ t = .int .i64 k ∧ wr = w) (fun i _ _ => 0)
  case atStart => exact ⟨rfl, rfl, rfl⟩
  case round =>
    obtain ⟨rfl, rfl, rfl⟩ := hrel
    go_wp2_with fail
    go_ret
    exact ⟨rfl, rfl⟩
theorem eqLogRecordS_none (A A' : Option Addr) (cp cp' : Nat) (w : World) :
    Calls Try.prog 83 #[.slice A 0 cp, .slice A' 0 cp'] w fun e w' => e = .returned (.bool true) ∧ w = w' := by
  go_enter Try.func83, Try.ntmps83
  go_wp2_with fail
  go_loopw [5] (fun i wr => i = .int .i64 0 ∧ wr = w) (fun i _ => 0)
  case atStart => exact ⟨rfl, rfl⟩
  case round =>
    obtain ⟨rfl, rfl⟩ := hrel
    go_wp2_with fail
    go_ret
    exact ⟨rfl, rfl⟩
theorem markFrameS_none (A : Option Addr) (cp : Nat) (k : Int) (w : World) :
    Calls Try.prog 86 #[.slice A 0 cp, .int .i64 k] w fun e w' => e = .returned (.int .i64 k) ∧ w = w' := by
  go_enter Try.func86, Try.ntmps86
  go_wp2
  go_loopw [5, 1] (fun i t wr => i = .int .i64 0 ∧ t = .int .i64 k ∧ wr = w) (fun i _ _ => 0)
  case atStart => exact ⟨rfl, rfl, rfl⟩
  case round =>
    obtain ⟨rfl, rfl, rfl⟩ := hrel
    go_wp2_with fail
    go_ret
    exact ⟨rfl, rfl⟩
theorem heldFrameS_none (A : Option Addr) (cp : Nat) (k : Int) (w : World) :
    Calls Try.prog 88 #[.slice A 0 cp, .int .i64 k] w fun e w' => e = .returned (.int .i64 k) ∧ w = w' := by
  go_enter Try.func88, Try.ntmps88
  go_wp2
  go_loopw [5, 1] (fun i t wr => i = .int .i64 0 ∧ t = .int .i64 k ∧ wr = w) (fun i _ _ => 0)
  case atStart => exact ⟨rfl, rfl, rfl⟩
  case round =>
    obtain ⟨rfl, rfl, rfl⟩ := hrel
    go_wp2_with fail
    go_ret
    exact ⟨rfl, rfl⟩
theorem eqFrameS_none (A A' : Option Addr) (cp cp' : Nat) (w : World) :
    Calls Try.prog 84 #[.slice A 0 cp, .slice A' 0 cp'] w fun e w' => e = .returned (.bool true) ∧ w = w' := by
  go_enter Try.func84, Try.ntmps84
  go_wp2_with fail
  go_loopw [5] (fun i wr => i = .int .i64 0 ∧ wr = w) (fun i _ => 0)
  case atStart => exact ⟨rfl, rfl⟩
  case round =>
    obtain ⟨rfl, rfl⟩ := hrel
    go_wp2_with fail
    go_ret
    exact ⟨rfl, rfl⟩
set_option maxHeartbeats 2000000 in
theorem eqStore_bare (v v' : Value) (Ac Ak Al Af Ac' Ak' Al' Af' : Option Addr) (l : List ByteArray) (w : World) (hn : l.length ≤ 1099511627776) (h : StS w v l) (h' : StS w v' l) :
    Calls Try.prog 25 #[.agg #[v, .slice Ac 0 0, .bool false, .slice Ak 0 0, .int .i64 1, .slice Al 0 0, .int .i64 0, .slice Af 0 0, .int .i64 0], .agg #[v', .slice Ac' 0 0, .bool false, .slice Ak' 0 0, .int .i64 1, .slice Al' 0 0, .int .i64 0, .slice Af' 0 0, .int .i64 0]] w fun e w' => e = .returned (.bool true) ∧ Ext w w' := by
  have E0 : Ext w ((w.alloc (.cells #[v, .slice Ac 0 0, .bool false, .slice Ak 0 0, .int .i64 1, .slice Al 0 0, .int .i64 0, .slice Af 0 0, .int .i64 0] 43)).alloc (.cells #[v', .slice Ac' 0 0, .bool false, .slice Ak' 0 0, .int .i64 1, .slice Al' 0 0, .int .i64 0, .slice Af' 0 0, .int .i64 0] 43)) := (by repeat (first | exact Ext.refl _ | assumption | refine Ext.alloc ?_ _ | refine Ext.drewN ?_ _ | refine Ext.drew ?_ | refine Ext.set ?_ (by dsimp only; omega) _ | refine Ext.trans ?_ (by assumption)))
  have HS := Lib.hid (eqDisk_bare v v' Ac Ak Ac' Ak' l _ hn (h.ext E0) (h'.ext E0))
  have hB2 := Blk.new (w.alloc (.cells #[v, .slice Ac 0 0, .bool false, .slice Ak 0 0, .int .i64 1, .slice Al 0 0, .int .i64 0, .slice Af 0 0, .int .i64 0] 43)) 43 [v', .slice Ac' 0 0, .bool false, .slice Ak' 0 0, .int .i64 1, .slice Al' 0 0, .int .i64 0, .slice Af' 0 0, .int .i64 0]
  rw [World.size_alloc] at hB2
  have HB1 := Lib.hid ((Blk.new w 43 [v, .slice Ac 0 0, .bool false, .slice Ak 0 0, .int .i64 1, .slice Al 0 0, .int .i64 0, .slice Af 0 0, .int .i64 0]).alloc (.cells #[v', .slice Ac' 0 0, .bool false, .slice Ak' 0 0, .int .i64 1, .slice Al' 0 0, .int .i64 0, .slice Af' 0 0, .int .i64 0] 43))
  have HB2 := Lib.hid hB2
  have HE := Lib.hid E0
  clear h h' E0 hB2
  go_enter Try.func25, Try.ntmps25
  go_wp2_with fail
  refine HS.out.mono ?_
  rintro e w1 ⟨rfl, E1⟩
  have HE1 := Lib.hid (HE.out.trans E1)
  obtain ⟨p0, p1, p2, p3, p4, p5, p6, p7, p8⟩ := (HB1.out.ext E1).cells9
  obtain ⟨q0, q1, q2, q3, q4, q5, q6, q7, q8⟩ := (HB2.out.ext E1).cells9
  clear E1 HE
  go_wp2_with fail
  refine (eqLogRecordS_none Al Al' 0 0 w1).mono ?_
  rintro e w2 ⟨rfl, rfl⟩
  go_wp2_with fail
  refine (eqFrameS_none Af Af' 0 0 w1).mono ?_
  rintro e w2 ⟨rfl, rfl⟩
  go_wp2_with fail
  go_ret
  exact ⟨rfl, HE1.out⟩
set_option maxHeartbeats 2000000 in
theorem markStore_bare (B : Nat) (v : Value) (Ac Ak Al Af : Option Addr) (l : List ByteArray) (w : World) (hn : l.length ≤ 100) (ho : w.ownsRow B 9 1 v l.length (l.map fun c => Value.string c)) :
    Calls Try.prog 26 #[.agg #[v, .slice Ac 0 0, .bool false, .slice Ak 0 0, .int .i64 1, .slice Al 0 0, .int .i64 0, .slice Af 0 0, .int .i64 0], .int .i64 1] w fun e w' => e = .returned (.int .i64 (1 + l.length)) ∧ w'.ownsRow B 9 1 v l.length ((marks 1 l.length).map fun c => Value.string c) ∧ w.grownBy w' v.ownBlock := by
  have E0 : Ext w (w.alloc (.cells #[v, .slice Ac 0 0, .bool false, .slice Ak 0 0, .int .i64 1, .slice Al 0 0, .int .i64 0, .slice Af 0 0, .int .i64 0] 43)) := (by repeat (first | exact Ext.refl _ | assumption | refine Ext.alloc ?_ _ | refine Ext.drewN ?_ _ | refine Ext.drew ?_ | refine Ext.set ?_ (by dsimp only; omega) _ | refine Ext.trans ?_ (by assumption)))
  have HM := Lib.hid (markDisk_bare B v Ac Ak l _ hn (own_ext ho E0))
  have HB := Lib.hid (Blk.new w 43 [v, .slice Ac 0 0, .bool false, .slice Ak 0 0, .int .i64 1, .slice Al 0 0, .int .i64 0, .slice Af 0 0, .int .i64 0])
  have hap := own_apart (own_ext ho E0) HB.out (by decide)
  have HE := Lib.hid E0
  obtain ⟨A, cap, rfl⟩ := own_slice ho
  clear ho E0
  go_enter Try.func26, Try.ntmps26
  go_wp2_with fail
  refine HM.out.mono ?_
  rintro e w1 ⟨rfl, O1, G1⟩
  have HB1 : Blk w1 w.heap.size 43 [.slice A l.length cap, .slice Ac 0 0, .bool false, .slice Ak 0 0, .int .i64 1, .slice Al 0 0, .int .i64 0, .slice Af 0 0, .int .i64 0] := (G1.block _ HB.out.lt hap).trans HB.out
  obtain ⟨p0, p1, p2, p3, p4, p5, p6, p7, p8⟩ := HB1.cells9
  have HO1 := Lib.hid O1
  have HG1 := Lib.hid (grown_preR HE.out G1)
  clear O1 G1 HB1 HM HB
  go_wp2_with fail
  refine (markLogRecordS_none Al 0 _ w1).mono ?_
  rintro e w2 ⟨rfl, rfl⟩
  go_wp2_with fail
  refine (markFrameS_none Af 0 _ w1).mono ?_
  rintro e w2 ⟨rfl, rfl⟩
  go_wp2_with fail
  go_ret
  exact ⟨rfl, HO1.out, HG1.out⟩
set_option maxHeartbeats 2000000 in
theorem heldStore_bare (A Ac Ak Al Af : Option Addr) (n cp : Nat) (w : World) (hn : n ≤ 100) (hr : Rd w A ((marks 1 n).map fun c => Value.string c)) :
    Calls Try.prog 27 #[.agg #[.slice A n cp, .slice Ac 0 0, .bool false, .slice Ak 0 0, .int .i64 1, .slice Al 0 0, .int .i64 0, .slice Af 0 0, .int .i64 0], .int .i64 1] w fun e w' => e = .returned (.int .i64 (1 + n)) ∧ Ext w w' := by
  have E0 : Ext w (w.alloc (.cells #[.slice A n cp, .slice Ac 0 0, .bool false, .slice Ak 0 0, .int .i64 1, .slice Al 0 0, .int .i64 0, .slice Af 0 0, .int .i64 0] 43)) := (by repeat (first | exact Ext.refl _ | assumption | refine Ext.alloc ?_ _ | refine Ext.drewN ?_ _ | refine Ext.drew ?_ | refine Ext.set ?_ (by dsimp only; omega) _ | refine Ext.trans ?_ (by assumption)))
  have HM := Lib.hid (heldDisk_bare A Ac Ak n cp _ hn (hr.ext E0))
  have HB := Lib.hid (Blk.new w 43 [.slice A n cp, .slice Ac 0 0, .bool false, .slice Ak 0 0, .int .i64 1, .slice Al 0 0, .int .i64 0, .slice Af 0 0, .int .i64 0])
  have HE := Lib.hid E0
  have d : decide ((1 : Int) + (n : Int) < 0) = false := decide_eq_false (by omega)
  clear hr E0
  go_enter Try.func27, Try.ntmps27
  go_wp2_with fail
  refine HM.out.mono ?_
  rintro e w1 ⟨rfl, E1⟩
  obtain ⟨p0, p1, p2, p3, p4, p5, p6, p7, p8⟩ := (HB.out.ext E1).cells9
  go_wp2_with fail
  refine (heldLogRecordS_none Al 0 _ w1).mono ?_
  rintro e w2 ⟨rfl, rfl⟩
  go_wp2_with fail
  refine (heldFrameS_none Af 0 _ w1).mono ?_
  rintro e w2 ⟨rfl, rfl⟩
  go_wp2_with fail
  go_ret
  exact ⟨rfl, HE.out.trans E1⟩
set_option maxHeartbeats 4000000 in
theorem impl_NewStore (w : World) : Calls Try.prog 24 #[] w (StPost w 9 stL) := by
  have HX := Lib.hid (Blk.new w 43 [.slice none 0 0, .slice none 0 0, .bool false, .slice none 0 0, .int .i64 0, .slice none 0 0, .int .i64 0, .slice none 0 0, .int .i64 0])
  have HE0 := Lib.hid (show Ext w (w.alloc (.cells #[.slice none 0 0, .slice none 0 0, .bool false, .slice none 0 0, .int .i64 0, .slice none 0 0, .int .i64 0, .slice none 0 0, .int .i64 0] 43)) from (by repeat (first | exact Ext.refl _ | assumption | refine Ext.alloc ?_ _ | refine Ext.drewN ?_ _ | refine Ext.drew ?_ | refine Ext.set ?_ (by dsimp only; omega) _ | refine Ext.trans ?_ (by assumption))))
  go_enter Try.func24, Try.ntmps24
  go_wp2_with fail
  refine (impl_NewDisk 69 _).mono ?_
  rintro e w1 ⟨v, Ac, Ak, rfl, O1, E1⟩
  rw [show ndL 69 = List.replicate 69 ByteArray.empty from rfl] at O1
  have hLn : (List.replicate 69 ByteArray.empty).length = 69 := by simp
  obtain ⟨g, cap, cs, rfl, hg, hc1, hc2, hB, hlc, ht⟩ := own_form O1 (by rw [hLn]; omega)
  rw [hLn] at *
  have HE1 := Lib.hid (HE0.out.trans E1)
  have HX1 := Lib.hid (HX.out.ext E1)
  have HO1 := Lib.hid O1
  have HG := Lib.hid hB
  have hgw : w.heap.size + 1 ≤ g := by rw [World.size_alloc] at hg; exact hg
  have hgl := hB.lt
  have hcell : cs[0]? = some (Value.string ByteArray.empty) := by
    have h := congrArg (fun (l : List Value) => l[0]?) ht
    simpa [List.getElem?_take] using h
  have HCL := Lib.hid hcell
  clear E1 O1 hB HX HE0 hLn hcell ht hlc hg
  have HD := Lib.hid (Blk.new w1 26 [.slice (some ⟨g, 0, none⟩) 69 cap, .slice Ac 0 0, .bool false, .slice Ak 0 0])
  have HG2 := Lib.hid (HG.out.alloc (.cells #[.slice (some ⟨g, 0, none⟩) 69 cap, .slice Ac 0 0, .bool false, .slice Ak 0 0] 26))
  have HX2 := Lib.hid (HX1.out.alloc (.cells #[.slice (some ⟨g, 0, none⟩) 69 cap, .slice Ac 0 0, .bool false, .slice Ak 0 0] 26))
  have HE2 := Lib.hid (HE1.out.alloc (.cells #[.slice (some ⟨g, 0, none⟩) 69 cap, .slice Ac 0 0, .bool false, .slice Ak 0 0] 26))
  have HO2 := Lib.hid (own_ext HO1.out ((Ext.refl w1).alloc (.cells #[.slice (some ⟨g, 0, none⟩) 69 cap, .slice Ac 0 0, .bool false, .slice Ak 0 0] 26)))
  go_wp2_with fail
  generalize w1.alloc (.cells #[.slice (some ⟨g, 0, none⟩) 69 cap, .slice Ac 0 0, .bool false, .slice Ak 0 0] 26) = w2 at HD HG2 HX2 HE2 HO2 ⊢
  have hdg : w1.heap.size ≠ g := by omega
  have hdw : w.heap.size ≤ w1.heap.size := HE1.out.le
  generalize w1.heap.size = bd at HD hdg hdw hgl ⊢
  clear HG HX1 HE1 HO1
  refine rg_startS (fun W => Blk W bd 26 [.slice (some ⟨g, 0, none⟩) 69 cap, .slice Ac 0 0, .bool false, .slice Ak 0 0] ∧ Ext w W) (by kernel_rfl) ⟨HD.out.drew, HE2.out.drew⟩ (fun hS0 => ?_)
  have HG3 := Lib.hid HG2.out.drew
  have HX3 := Lib.hid HX2.out.drew
  have HO3 := Lib.hid (own_ext HO2.out (Ext.refl w2).drew)
  generalize w2.drew = w3 at HG3 HX3 HO3 hS0 ⊢
  clear HG2 HX2 HO2 HE2 HD
  (refine rg_take (v := ?_) 0 rfl (by kernel_rfl) (by kernel_rfl) (by kernel_rfl) (fun _ _ _ h => h) (by rfl) (by assumption) (fun W hW => ?_) ?_; rotate_left; (focus (go_simp; try with_reducible rfl)); (try simp only [List.setIfInBounds_toArray, List.set_cons_succ, List.set_cons_zero]))
  (refine rg_take (v := ?_) 1 rfl (by kernel_rfl) (by kernel_rfl) (by kernel_rfl) (fun _ _ _ h => h) (by rfl) (by assumption) (fun W hW => ?_) ?_; rotate_left; (focus (obtain ⟨k0, k1, k2, k3⟩ := hW.1.cells4; go_simp; try with_reducible rfl)); (try simp only [List.setIfInBounds_toArray, List.set_cons_succ, List.set_cons_zero]))
  (refine rg_one 2 (by kernel_rfl) rfl (by rfl) (fun K hK => ?_); go_simp)
  refine (impl_headerBytes 1 _ (by omega)).mono ?_
  rintro e w4 ⟨v4, rfl, O4, E4⟩
  obtain ⟨A4, c4, rfl, R4, _, _⟩ := own_rd O4
  have hcv := run_text (P := Try.prog) (src := 111) (dst := 9) Try.underlying111 Try.underlying5 Try.underlying9 w4 A4 6 c4 (headB 1) rfl R4
  have HCV := Lib.hid hcv
  refine hK _ _ ⟨hS0.1.ext E4, hS0.2.trans E4⟩ (fun hS4 => ?_)
  clear hK K O4 R4 hcv
  try simp only [List.setIfInBounds_toArray, List.set_cons_succ, List.set_cons_zero]
  have HG4 := Lib.hid (HG3.out.ext E4)
  have HX4 := Lib.hid (HX3.out.ext E4)
  have HO4 := Lib.hid (own_ext HO3.out E4)
  clear E4 HG3 HX3 HO3 hS0
  have hcv := HCV.out
  generalize hhd : (⟨(headB 1).toArray⟩ : ByteArray) = hd at hcv
  (refine rg_one 3 (by kernel_rfl) rfl (by rfl) (fun K hK => ?_); go_simp)
  refine hK _ _ hS4 (fun hS5 => ?_)
  clear hK K hcv HCV
  try simp only [List.setIfInBounds_toArray, List.set_cons_succ, List.set_cons_zero]
  clear hS5
  (refine rg_take (v := ?_) 4 rfl (by kernel_rfl) (by kernel_rfl) (by kernel_rfl) (fun _ _ _ h => h) (by rfl) (by assumption) (fun W hW => ?_) ?_; rotate_left; (focus (go_simp; try with_reducible rfl)); (try simp only [List.setIfInBounds_toArray, List.set_cons_succ, List.set_cons_zero]))
  have h0c : 0 < cs.length := (List.getElem?_eq_some_iff.1 HCL.out).1
  have gc : w4.cell? ⟨g, 0, none⟩ = some (.string ByteArray.empty) := by
    have h := HCL.out
    rw [List.getElem?_eq_getElem h0c] at h
    injection h with h
    rw [HG4.out.cell h0c, h]
  have gf := HG4.out.frozen 0
  have hO5 := own_set0 (x := hd) (L := List.replicate 69 ByteArray.empty) (by rw [List.length_replicate]; exact HO4.out) (by rw [List.length_replicate]; omega)
  rw [List.length_replicate] at hO5
  have HO5 := Lib.hid hO5
  have HX5 := Lib.hid (show Blk (w4.setCell ⟨g, 0, none⟩ (.string hd)) w.heap.size 43 [.slice none 0 0, .slice none 0 0, .bool false, .slice none 0 0, .int .i64 0, .slice none 0 0, .int .i64 0, .slice none 0 0, .int .i64 0] from Blk.far HX4.out (by dsimp only; omega) _)
  have HD5 := Lib.hid (show Blk (w4.setCell ⟨g, 0, none⟩ (.string hd)) bd 26 [.slice (some ⟨g, 0, none⟩) 69 cap, .slice Ac 0 0, .bool false, .slice Ak 0 0] from Blk.far hS4.1 (by dsimp only; exact hdg) _)
  have HE5 := Lib.hid (show Ext w (w4.setCell ⟨g, 0, none⟩ (.string hd)) from hS4.2.set (by dsimp only; omega) _)
  clear hO5 h0c
  (refine rg_one 5 (by kernel_rfl) rfl (by rfl) (fun K hK => ?_); go_simp)
  refine hK _ _ ⟨HD5.out, HE5.out⟩ (fun hS5 => ?_)
  clear hK K
  try simp only [List.setIfInBounds_toArray, List.set_cons_succ, List.set_cons_zero]
  refine rg_done (by kernel_rfl) ?_
  clear gc gf hS4 hS5
  generalize w4.setCell ⟨g, 0, none⟩ (.string hd) = w5 at HO5 HX5 HD5 HE5 ⊢
  clear HG4 HX4 HO4
  obtain ⟨d0, d1, d2, d3⟩ := HD5.out.cells4
  have HX6 := Lib.hid (HX5.out)
  obtain ⟨r0, r1, r2, r3, r4, r5, r6, r7, r8⟩ := HX6.out.cells9
  have f0 := (HX6.out).frozen 0
  have f1 := (HX6.out).frozen 1
  have f2 := (HX6.out).frozen 2
  have f3 := (HX6.out).frozen 3
  have f4 := (HX6.out).frozen 4
  have f5 := (HX6.out).frozen 5
  have f6 := (HX6.out).frozen 6
  have f7 := (HX6.out).frozen 7
  have f8 := (HX6.out).frozen 8
  go_wp2_with fail
  refine bodyPost_ret (v := .agg #[.slice (some ⟨g, 0, none⟩) 69 cap, .slice Ac 0 0, .bool false, .slice Ak 0 0, .int .i64 1, .slice none 0 0, .int .i64 0, .slice none 0 0, .int .i64 0]) (by simp [results, Try.results24, go_sem, r0, r1, r2, r3, r4, r5, r6, r7, r8]; try rfl) rfl ?_
  have hst : stL = (List.replicate 69 ByteArray.empty).set 0 hd := by rw [← hhd]; rfl
  refine ⟨_, Ac, Ak, none, none, rfl, ?_, ?_⟩
  · rw [stL_len, hst]
    exact own_base (B := w.heap.size) (own_setR (own_setR (own_setR (own_setR (own_setR (own_setR (own_setR (own_setR (own_setR HO5.out (by rw [World.size_alloc]; omega)) (by rw [World.size_alloc]; omega)) (by rw [World.size_alloc]; omega)) (by rw [World.size_alloc]; omega)) (by rw [World.size_alloc]; omega)) (by rw [World.size_alloc]; omega)) (by rw [World.size_alloc]; omega)) (by rw [World.size_alloc]; omega)) (by rw [World.size_alloc]; omega)) (by rw [World.size_alloc]; omega)
  · exact (Ext.set (Ext.set (Ext.set (Ext.set (Ext.set (Ext.set (Ext.set (Ext.set (Ext.set HE5.out (Nat.le_refl _) _) (Nat.le_refl _) _) (Nat.le_refl _) _) (Nat.le_refl _) _) (Nat.le_refl _) _) (Nat.le_refl _) _) (Nat.le_refl _) _) (Nat.le_refl _) _) (Nat.le_refl _) _)
set_option maxHeartbeats 4000000 in
theorem spec_NewStore (w : World) : Calls Try.prog 23 #[] w (StPost w 9 stL) := by
  have HX := Lib.hid (Blk.new w 43 [.slice none 0 0, .slice none 0 0, .bool false, .slice none 0 0, .int .i64 0, .slice none 0 0, .int .i64 0, .slice none 0 0, .int .i64 0])
  have HE0 := Lib.hid (show Ext w (w.alloc (.cells #[.slice none 0 0, .slice none 0 0, .bool false, .slice none 0 0, .int .i64 0, .slice none 0 0, .int .i64 0, .slice none 0 0, .int .i64 0] 43)) from (by repeat (first | exact Ext.refl _ | assumption | refine Ext.alloc ?_ _ | refine Ext.drewN ?_ _ | refine Ext.drew ?_ | refine Ext.set ?_ (by dsimp only; omega) _ | refine Ext.trans ?_ (by assumption))))
  go_enter Try.func23, Try.ntmps23
  go_wp2_with fail
  refine (spec_l02New 69 (by omega) _).mono ?_
  rintro e w1 ⟨v, Ac, Ak, rfl, O1, E1⟩
  have hLn : (List.replicate 69 ByteArray.empty).length = 69 := by simp
  obtain ⟨g, cap, cs, rfl, hg, hc1, hc2, hB, hlc, ht⟩ := own_form O1 (by rw [hLn]; omega)
  rw [hLn] at *
  have HE1 := Lib.hid (HE0.out.trans E1)
  have HX1 := Lib.hid (HX.out.ext E1)
  have HO1 := Lib.hid O1
  have HG := Lib.hid hB
  have hgw : w.heap.size + 1 ≤ g := by rw [World.size_alloc] at hg; exact hg
  have hgl := hB.lt
  have hcell : cs[0]? = some (Value.string ByteArray.empty) := by
    have h := congrArg (fun (l : List Value) => l[0]?) ht
    simpa [List.getElem?_take] using h
  have HCL := Lib.hid hcell
  clear E1 O1 hB HX HE0 hLn hcell ht hlc hg
  have HD := Lib.hid (Blk.new w1 26 [.slice (some ⟨g, 0, none⟩) 69 cap, .slice Ac 0 0, .bool false, .slice Ak 0 0])
  have HG2 := Lib.hid (HG.out.alloc (.cells #[.slice (some ⟨g, 0, none⟩) 69 cap, .slice Ac 0 0, .bool false, .slice Ak 0 0] 26))
  have HX2 := Lib.hid (HX1.out.alloc (.cells #[.slice (some ⟨g, 0, none⟩) 69 cap, .slice Ac 0 0, .bool false, .slice Ak 0 0] 26))
  have HE2 := Lib.hid (HE1.out.alloc (.cells #[.slice (some ⟨g, 0, none⟩) 69 cap, .slice Ac 0 0, .bool false, .slice Ak 0 0] 26))
  have HO2 := Lib.hid (own_ext HO1.out ((Ext.refl w1).alloc (.cells #[.slice (some ⟨g, 0, none⟩) 69 cap, .slice Ac 0 0, .bool false, .slice Ak 0 0] 26)))
  go_wp2_with fail
  generalize w1.alloc (.cells #[.slice (some ⟨g, 0, none⟩) 69 cap, .slice Ac 0 0, .bool false, .slice Ak 0 0] 26) = w2 at HD HG2 HX2 HE2 HO2 ⊢
  have hdg : w1.heap.size ≠ g := by omega
  have hdw : w.heap.size ≤ w1.heap.size := HE1.out.le
  generalize w1.heap.size = bd at HD hdg hdw hgl ⊢
  clear HG HX1 HE1 HO1
  refine rg_startS (fun W => Blk W bd 26 [.slice (some ⟨g, 0, none⟩) 69 cap, .slice Ac 0 0, .bool false, .slice Ak 0 0] ∧ Ext w W) (by kernel_rfl) ⟨HD.out.drew, HE2.out.drew⟩ (fun hS0 => ?_)
  have HG3 := Lib.hid HG2.out.drew
  have HX3 := Lib.hid HX2.out.drew
  have HO3 := Lib.hid (own_ext HO2.out (Ext.refl w2).drew)
  generalize w2.drew = w3 at HG3 HX3 HO3 hS0 ⊢
  clear HG2 HX2 HO2 HE2 HD
  (refine rg_take (v := ?_) 0 rfl (by kernel_rfl) (by kernel_rfl) (by kernel_rfl) (fun _ _ _ h => h) (by rfl) (by assumption) (fun W hW => ?_) ?_; rotate_left; (focus (go_simp; try with_reducible rfl)); (try simp only [List.setIfInBounds_toArray, List.set_cons_succ, List.set_cons_zero]))
  (refine rg_take (v := ?_) 1 rfl (by kernel_rfl) (by kernel_rfl) (by kernel_rfl) (fun _ _ _ h => h) (by rfl) (by assumption) (fun W hW => ?_) ?_; rotate_left; (focus (obtain ⟨k0, k1, k2, k3⟩ := hW.1.cells4; go_simp; try with_reducible rfl)); (try simp only [List.setIfInBounds_toArray, List.set_cons_succ, List.set_cons_zero]))
  (refine rg_one 2 (by kernel_rfl) rfl (by rfl) (fun K hK => ?_); go_simp)
  refine (spec_l04Header 1 _ (by omega)).mono ?_
  rintro e w4 ⟨rfl, E4⟩
  refine hK _ _ ⟨hS0.1.ext E4, hS0.2.trans E4⟩ (fun hS4 => ?_)
  clear hK K
  try simp only [List.setIfInBounds_toArray, List.set_cons_succ, List.set_cons_zero]
  have HG4 := Lib.hid (HG3.out.ext E4)
  have HX4 := Lib.hid (HX3.out.ext E4)
  have HO4 := Lib.hid (own_ext HO3.out E4)
  clear E4 HG3 HX3 HO3 hS0
  generalize hhd : (⟨(headB 1).toArray⟩ : ByteArray) = hd
  (refine rg_take (v := ?_) 3 rfl (by kernel_rfl) (by kernel_rfl) (by kernel_rfl) (fun _ _ _ h => h) (by rfl) (by assumption) (fun W hW => ?_) ?_; rotate_left; (focus (go_simp; try with_reducible rfl)); (try simp only [List.setIfInBounds_toArray, List.set_cons_succ, List.set_cons_zero]))
  have h0c : 0 < cs.length := (List.getElem?_eq_some_iff.1 HCL.out).1
  have gc : w4.cell? ⟨g, 0, none⟩ = some (.string ByteArray.empty) := by
    have h := HCL.out
    rw [List.getElem?_eq_getElem h0c] at h
    injection h with h
    rw [HG4.out.cell h0c, h]
  have gf := HG4.out.frozen 0
  have hO5 := own_set0 (x := hd) (L := List.replicate 69 ByteArray.empty) (by rw [List.length_replicate]; exact HO4.out) (by rw [List.length_replicate]; omega)
  rw [List.length_replicate] at hO5
  have HO5 := Lib.hid hO5
  have HX5 := Lib.hid (show Blk (w4.setCell ⟨g, 0, none⟩ (.string hd)) w.heap.size 43 [.slice none 0 0, .slice none 0 0, .bool false, .slice none 0 0, .int .i64 0, .slice none 0 0, .int .i64 0, .slice none 0 0, .int .i64 0] from Blk.far HX4.out (by dsimp only; omega) _)
  have HD5 := Lib.hid (show Blk (w4.setCell ⟨g, 0, none⟩ (.string hd)) bd 26 [.slice (some ⟨g, 0, none⟩) 69 cap, .slice Ac 0 0, .bool false, .slice Ak 0 0] from Blk.far hS4.1 (by dsimp only; exact hdg) _)
  have HE5 := Lib.hid (show Ext w (w4.setCell ⟨g, 0, none⟩ (.string hd)) from hS4.2.set (by dsimp only; omega) _)
  clear hO5 h0c
  (refine rg_one 4 (by kernel_rfl) rfl (by rfl) (fun K hK => ?_); go_simp)
  refine hK _ _ ⟨HD5.out, HE5.out⟩ (fun hS5 => ?_)
  clear hK K
  try simp only [List.setIfInBounds_toArray, List.set_cons_succ, List.set_cons_zero]
  refine rg_done (by kernel_rfl) ?_
  clear gc gf hS4 hS5
  generalize w4.setCell ⟨g, 0, none⟩ (.string hd) = w5 at HO5 HX5 HD5 HE5 ⊢
  clear HG4 HX4 HO4
  obtain ⟨d0, d1, d2, d3⟩ := HD5.out.cells4
  have HX6 := Lib.hid ((HX5.out.alloc (.cells #[] 170)).alloc (.cells #[] 175))
  obtain ⟨r0, r1, r2, r3, r4, r5, r6, r7, r8⟩ := HX6.out.cells9
  have f0 := (HX6.out).frozen 0
  have f1 := (HX6.out).frozen 1
  have f2 := (HX6.out).frozen 2
  have f3 := (HX6.out).frozen 3
  have f4 := (HX6.out).frozen 4
  have f5 := (HX6.out).frozen 5
  have f6 := (HX6.out).frozen 6
  have f7 := (HX6.out).frozen 7
  have f8 := (HX6.out).frozen 8
  go_wp2_with fail
  refine bodyPost_ret (v := .agg #[.slice (some ⟨g, 0, none⟩) 69 cap, .slice Ac 0 0, .bool false, .slice Ak 0 0, .int .i64 1, .slice (some ⟨w5.heap.size, 0, none⟩) 0 0, .int .i64 0, .slice (some ⟨w5.heap.size + 1, 0, none⟩) 0 0, .int .i64 0]) (by simp [results, Try.results23, go_sem, r0, r1, r2, r3, r4, r5, r6, r7, r8]; try rfl) rfl ?_
  have hst : stL = (List.replicate 69 ByteArray.empty).set 0 hd := by rw [← hhd]; rfl
  have E6 : Ext w5 ((w5.alloc (.cells #[] 170)).alloc (.cells #[] 175)) := (by repeat (first | exact Ext.refl _ | assumption | refine Ext.alloc ?_ _ | refine Ext.drewN ?_ _ | refine Ext.drew ?_ | refine Ext.set ?_ (by dsimp only; omega) _ | refine Ext.trans ?_ (by assumption)))
  refine ⟨_, Ac, Ak, _, _, rfl, ?_, ?_⟩
  · rw [stL_len, hst]
    exact own_base (B := w.heap.size) (own_setR (own_setR (own_setR (own_setR (own_setR (own_setR (own_setR (own_setR (own_setR (own_ext HO5.out E6) (by rw [World.size_alloc]; omega)) (by rw [World.size_alloc]; omega)) (by rw [World.size_alloc]; omega)) (by rw [World.size_alloc]; omega)) (by rw [World.size_alloc]; omega)) (by rw [World.size_alloc]; omega)) (by rw [World.size_alloc]; omega)) (by rw [World.size_alloc]; omega)) (by rw [World.size_alloc]; omega)) (by rw [World.size_alloc]; omega)
  · exact (Ext.set (Ext.set (Ext.set (Ext.set (Ext.set (Ext.set (Ext.set (Ext.set (Ext.set (HE5.out.trans E6) (Nat.le_refl _) _) (Nat.le_refl _) _) (Nat.le_refl _) _) (Nat.le_refl _) _) (Nat.le_refl _) _) (Nat.le_refl _) _) (Nat.le_refl _) _) (Nat.le_refl _) _) (Nat.le_refl _) _)
end Go.Proofs.Ytnbfjkebakaigaa
