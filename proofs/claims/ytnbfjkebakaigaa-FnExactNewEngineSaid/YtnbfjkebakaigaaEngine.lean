/- The walks over a new engine (printed by gen_lawnew.py). -/
import Derived.Test.YtnbfjkebakaigaaStore
namespace Go.Proofs.Ytnbfjkebakaigaa
open Go.RowKit Go.Deep
set_option linter.unusedVariables false
set_option maxRecDepth 100000
theorem Blk.cells14 {w : World} {b : Nat} {t : TypeId} {a0 a1 a2 a3 a4 a5 a6 a7 a8 a9 a10 a11 a12 a13 : Value} (h : Blk w b t [a0, a1, a2, a3, a4, a5, a6, a7, a8, a9, a10, a11, a12, a13]) : w.cell? ⟨b, 0, none⟩ = some a0 ∧ w.cell? ⟨b, 1, none⟩ = some a1 ∧ w.cell? ⟨b, 2, none⟩ = some a2 ∧ w.cell? ⟨b, 3, none⟩ = some a3 ∧ w.cell? ⟨b, 4, none⟩ = some a4 ∧ w.cell? ⟨b, 5, none⟩ = some a5 ∧ w.cell? ⟨b, 6, none⟩ = some a6 ∧ w.cell? ⟨b, 7, none⟩ = some a7 ∧ w.cell? ⟨b, 8, none⟩ = some a8 ∧ w.cell? ⟨b, 9, none⟩ = some a9 ∧ w.cell? ⟨b, 10, none⟩ = some a10 ∧ w.cell? ⟨b, 11, none⟩ = some a11 ∧ w.cell? ⟨b, 12, none⟩ = some a12 ∧ w.cell? ⟨b, 13, none⟩ = some a13 :=
  ⟨h.cell (i := 0) (by simp), h.cell (i := 1) (by simp), h.cell (i := 2) (by simp), h.cell (i := 3) (by simp), h.cell (i := 4) (by simp), h.cell (i := 5) (by simp), h.cell (i := 6) (by simp), h.cell (i := 7) (by simp), h.cell (i := 8) (by simp), h.cell (i := 9) (by simp), h.cell (i := 10) (by simp), h.cell (i := 11) (by simp), h.cell (i := 12) (by simp), h.cell (i := 13) (by simp)⟩
theorem grown_postE {w w1 w2 : World} {row : Option Nat} (h : w.grownBy w1 row) (e : Ext w1 w2) : w.grownBy w2 row :=
  ⟨e.os.trans h.os, e.tape.trans h.tape, e.output.trans h.output, Nat.le_trans h.size e.le, fun k hk hne => (Below.block e k (Nat.lt_of_lt_of_le hk h.size)).trans (h.block k hk hne)⟩
/-- an engine, no code -/
def EnPost (w : World) (T : TypeId) (L : List ByteArray) (e : Ending) (w' : World) : Prop :=
  ∃ (v : Value) (Ac Ak Al Af At Ah Aw : Option Addr), e = .returned (.agg #[v, .slice Ac 0 0, .bool false, .slice Ak 0 0, .int .i64 1, .slice Al 0 0, .int .i64 0, .slice Af 0 0, .int .i64 0, .bool true, .slice At 0 0, .slice Ah 0 0, .slice Aw 0 0, .int .i64 1]) ∧ w'.ownsRow w.heap.size T 1 v L.length (L.map fun c => Value.string c) ∧ Ext w w'
theorem markTxS_none (A : Option Addr) (cp : Nat) (k : Int) (w : World) :
    Calls Try.prog 93 #[.slice A 0 cp, .int .i64 k] w fun e w' => e = .returned (.int .i64 k) ∧ w = w' := by
  go_enter Try.func93, Try.ntmps93
  go_wp2
  go_loopw [5, 1] (fun i t wr => i = .int .i64 0 ∧ t = .int .i64 k ∧ wr = w) (fun i _ _ => 0)
  case atStart => exact ⟨rfl, rfl, rfl⟩
  case round =>
    obtain ⟨rfl, rfl, rfl⟩ := hrel
    go_wp2_with fail
    go_ret
    exact ⟨rfl, rfl⟩
theorem heldTxS_none (A : Option Addr) (cp : Nat) (k : Int) (w : World) :
    Calls Try.prog 94 #[.slice A 0 cp, .int .i64 k] w fun e w' => e = .returned (.int .i64 k) ∧ w = w' := by
  go_enter Try.func94, Try.ntmps94
  go_wp2
  go_loopw [5, 1] (fun i t wr => i = .int .i64 0 ∧ t = .int .i64 k ∧ wr = w) (fun i _ _ => 0)
  case atStart => exact ⟨rfl, rfl, rfl⟩
  case round =>
    obtain ⟨rfl, rfl, rfl⟩ := hrel
    go_wp2_with fail
    go_ret
    exact ⟨rfl, rfl⟩
theorem eqTxS_none (A A' : Option Addr) (cp cp' : Nat) (w : World) :
    Calls Try.prog 92 #[.slice A 0 cp, .slice A' 0 cp'] w fun e w' => e = .returned (.bool true) ∧ w = w' := by
  go_enter Try.func92, Try.ntmps92
  go_wp2_with fail
  go_loopw [5] (fun i wr => i = .int .i64 0 ∧ wr = w) (fun i _ => 0)
  case atStart => exact ⟨rfl, rfl⟩
  case round =>
    obtain ⟨rfl, rfl⟩ := hrel
    go_wp2_with fail
    go_ret
    exact ⟨rfl, rfl⟩
theorem markLockS_none (A : Option Addr) (cp : Nat) (k : Int) (w : World) :
    Calls Try.prog 51 #[.slice A 0 cp, .int .i64 k] w fun e w' => e = .returned (.int .i64 k) ∧ w = w' := by
  go_enter Try.func51, Try.ntmps51
  go_wp2
  go_loopw [5, 1] (fun i t wr => i = .int .i64 0 ∧ t = .int .i64 k ∧ wr = w) (fun i _ _ => 0)
  case atStart => exact ⟨rfl, rfl, rfl⟩
  case round =>
    obtain ⟨rfl, rfl, rfl⟩ := hrel
    go_wp2_with fail
    go_ret
    exact ⟨rfl, rfl⟩
theorem heldLockS_none (A : Option Addr) (cp : Nat) (k : Int) (w : World) :
    Calls Try.prog 52 #[.slice A 0 cp, .int .i64 k] w fun e w' => e = .returned (.int .i64 k) ∧ w = w' := by
  go_enter Try.func52, Try.ntmps52
  go_wp2
  go_loopw [5, 1] (fun i t wr => i = .int .i64 0 ∧ t = .int .i64 k ∧ wr = w) (fun i _ _ => 0)
  case atStart => exact ⟨rfl, rfl, rfl⟩
  case round =>
    obtain ⟨rfl, rfl, rfl⟩ := hrel
    go_wp2_with fail
    go_ret
    exact ⟨rfl, rfl⟩
theorem eqLockS_none (A A' : Option Addr) (cp cp' : Nat) (w : World) :
    Calls Try.prog 49 #[.slice A 0 cp, .slice A' 0 cp'] w fun e w' => e = .returned (.bool true) ∧ w = w' := by
  go_enter Try.func49, Try.ntmps49
  go_wp2_with fail
  go_loopw [5] (fun i wr => i = .int .i64 0 ∧ wr = w) (fun i _ => 0)
  case atStart => exact ⟨rfl, rfl⟩
  case round =>
    obtain ⟨rfl, rfl⟩ := hrel
    go_wp2_with fail
    go_ret
    exact ⟨rfl, rfl⟩
theorem markWaitS_none (A : Option Addr) (cp : Nat) (k : Int) (w : World) :
    Calls Try.prog 118 #[.slice A 0 cp, .int .i64 k] w fun e w' => e = .returned (.int .i64 k) ∧ w = w' := by
  go_enter Try.func118, Try.ntmps118
  go_wp2
  go_loopw [5, 1] (fun i t wr => i = .int .i64 0 ∧ t = .int .i64 k ∧ wr = w) (fun i _ _ => 0)
  case atStart => exact ⟨rfl, rfl, rfl⟩
  case round =>
    obtain ⟨rfl, rfl, rfl⟩ := hrel
    go_wp2_with fail
    go_ret
    exact ⟨rfl, rfl⟩
theorem heldWaitS_none (A : Option Addr) (cp : Nat) (k : Int) (w : World) :
    Calls Try.prog 148 #[.slice A 0 cp, .int .i64 k] w fun e w' => e = .returned (.int .i64 k) ∧ w = w' := by
  go_enter Try.func148, Try.ntmps148
  go_wp2
  go_loopw [5, 1] (fun i t wr => i = .int .i64 0 ∧ t = .int .i64 k ∧ wr = w) (fun i _ _ => 0)
  case atStart => exact ⟨rfl, rfl, rfl⟩
  case round =>
    obtain ⟨rfl, rfl, rfl⟩ := hrel
    go_wp2_with fail
    go_ret
    exact ⟨rfl, rfl⟩
theorem eqWaitS_none (A A' : Option Addr) (cp cp' : Nat) (w : World) :
    Calls Try.prog 109 #[.slice A 0 cp, .slice A' 0 cp'] w fun e w' => e = .returned (.bool true) ∧ w = w' := by
  go_enter Try.func109, Try.ntmps109
  go_wp2_with fail
  go_loopw [5] (fun i wr => i = .int .i64 0 ∧ wr = w) (fun i _ => 0)
  case atStart => exact ⟨rfl, rfl⟩
  case round =>
    obtain ⟨rfl, rfl⟩ := hrel
    go_wp2_with fail
    go_ret
    exact ⟨rfl, rfl⟩
set_option maxHeartbeats 2000000 in
theorem markLocks_none (Ah Aw : Option Addr) (k : Int) (w : World) (hk : 0 ≤ k) :
    Calls Try.prog 50 #[.agg #[.slice Ah 0 0, .slice Aw 0 0], .int .i64 k] w fun e w' => e = .returned (.int .i64 k) ∧ Ext w w' := by
  have HB := Lib.hid (Blk.new w 57 [.slice Ah 0 0, .slice Aw 0 0])
  have HE := Lib.hid (show Ext w (w.alloc (.cells #[.slice Ah 0 0, .slice Aw 0 0] 57)) from (by repeat (first | exact Ext.refl _ | assumption | refine Ext.alloc ?_ _ | refine Ext.drewN ?_ _ | refine Ext.drew ?_ | refine Ext.set ?_ (by dsimp only; omega) _ | refine Ext.trans ?_ (by assumption))))
  have d : decide (k < 0) = false := decide_eq_false (by omega)
  obtain ⟨p0, p1⟩ := HB.out.cells2
  go_enter Try.func50, Try.ntmps50
  go_wp2_with fail
  refine (markLockS_none Ah 0 k _).mono ?_
  rintro e w1 ⟨rfl, rfl⟩
  go_wp2_with fail
  refine (markWaitS_none Aw 0 k _).mono ?_
  rintro e w1 ⟨rfl, rfl⟩
  go_wp2_with fail
  go_ret
  exact ⟨rfl, HE.out⟩
set_option maxHeartbeats 2000000 in
theorem heldLocks_none (Ah Aw : Option Addr) (k : Int) (w : World) (hk : 0 ≤ k) :
    Calls Try.prog 95 #[.agg #[.slice Ah 0 0, .slice Aw 0 0], .int .i64 k] w fun e w' => e = .returned (.int .i64 k) ∧ Ext w w' := by
  have HB := Lib.hid (Blk.new w 57 [.slice Ah 0 0, .slice Aw 0 0])
  have HE := Lib.hid (show Ext w (w.alloc (.cells #[.slice Ah 0 0, .slice Aw 0 0] 57)) from (by repeat (first | exact Ext.refl _ | assumption | refine Ext.alloc ?_ _ | refine Ext.drewN ?_ _ | refine Ext.drew ?_ | refine Ext.set ?_ (by dsimp only; omega) _ | refine Ext.trans ?_ (by assumption))))
  have d : decide (k < 0) = false := decide_eq_false (by omega)
  obtain ⟨p0, p1⟩ := HB.out.cells2
  go_enter Try.func95, Try.ntmps95
  go_wp2_with fail
  refine (heldLockS_none Ah 0 k _).mono ?_
  rintro e w1 ⟨rfl, rfl⟩
  go_wp2_with fail
  refine (heldWaitS_none Aw 0 k _).mono ?_
  rintro e w1 ⟨rfl, rfl⟩
  go_wp2_with fail
  go_ret
  exact ⟨rfl, HE.out⟩
set_option maxHeartbeats 2000000 in
theorem eqLocks_none (Ah Aw Ah' Aw' : Option Addr) (w : World) :
    Calls Try.prog 42 #[.agg #[.slice Ah 0 0, .slice Aw 0 0], .agg #[.slice Ah' 0 0, .slice Aw' 0 0]] w fun e w' => e = .returned (.bool true) ∧ Ext w w' := by
  have HE := Lib.hid (show Ext w ((w.alloc (.cells #[.slice Ah 0 0, .slice Aw 0 0] 57)).alloc (.cells #[.slice Ah' 0 0, .slice Aw' 0 0] 57)) from (by repeat (first | exact Ext.refl _ | assumption | refine Ext.alloc ?_ _ | refine Ext.drewN ?_ _ | refine Ext.drew ?_ | refine Ext.set ?_ (by dsimp only; omega) _ | refine Ext.trans ?_ (by assumption))))
  obtain ⟨p0, p1⟩ := ((Blk.new w 57 [.slice Ah 0 0, .slice Aw 0 0]).alloc (.cells #[.slice Ah' 0 0, .slice Aw' 0 0] 57)).cells2
  have hB2 := Blk.new (w.alloc (.cells #[.slice Ah 0 0, .slice Aw 0 0] 57)) 57 [.slice Ah' 0 0, .slice Aw' 0 0]
  rw [World.size_alloc] at hB2
  obtain ⟨q0, q1⟩ := hB2.cells2
  clear hB2
  go_enter Try.func42, Try.ntmps42
  go_wp2_with fail
  refine (eqLockS_none Ah Ah' 0 0 _).mono ?_
  rintro e w1 ⟨rfl, rfl⟩
  go_wp2_with fail
  refine (eqWaitS_none Aw Aw' 0 0 _).mono ?_
  rintro e w1 ⟨rfl, rfl⟩
  go_wp2_with fail
  go_ret
  exact ⟨rfl, HE.out⟩
set_option maxHeartbeats 4000000 in
theorem eqEngine_bare (v v' : Value) (Ac Ak Al Af At Ah Aw Ac' Ak' Al' Af' At' Ah' Aw' : Option Addr) (l : List ByteArray) (w : World) (hn : l.length ≤ 1099511627776) (h : StS w v l) (h' : StS w v' l) :
    Calls Try.prog 35 #[.agg #[v, .slice Ac 0 0, .bool false, .slice Ak 0 0, .int .i64 1, .slice Al 0 0, .int .i64 0, .slice Af 0 0, .int .i64 0, .bool true, .slice At 0 0, .slice Ah 0 0, .slice Aw 0 0, .int .i64 1], .agg #[v', .slice Ac' 0 0, .bool false, .slice Ak' 0 0, .int .i64 1, .slice Al' 0 0, .int .i64 0, .slice Af' 0 0, .int .i64 0, .bool true, .slice At' 0 0, .slice Ah' 0 0, .slice Aw' 0 0, .int .i64 1]] w fun e w' => e = .returned (.bool true) ∧ Ext w w' := by
  have E0 : Ext w ((w.alloc (.cells #[v, .slice Ac 0 0, .bool false, .slice Ak 0 0, .int .i64 1, .slice Al 0 0, .int .i64 0, .slice Af 0 0, .int .i64 0, .bool true, .slice At 0 0, .slice Ah 0 0, .slice Aw 0 0, .int .i64 1] 59)).alloc (.cells #[v', .slice Ac' 0 0, .bool false, .slice Ak' 0 0, .int .i64 1, .slice Al' 0 0, .int .i64 0, .slice Af' 0 0, .int .i64 0, .bool true, .slice At' 0 0, .slice Ah' 0 0, .slice Aw' 0 0, .int .i64 1] 59)) := (by repeat (first | exact Ext.refl _ | assumption | refine Ext.alloc ?_ _ | refine Ext.drewN ?_ _ | refine Ext.drew ?_ | refine Ext.set ?_ (by dsimp only; omega) _ | refine Ext.trans ?_ (by assumption)))
  have HS := Lib.hid (eqStore_bare v v' Ac Ak Al Af Ac' Ak' Al' Af' l _ hn (h.ext E0) (h'.ext E0))
  have hB2 := Blk.new (w.alloc (.cells #[v, .slice Ac 0 0, .bool false, .slice Ak 0 0, .int .i64 1, .slice Al 0 0, .int .i64 0, .slice Af 0 0, .int .i64 0, .bool true, .slice At 0 0, .slice Ah 0 0, .slice Aw 0 0, .int .i64 1] 59)) 59 [v', .slice Ac' 0 0, .bool false, .slice Ak' 0 0, .int .i64 1, .slice Al' 0 0, .int .i64 0, .slice Af' 0 0, .int .i64 0, .bool true, .slice At' 0 0, .slice Ah' 0 0, .slice Aw' 0 0, .int .i64 1]
  rw [World.size_alloc] at hB2
  have HB1 := Lib.hid ((Blk.new w 59 [v, .slice Ac 0 0, .bool false, .slice Ak 0 0, .int .i64 1, .slice Al 0 0, .int .i64 0, .slice Af 0 0, .int .i64 0, .bool true, .slice At 0 0, .slice Ah 0 0, .slice Aw 0 0, .int .i64 1]).alloc (.cells #[v', .slice Ac' 0 0, .bool false, .slice Ak' 0 0, .int .i64 1, .slice Al' 0 0, .int .i64 0, .slice Af' 0 0, .int .i64 0, .bool true, .slice At' 0 0, .slice Ah' 0 0, .slice Aw' 0 0, .int .i64 1] 59))
  have HB2 := Lib.hid hB2
  have HE := Lib.hid E0
  clear h h' E0 hB2
  obtain ⟨p0, p1, p2, p3, p4, p5, p6, p7, p8, p9, p10, p11, p12, p13⟩ := HB1.out.cells14
  obtain ⟨q0, q1, q2, q3, q4, q5, q6, q7, q8, q9, q10, q11, q12, q13⟩ := HB2.out.cells14
  go_enter Try.func35, Try.ntmps35
  go_wp2_with fail
  refine HS.out.mono ?_
  rintro e w1 ⟨rfl, E1⟩
  clear p0 p1 p2 p3 p4 p5 p6 p7 p8 p9 p10 p11 p12 p13 q0 q1 q2 q3 q4 q5 q6 q7 q8 q9 q10 q11 q12 q13
  have HE1 := Lib.hid (HE.out.trans E1)
  have HC1 := Lib.hid (HB1.out.ext E1)
  have HC2 := Lib.hid (HB2.out.ext E1)
  obtain ⟨p0, p1, p2, p3, p4, p5, p6, p7, p8, p9, p10, p11, p12, p13⟩ := HC1.out.cells14
  obtain ⟨q0, q1, q2, q3, q4, q5, q6, q7, q8, q9, q10, q11, q12, q13⟩ := HC2.out.cells14
  clear E1 HE HB1 HB2
  go_wp2_with fail
  refine (eqTxS_none At At' 0 0 w1).mono ?_
  rintro e w2 ⟨rfl, rfl⟩
  go_wp2_with fail
  refine (eqLocks_none Ah Aw Ah' Aw' w1).mono ?_
  rintro e w2 ⟨rfl, E2⟩
  clear p0 p1 p2 p3 p4 p5 p6 p7 p8 p9 p10 p11 p12 p13 q0 q1 q2 q3 q4 q5 q6 q7 q8 q9 q10 q11 q12 q13
  obtain ⟨p0, p1, p2, p3, p4, p5, p6, p7, p8, p9, p10, p11, p12, p13⟩ := (HC1.out.ext E2).cells14
  obtain ⟨q0, q1, q2, q3, q4, q5, q6, q7, q8, q9, q10, q11, q12, q13⟩ := (HC2.out.ext E2).cells14
  go_wp2_with fail
  go_ret
  exact ⟨rfl, HE1.out.trans E2⟩
set_option maxHeartbeats 4000000 in
theorem markEngine_bare (B : Nat) (v : Value) (Ac Ak Al Af At Ah Aw : Option Addr) (l : List ByteArray) (w : World) (hn : l.length ≤ 100) (ho : w.ownsRow B 9 1 v l.length (l.map fun c => Value.string c)) :
    Calls Try.prog 36 #[.agg #[v, .slice Ac 0 0, .bool false, .slice Ak 0 0, .int .i64 1, .slice Al 0 0, .int .i64 0, .slice Af 0 0, .int .i64 0, .bool true, .slice At 0 0, .slice Ah 0 0, .slice Aw 0 0, .int .i64 1], .int .i64 1] w fun e w' => e = .returned (.int .i64 (1 + l.length)) ∧ w'.ownsRow B 9 1 v l.length ((marks 1 l.length).map fun c => Value.string c) ∧ w.grownBy w' v.ownBlock := by
  have E0 : Ext w (w.alloc (.cells #[v, .slice Ac 0 0, .bool false, .slice Ak 0 0, .int .i64 1, .slice Al 0 0, .int .i64 0, .slice Af 0 0, .int .i64 0, .bool true, .slice At 0 0, .slice Ah 0 0, .slice Aw 0 0, .int .i64 1] 59)) := (by repeat (first | exact Ext.refl _ | assumption | refine Ext.alloc ?_ _ | refine Ext.drewN ?_ _ | refine Ext.drew ?_ | refine Ext.set ?_ (by dsimp only; omega) _ | refine Ext.trans ?_ (by assumption)))
  have HM := Lib.hid (markStore_bare B v Ac Ak Al Af l _ hn (own_ext ho E0))
  have HB := Lib.hid (Blk.new w 59 [v, .slice Ac 0 0, .bool false, .slice Ak 0 0, .int .i64 1, .slice Al 0 0, .int .i64 0, .slice Af 0 0, .int .i64 0, .bool true, .slice At 0 0, .slice Ah 0 0, .slice Aw 0 0, .int .i64 1])
  have hap := own_apart (own_ext ho E0) HB.out (by decide)
  have HE := Lib.hid E0
  obtain ⟨A, cap, rfl⟩ := own_slice ho
  clear ho E0
  obtain ⟨p0, p1, p2, p3, p4, p5, p6, p7, p8, p9, p10, p11, p12, p13⟩ := HB.out.cells14
  go_enter Try.func36, Try.ntmps36
  go_wp2_with fail
  refine HM.out.mono ?_
  rintro e w1 ⟨rfl, O1, G1⟩
  have HB1 := Lib.hid (show Blk w1 w.heap.size 59 [.slice A l.length cap, .slice Ac 0 0, .bool false, .slice Ak 0 0, .int .i64 1, .slice Al 0 0, .int .i64 0, .slice Af 0 0, .int .i64 0, .bool true, .slice At 0 0, .slice Ah 0 0, .slice Aw 0 0, .int .i64 1] from (G1.block _ HB.out.lt hap).trans HB.out)
  clear p0 p1 p2 p3 p4 p5 p6 p7 p8 p9 p10 p11 p12 p13
  obtain ⟨p0, p1, p2, p3, p4, p5, p6, p7, p8, p9, p10, p11, p12, p13⟩ := HB1.out.cells14
  have HO1 := Lib.hid O1
  have HG1 := Lib.hid (grown_preR HE.out G1)
  clear O1 G1 HM HB
  go_wp2_with fail
  refine (markTxS_none At 0 _ w1).mono ?_
  rintro e w2 ⟨rfl, rfl⟩
  go_wp2_with fail
  refine (markLocks_none Ah Aw _ w1 (by omega)).mono ?_
  rintro e w2 ⟨rfl, E2⟩
  go_wp2_with fail
  go_ret
  exact ⟨rfl, own_ext HO1.out E2, grown_postE HG1.out E2⟩
set_option maxHeartbeats 4000000 in
theorem heldEngine_bare (A Ac Ak Al Af At Ah Aw : Option Addr) (n cp : Nat) (w : World) (hn : n ≤ 100) (hr : Rd w A ((marks 1 n).map fun c => Value.string c)) :
    Calls Try.prog 37 #[.agg #[.slice A n cp, .slice Ac 0 0, .bool false, .slice Ak 0 0, .int .i64 1, .slice Al 0 0, .int .i64 0, .slice Af 0 0, .int .i64 0, .bool true, .slice At 0 0, .slice Ah 0 0, .slice Aw 0 0, .int .i64 1], .int .i64 1] w fun e w' => e = .returned (.int .i64 (1 + n)) ∧ Ext w w' := by
  have E0 : Ext w (w.alloc (.cells #[.slice A n cp, .slice Ac 0 0, .bool false, .slice Ak 0 0, .int .i64 1, .slice Al 0 0, .int .i64 0, .slice Af 0 0, .int .i64 0, .bool true, .slice At 0 0, .slice Ah 0 0, .slice Aw 0 0, .int .i64 1] 59)) := (by repeat (first | exact Ext.refl _ | assumption | refine Ext.alloc ?_ _ | refine Ext.drewN ?_ _ | refine Ext.drew ?_ | refine Ext.set ?_ (by dsimp only; omega) _ | refine Ext.trans ?_ (by assumption)))
  have HM := Lib.hid (heldStore_bare A Ac Ak Al Af n cp _ hn (hr.ext E0))
  have HB := Lib.hid (Blk.new w 59 [.slice A n cp, .slice Ac 0 0, .bool false, .slice Ak 0 0, .int .i64 1, .slice Al 0 0, .int .i64 0, .slice Af 0 0, .int .i64 0, .bool true, .slice At 0 0, .slice Ah 0 0, .slice Aw 0 0, .int .i64 1])
  have HE := Lib.hid E0
  have d : decide ((1 : Int) + (n : Int) < 0) = false := decide_eq_false (by omega)
  clear hr E0
  obtain ⟨p0, p1, p2, p3, p4, p5, p6, p7, p8, p9, p10, p11, p12, p13⟩ := HB.out.cells14
  go_enter Try.func37, Try.ntmps37
  go_wp2_with fail
  refine HM.out.mono ?_
  rintro e w1 ⟨rfl, E1⟩
  clear p0 p1 p2 p3 p4 p5 p6 p7 p8 p9 p10 p11 p12 p13
  obtain ⟨p0, p1, p2, p3, p4, p5, p6, p7, p8, p9, p10, p11, p12, p13⟩ := (HB.out.ext E1).cells14
  go_wp2_with fail
  refine (heldTxS_none At 0 _ w1).mono ?_
  rintro e w2 ⟨rfl, rfl⟩
  go_wp2_with fail
  refine (heldLocks_none Ah Aw _ w1 (by omega)).mono ?_
  rintro e w2 ⟨rfl, E2⟩
  go_wp2_with fail
  go_ret
  exact ⟨rfl, HE.out.trans (E1.trans E2)⟩
set_option maxHeartbeats 4000000 in
theorem impl_NewEngine (w : World) : Calls Try.prog 34 #[] w (EnPost w 9 stL) := by
  have HX := Lib.hid (Blk.new w 59 [.slice none 0 0, .slice none 0 0, .bool false, .slice none 0 0, .int .i64 0, .slice none 0 0, .int .i64 0, .slice none 0 0, .int .i64 0, .bool false, .slice none 0 0, .slice none 0 0, .slice none 0 0, .int .i64 0])
  have HE0 := Lib.hid (show Ext w (w.alloc (.cells #[.slice none 0 0, .slice none 0 0, .bool false, .slice none 0 0, .int .i64 0, .slice none 0 0, .int .i64 0, .slice none 0 0, .int .i64 0, .bool false, .slice none 0 0, .slice none 0 0, .slice none 0 0, .int .i64 0] 59)) from (by repeat (first | exact Ext.refl _ | assumption | refine Ext.alloc ?_ _ | refine Ext.drewN ?_ _ | refine Ext.drew ?_ | refine Ext.set ?_ (by dsimp only; omega) _ | refine Ext.trans ?_ (by assumption))))
  go_enter Try.func34, Try.ntmps34
  go_wp2_with fail
  refine (impl_NewStore _).mono ?_
  rintro e w1 ⟨v, Ac, Ak, Al, Af, rfl, O1, E1⟩
  obtain ⟨A1, cap1, rfl⟩ := own_slice O1
  have HE1 := Lib.hid (HE0.out.trans E1)
  have HX1 := Lib.hid (HX.out.ext E1)
  have HO1 := Lib.hid O1
  have hlt : w.heap.size < w1.heap.size := HX1.out.lt
  clear E1 O1 HX HE0
  have HX6 := HX1
  obtain ⟨r0, r1, r2, r3, r4, r5, r6, r7, r8, r9, r10, r11, r12, r13⟩ := HX6.out.cells14
  have f0 := HX6.out.frozen 0
  have f1 := HX6.out.frozen 1
  have f2 := HX6.out.frozen 2
  have f3 := HX6.out.frozen 3
  have f4 := HX6.out.frozen 4
  have f5 := HX6.out.frozen 5
  have f6 := HX6.out.frozen 6
  have f7 := HX6.out.frozen 7
  have f8 := HX6.out.frozen 8
  have f9 := HX6.out.frozen 9
  have f10 := HX6.out.frozen 10
  have f11 := HX6.out.frozen 11
  have f12 := HX6.out.frozen 12
  have f13 := HX6.out.frozen 13
  go_wp2_with fail
  refine bodyPost_ret (v := .agg #[.slice A1 stL.length cap1, .slice Ac 0 0, .bool false, .slice Ak 0 0, .int .i64 1, .slice Al 0 0, .int .i64 0, .slice Af 0 0, .int .i64 0, .bool true, .slice none 0 0, .slice none 0 0, .slice none 0 0, .int .i64 1]) (by simp [results, Try.results34, go_sem, r0, r1, r2, r3, r4, r5, r6, r7, r8, r9, r10, r11, r12, r13]; try rfl) rfl ?_
  refine ⟨_, Ac, Ak, Al, Af, _, _, _, rfl, ?_, ?_⟩
  · have hO := HO1.out
    rw [World.size_alloc] at hO
    exact own_base (B := w.heap.size) (own_setR (own_setR (own_setR (own_setR (own_setR (own_setR (own_setR (own_setR (own_setR (own_setR (own_setR (own_setR (own_setR (own_setR (own_base (B := w.heap.size + 1) hO (Nat.le_refl _)) (by first | omega | (rw [World.size_alloc]; omega))) (by first | omega | (rw [World.size_alloc]; omega))) (by first | omega | (rw [World.size_alloc]; omega))) (by first | omega | (rw [World.size_alloc]; omega))) (by first | omega | (rw [World.size_alloc]; omega))) (by first | omega | (rw [World.size_alloc]; omega))) (by first | omega | (rw [World.size_alloc]; omega))) (by first | omega | (rw [World.size_alloc]; omega))) (by first | omega | (rw [World.size_alloc]; omega))) (by first | omega | (rw [World.size_alloc]; omega))) (by first | omega | (rw [World.size_alloc]; omega))) (by first | omega | (rw [World.size_alloc]; omega))) (by first | omega | (rw [World.size_alloc]; omega))) (by first | omega | (rw [World.size_alloc]; omega))) (by omega)
  · exact (Ext.set (Ext.set (Ext.set (Ext.set (Ext.set (Ext.set (Ext.set (Ext.set (Ext.set (Ext.set (Ext.set (Ext.set (Ext.set (Ext.set HE1.out (Nat.le_refl _) _) (Nat.le_refl _) _) (Nat.le_refl _) _) (Nat.le_refl _) _) (Nat.le_refl _) _) (Nat.le_refl _) _) (Nat.le_refl _) _) (Nat.le_refl _) _) (Nat.le_refl _) _) (Nat.le_refl _) _) (Nat.le_refl _) _) (Nat.le_refl _) _) (Nat.le_refl _) _) (Nat.le_refl _) _)
set_option maxHeartbeats 4000000 in
theorem spec_NewEngine (w : World) : Calls Try.prog 33 #[] w (EnPost w 9 stL) := by
  have HX := Lib.hid (Blk.new w 59 [.slice none 0 0, .slice none 0 0, .bool false, .slice none 0 0, .int .i64 0, .slice none 0 0, .int .i64 0, .slice none 0 0, .int .i64 0, .bool false, .slice none 0 0, .slice none 0 0, .slice none 0 0, .int .i64 0])
  have HE0 := Lib.hid (show Ext w (w.alloc (.cells #[.slice none 0 0, .slice none 0 0, .bool false, .slice none 0 0, .int .i64 0, .slice none 0 0, .int .i64 0, .slice none 0 0, .int .i64 0, .bool false, .slice none 0 0, .slice none 0 0, .slice none 0 0, .int .i64 0] 59)) from (by repeat (first | exact Ext.refl _ | assumption | refine Ext.alloc ?_ _ | refine Ext.drewN ?_ _ | refine Ext.drew ?_ | refine Ext.set ?_ (by dsimp only; omega) _ | refine Ext.trans ?_ (by assumption))))
  go_enter Try.func33, Try.ntmps33
  go_wp2_with fail
  refine (spec_NewStore _).mono ?_
  rintro e w1 ⟨v, Ac, Ak, Al, Af, rfl, O1, E1⟩
  obtain ⟨A1, cap1, rfl⟩ := own_slice O1
  have HE1 := Lib.hid (HE0.out.trans E1)
  have HX1 := Lib.hid (HX.out.ext E1)
  have HO1 := Lib.hid O1
  have hlt : w.heap.size < w1.heap.size := HX1.out.lt
  clear E1 O1 HX HE0
  have E6 : Ext w1 (((w1.alloc (.cells #[] 181)).alloc (.cells #[] 125)).alloc (.cells #[] 128)) := (by repeat (first | exact Ext.refl _ | assumption | refine Ext.alloc ?_ _ | refine Ext.drewN ?_ _ | refine Ext.drew ?_ | refine Ext.set ?_ (by dsimp only; omega) _ | refine Ext.trans ?_ (by assumption)))
  have HX6 := Lib.hid (HX1.out.ext E6)
  obtain ⟨r0, r1, r2, r3, r4, r5, r6, r7, r8, r9, r10, r11, r12, r13⟩ := HX6.out.cells14
  have f0 := HX6.out.frozen 0
  have f1 := HX6.out.frozen 1
  have f2 := HX6.out.frozen 2
  have f3 := HX6.out.frozen 3
  have f4 := HX6.out.frozen 4
  have f5 := HX6.out.frozen 5
  have f6 := HX6.out.frozen 6
  have f7 := HX6.out.frozen 7
  have f8 := HX6.out.frozen 8
  have f9 := HX6.out.frozen 9
  have f10 := HX6.out.frozen 10
  have f11 := HX6.out.frozen 11
  have f12 := HX6.out.frozen 12
  have f13 := HX6.out.frozen 13
  go_wp2_with fail
  refine bodyPost_ret (v := .agg #[.slice A1 stL.length cap1, .slice Ac 0 0, .bool false, .slice Ak 0 0, .int .i64 1, .slice Al 0 0, .int .i64 0, .slice Af 0 0, .int .i64 0, .bool true, .slice (some ⟨w1.heap.size, 0, none⟩) 0 0, .slice (some ⟨w1.heap.size + 1, 0, none⟩) 0 0, .slice (some ⟨w1.heap.size + 2, 0, none⟩) 0 0, .int .i64 1]) (by simp [results, Try.results33, go_sem, r0, r1, r2, r3, r4, r5, r6, r7, r8, r9, r10, r11, r12, r13]; try rfl) rfl ?_
  refine ⟨_, Ac, Ak, Al, Af, _, _, _, rfl, ?_, ?_⟩
  · have hO := HO1.out
    rw [World.size_alloc] at hO
    exact own_base (B := w.heap.size) (own_setR (own_setR (own_setR (own_setR (own_setR (own_setR (own_setR (own_setR (own_setR (own_setR (own_setR (own_setR (own_setR (own_setR (own_ext (own_base (B := w.heap.size + 1) hO (Nat.le_refl _)) E6) (by first | omega | (rw [World.size_alloc]; omega))) (by first | omega | (rw [World.size_alloc]; omega))) (by first | omega | (rw [World.size_alloc]; omega))) (by first | omega | (rw [World.size_alloc]; omega))) (by first | omega | (rw [World.size_alloc]; omega))) (by first | omega | (rw [World.size_alloc]; omega))) (by first | omega | (rw [World.size_alloc]; omega))) (by first | omega | (rw [World.size_alloc]; omega))) (by first | omega | (rw [World.size_alloc]; omega))) (by first | omega | (rw [World.size_alloc]; omega))) (by first | omega | (rw [World.size_alloc]; omega))) (by first | omega | (rw [World.size_alloc]; omega))) (by first | omega | (rw [World.size_alloc]; omega))) (by first | omega | (rw [World.size_alloc]; omega))) (by omega)
  · exact (Ext.set (Ext.set (Ext.set (Ext.set (Ext.set (Ext.set (Ext.set (Ext.set (Ext.set (Ext.set (Ext.set (Ext.set (Ext.set (Ext.set (HE1.out.trans E6) (Nat.le_refl _) _) (Nat.le_refl _) _) (Nat.le_refl _) _) (Nat.le_refl _) _) (Nat.le_refl _) _) (Nat.le_refl _) _) (Nat.le_refl _) _) (Nat.le_refl _) _) (Nat.le_refl _) _) (Nat.le_refl _) _) (Nat.le_refl _) _) (Nat.le_refl _) _) (Nat.le_refl _) _) (Nat.le_refl _) _)
end Go.Proofs.Ytnbfjkebakaigaa
