/- The walks of the laws' helpers over trees: the whole tree. -/
import Derived.Test.YtnbfjkebakaigaaTreeC
namespace Go.Proofs.Ytnbfjkebakaigaa
open Go.RowKit Go.Deep
set_option linter.unusedVariables false
set_option maxRecDepth 100000
theorem XOwn.base {w : World} {TS TI : TypeId} {B B' : Nat} {x : XNode} (h : XOwn w TS TI B x) (hb : B' ≤ B) : XOwn w TS TI B' x := ⟨h.hk, h.hi, Nat.le_trans hb h.bk, Nat.le_trans hb h.bi, h.Bk, h.Bi⟩
/-- nodes that are not too many -/
def XSm (l : List XNode) : Prop := ∀ x ∈ l, x.ks.length ≤ 1099511627776 ∧ x.ds.length ≤ 1099511627776
theorem xTot_len (l : List XNode) : l.length ≤ xTot l := by
  unfold xTot
  induction l with
  | nil => simp
  | cons x r ih => simp only [List.map_cons, List.sum_cons, List.length_cons]; omega
theorem xTot_mem {l : List XNode} {x : XNode} (h : x ∈ l) : x.ks.length + x.ds.length ≤ xTot l := by
  unfold xTot
  induction l with
  | nil => cases h
  | cons y r ih =>
    simp only [List.map_cons, List.sum_cons]
    rcases List.mem_cons.1 h with rfl | h
    · omega
    · have := ih h; omega
theorem XSm.of {l : List XNode} (h : xTot l ≤ 1099511627776) : XSm l := fun x hx => by have := xTot_mem hx; omega
theorem XSm.same {l l' : List XNode} (h : XSm l) (e : l'.map XNode.c = l.map XNode.c) : XSm l' := fun x hx => by
  have h1 : x.c ∈ l.map XNode.c := by rw [← e]; exact List.mem_map.2 ⟨x, hx, rfl⟩
  obtain ⟨y, hy, hyx⟩ := List.mem_map.1 h1
  obtain ⟨_, e2, e3⟩ := XNode.c_eq hyx
  rw [← e2, ← e3]
  exact h y hy
/-- a tree in memory of its own -/
def FreshTree (w : World) (TN TS TI : TypeId) (root : Int) (n : Nat) (l : List XNode) (e : Ending) (w' : World) : Prop :=
  ∃ (bn : Nat) (l' : List XNode), e = .returned (.agg #[.int .i64 root, .slice (some ⟨bn, 0, none⟩) n n]) ∧ w.heap.size ≤ bn ∧ Blk w' bn TN (l'.flatMap XNode.cs) ∧ l'.map XNode.c = l.map XNode.c ∧ (∀ x ∈ l', XOwn w' TS TI w.heap.size x) ∧ l'.Pairwise XLt ∧ Ext w w'
theorem NsR.own {w : World} {TN TS TI : TypeId} {B bn : Nat} {l : List XNode} (h : Blk w bn TN (l.flatMap XNode.cs)) (ho : ∀ x ∈ l, XOwn w TS TI B x) : NsR w (some ⟨bn, 0, none⟩) l := ⟨h.rd, fun x hx => (ho x hx).ok⟩
theorem szTree_t (root : Int) (An : Option Addr) (nn pn : Nat) (l : List XNode) (left : Int) (w : World) (hl : l.length = nn) (hn : nn ≤ 9223372036854775807) (h0 : 0 ≤ left) (h1 : left ≤ 1048576) (hx : ∀ x ∈ l, (∀ s ∈ x.ks, s.size ≤ maxLen) ∧ x.ks.length ≤ maxLen ∧ x.ds.length ≤ maxLen) (hr : NsR w An l) :
    Calls Try.prog 53 #[.agg #[.int .i64 root, .slice An nn pn], .int .i64 left] w (SzT w left (xTot l)) := by
  have HL := Lib.hid hl
  have HX := Lib.hid hx
  have HR := Lib.hid hr
  have HB := Lib.hid (Blk.new w 84 [.int .i64 root, .slice An nn pn])
  clear hl hx hr
  go_enter Try.func53, Try.ntmps53
  go_wp2_with fail
  refine (szTreeNodeS_t An nn pn l left _ HL.out hn (by omega) (by omega) HX.out (HR.out.ext (by repeat (first | exact Ext.refl _ | assumption | refine Ext.alloc ?_ _ | refine Ext.drewN ?_ _ | refine Ext.drew ?_ | refine Ext.set ?_ (by dsimp only; omega) _ | refine Ext.trans ?_ (by assumption))))).mono ?_
  rintro e w0 ⟨v0, rfl, g0, i0, hG0, E0⟩
  by_cases hv0 : v0 < 0
  · go_wp2_with fail
    go_ret
    exact ⟨-1, rfl, by omega, by omega, fun h => by omega, (by repeat (first | exact Ext.refl _ | assumption | refine Ext.alloc ?_ _ | refine Ext.drewN ?_ _ | refine Ext.drew ?_ | refine Ext.set ?_ (by dsimp only; omega) _ | refine Ext.trans ?_ (by assumption)))⟩
  have hG1 := hG0 (by omega)
  clear hG0
  go_wp2_with fail
  go_ret
  exact ⟨v0, rfl, by omega, by omega, fun _ => hG1, (by repeat (first | exact Ext.refl _ | assumption | refine Ext.alloc ?_ _ | refine Ext.drewN ?_ _ | refine Ext.drew ?_ | refine Ext.set ?_ (by dsimp only; omega) _ | refine Ext.trans ?_ (by assumption)))⟩
set_option maxHeartbeats 2000000 in
theorem toTree_any (root : Int) (An : Option Addr) (nn pn : Nat) (l : List XNode) (w : World) (hl : l.length = nn) (hn : nn ≤ 1099511627776) (hx : XSm l) (hr : NsR w An l) :
    Calls Try.prog 55 #[.agg #[.int .i64 root, .slice An nn pn]] w (FreshTree w 193 9 3 root nn l) := by
  have HL := Lib.hid hl
  have HX := Lib.hid hx
  clear hl hx
  have HX0 := Lib.hid (((Blk.new w 84 [.int .i64 root, .slice An nn pn]).alloc (.cells #[.int .i64 0, .slice none 0 0] 89)).alloc (.cells #[.int .i64 root, .slice none 0 0] 89))
  have hR := (Blk.new (w.alloc (.cells #[.int .i64 root, .slice An nn pn] 84)) 89 [.int .i64 0, .slice none 0 0]).alloc (.cells #[.int .i64 root, .slice none 0 0] 89)
  rw [World.size_alloc] at hR
  have hO := Blk.new ((w.alloc (.cells #[.int .i64 root, .slice An nn pn] 84)).alloc (.cells #[.int .i64 0, .slice none 0 0] 89)) 89 [.int .i64 root, .slice none 0 0]
  rw [World.size_alloc, World.size_alloc] at hO
  have HE0 := Lib.hid (show Ext w (((w.alloc (.cells #[.int .i64 root, .slice An nn pn] 84)).alloc (.cells #[.int .i64 0, .slice none 0 0] 89)).alloc (.cells #[.int .i64 root, .slice none 0 0] 89)) from (by repeat (first | exact Ext.refl _ | assumption | refine Ext.alloc ?_ _ | refine Ext.drewN ?_ _ | refine Ext.drew ?_ | refine Ext.set ?_ (by dsimp only; omega) _ | refine Ext.trans ?_ (by assumption))))
  have HR0 := Lib.hid hR
  have HO0 := Lib.hid hO
  clear hR hO
  go_enter Try.func55, Try.ntmps55
  go_wp2_with fail
  generalize ((w.alloc (.cells #[.int .i64 root, .slice An nn pn] 84)).alloc (.cells #[.int .i64 0, .slice none 0 0] 89)).alloc (.cells #[.int .i64 root, .slice none 0 0] 89) = y0 at HX0 HR0 HO0 HE0 ⊢
  have HQ := Lib.hid (hr.ext HE0.out)
  refine (toTreeNodeS_any An nn pn l _ HL.out hn HX.out HQ.out).mono ?_
  rintro e w0 ⟨l', rfl, hF, hcc, hown, hpw, E⟩
  have HCC := Lib.hid hcc
  have HPW := Lib.hid hpw
  have HF := Lib.hid hF
  have HOW := Lib.hid hown
  have HG0 := Lib.hid (HE0.out.trans E)
  have hX := HX0.out.ext E
  have hR := HR0.out.ext E
  have hO := HO0.out.ext E
  have hbn : w.heap.size ≤ y0.heap.size := HE0.out.le
  have hcn : w.heap.size + 1 + 1 < y0.heap.size := HO0.out.lt
  clear hF hcc hown hpw
  generalize y0.heap.size = bn at HF HOW hbn hcn ⊢
  obtain ⟨x0, x1⟩ := hX.cells2
  obtain ⟨r0, r1⟩ := hR.cells2
  obtain ⟨o0, o1⟩ := hO.cells2
  have s0 := hO.frozen 0
  have u0 := hR.frozen 0
  have s1 := hO.frozen 1
  have u1 := hR.frozen 1
  clear E
  go_wp2_with fail
  refine bodyPost_ret (v := .agg #[.int .i64 root, .slice (some ⟨bn, 0, none⟩) nn nn]) (by simp [results, Try.results55, go_sem, r0, r1]) rfl ⟨bn, l', rfl, hbn, ?_, HCC.out, ?_, HPW.out, ?_⟩
  · exact (Blk.far (Blk.far (Blk.far HF.out (by dsimp only; omega) _) (by dsimp only; omega) _) (by dsimp only; omega) _)
  · exact fun x hx => ((((HOW.out x hx).far (by dsimp only; omega) _).far (by dsimp only; omega) _).far (by dsimp only; omega) _).base (by omega)
  · exact (Ext.set (Ext.set (Ext.set HG0.out (by dsimp only; omega) _) (by dsimp only; omega) _) (by dsimp only; omega) _)
set_option maxHeartbeats 2000000 in
theorem eqTree_same (root : Int) (An An' : Option Addr) (nn pn pn' : Nat) (l l' : List XNode) (w : World) (hl : l.length = nn) (hll : l.map XNode.c = l'.map XNode.c) (hn : nn ≤ 1099511627776) (hx : XSm l) (hr : NsR w An l) (hr' : NsR w An' l') :
    Calls Try.prog 57 #[.agg #[.int .i64 root, .slice An nn pn], .agg #[.int .i64 root, .slice An' nn pn']] w fun e w' => e = .returned (.bool true) ∧ Ext w w' := by
  have E0 : Ext w ((w.alloc (.cells #[.int .i64 root, .slice An nn pn] 89)).alloc (.cells #[.int .i64 root, .slice An' nn pn'] 89)) := (by repeat (first | exact Ext.refl _ | assumption | refine Ext.alloc ?_ _ | refine Ext.drewN ?_ _ | refine Ext.drew ?_ | refine Ext.set ?_ (by dsimp only; omega) _ | refine Ext.trans ?_ (by assumption)))
  have HZ := Lib.hid (eqTreeNodeS_same An An' nn pn pn' l l' _ hl hll hn hx (hr.ext E0) (hr'.ext E0))
  have HE0 := Lib.hid E0
  clear hl hll hx hr hr' E0
  have har : (root != root) = false := by simp
  go_enter Try.func57, Try.ntmps57
  go_wp2_with fail
  refine HZ.out.mono ?_
  rintro e w1 ⟨rfl, E1⟩
  go_wp2_with fail
  go_ret
  exact ⟨rfl, HE0.out.trans E1⟩
end Go.Proofs.Ytnbfjkebakaigaa
