/- The walk of the reference's ReadKey. -/
import Derived.Test.YthfkfdfcgldbeaaKeyR4
namespace Go.Proofs.Ythfkfdfcgldbeaa
open Go.RowKit Go.Deep
set_option linter.unusedVariables false
set_option maxRecDepth 100000
set_option maxHeartbeats 2000000 in
theorem spec_ReadKey (A : Option Addr) (n cp : Nat) (l : List UInt8) (w : World) (hl : l.length = n) (hr : Rd w A (l.map fun c => Value.int .u8 (c.toNat : Int))) :
    Calls Try.prog 25 #[.slice A n cp] w (RkPost w 30 l) := by
  have hnew : ∀ W : World, Ext w W → (W.alloc (.cells #[] 30)).ownsRow w.heap.size 30 3 (.slice (some ⟨W.heap.size, 0, none⟩) 0 0) 0 [] := fun W E => World.ownsRow_lit (base := w.heap.size) (e := 30) (size := 3) W #[] 0 E.le (by unfold maxLen; omega) rfl
  by_cases h1 : 65536 < n
  · have HV := Lib.hid (rk_long (l := l) (by omega))
    have h1I : (65536 : Int) < (n : Int) := by omega
    clear hl hr
    go_enter Try.func25, Try.ntmps25
    go_wp2_with fail
    go_ret2
    exact .no HV.out (hnew _ (Ext.refl _)) (by repeat (first | exact Ext.refl _ | assumption | refine Ext.alloc ?_ _ | refine Ext.drewN ?_ _ | refine Ext.drew ?_ | refine Ext.set ?_ (by dsimp only; omega) _ | refine Ext.trans ?_ (by assumption)))
  have h1I : ¬ (65536 : Int) < (n : Int) := by omega
  have h1' : ¬ 65536 < l.length := by omega
  have hcv := run_text (P := Try.prog) (src := 27) (dst := 9) Try.underlying27 Try.underlying5 Try.underlying9 w A n cp l hl hr
  have hE := spec_l01ReadKey (⟨l.toArray⟩ : ByteArray) w (by show l.toArray.size ≤ 65536; simp; omega)
  have e2 : (⟨l.toArray⟩ : ByteArray).data.toList = l := by simp
  rw [e2] at hE
  generalize (⟨l.toArray⟩ : ByteArray) = s at hcv hE
  clear e2 h1
  unfold K1Post at hE
  rcases ho : keyO l with _ | o
  · have HV := Lib.hid (rk_none h1' ho)
    rw [ho] at hE
    have HE := Lib.hid hE
    clear hl hE h1' hr ho
    go_enter Try.func25, Try.ntmps25
    go_wp2_with fail
    refine (HE.out).mono ?_
    rintro e w1 ⟨v, rfl, O1, E1⟩
    clear O1
    go_wp2_with fail
    go_ret2
    exact .no HV.out (hnew _ E1) (E1.alloc _)
  rw [ho] at hE
  have HE := Lib.hid hE
  by_cases h4 : 4096 < o.length
  · have HV := Lib.hid (rk_many h1' ho h4)
    have h4I : (4096 : Int) < (o.length : Int) := by omega
    clear hl hE h1' hr ho
    go_enter Try.func25, Try.ntmps25
    go_wp2_with fail
    refine (HE.out).mono ?_
    rintro e w1 ⟨v, rfl, O1, E1⟩
    have O1 : w1.ownsRow w.heap.size 30 3 v o.length (o.flatMap CValue.cs) := O1
    obtain ⟨A1, cap1, rfl⟩ := own_sliceN O1
    clear O1
    go_wp2_with fail
    go_ret2
    exact .no HV.out (hnew _ E1) (E1.alloc _)
  · have HV := Lib.hid (rk_some h1' ho h4)
    have h4I : ¬ (4096 : Int) < (o.length : Int) := by omega
    clear hl hE h1' hr ho
    go_enter Try.func25, Try.ntmps25
    go_wp2_with fail
    refine (HE.out).mono ?_
    rintro e w1 ⟨v, rfl, O1, E1⟩
    have HO : Hid (w1.ownsRow w.heap.size 30 3 v o.length (o.flatMap CValue.cs)) := Lib.hid O1
    obtain ⟨A1, cap1, rfl⟩ := own_sliceN HO.out
    clear O1
    go_wp2_with fail
    go_ret2
    exact .yes HV.out HO.out E1
end Go.Proofs.Ythfkfdfcgldbeaa
