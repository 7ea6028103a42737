/- The walk of the law FnExactCheck32. -/
import Derived.Test.YtpjpkkninkpllaaCrc
import Derived.Test.YtpjpkkninkpllaaBytes
namespace Go.Proofs.Ytpjpkkninkpllaa
open Go.RowKit Go.Deep
set_option linter.unusedVariables false
set_option maxHeartbeats 1000000 in
theorem walk_FnExactCheck32 (w : World) (A : Option Addr) (n cp : Nat) (l : List UInt8) (hl : l.length = n) (hc : n ≤ cp) (hm : cp ≤ maxLen) (hr : Rd w A (l.map fun c => Value.int .u8 (c.toNat : Int))) :
    Calls Try.prog 7 #[.slice A n cp] w fun e w' => e = .returned (.bool true) ∧ Ext w w' := by
  have HL := Lib.hid hl
  clear hl
  unfold maxLen at hm
  by_cases hbig : (1048576 : Int) < (n : Int)
  · go_enter Try.func7, Try.ntmps7
    go_wp2_with fail
    go_ret
    exact ⟨rfl, Ext.refl _⟩
  · have hn : n ≤ 1099511627776 := by omega
    go_enter Try.func7, Try.ntmps7
    go_wp2_with fail
    refine (toByteS_any A n cp l w HL.out hn hr).mono ?_
    rintro e w1 ⟨rfl, B1, -, E1⟩
    go_wp2_with fail
    refine (spec_Check32 _ n n l w1 HL.out hn B1.rd).mono ?_
    rintro e w1' ⟨rfl, rfl⟩
    go_wp2_with fail
    refine (toByteS_any A n cp l w1 HL.out hn (hr.ext E1)).mono ?_
    rintro e w2 ⟨rfl, B2, -, E2⟩
    go_wp2_with fail
    refine (impl_Check32 _ n n l w2 HL.out hn B2.rd).mono ?_
    rintro e w1' ⟨rfl, rfl⟩
    go_wp2_with fail
    refine (toByteS_any A n cp l w2 HL.out hn ((hr.ext E1).ext E2)).mono ?_
    rintro e w3 ⟨rfl, B3, -, E3⟩
    go_wp2_with fail
    refine (eqByteS_same _ _ n n n l w3 HL.out hn (B2.ext E3).rd B3.rd).mono ?_
    rintro e w4 ⟨rfl, E4, -⟩
    go_wp2_with fail
    go_ret
    exact ⟨rfl, ((E1.trans E2).trans E3).trans E4⟩
end Go.Proofs.Ytpjpkkninkpllaa
