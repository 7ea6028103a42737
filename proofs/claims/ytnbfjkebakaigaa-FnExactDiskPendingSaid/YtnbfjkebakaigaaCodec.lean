/- The walks of what builds sealed bytes. -/
import Derived.Test.YtnbfjkebakaigaaCrc
import Derived.Test.YtnbfjkebakaigaaConv
import Derived.Test.YtnbfjkebakaigaaCodecPlain
import Derived.Test.YtnbfjkebakaigaaBytes
import Derived.Deep.RegionWith
namespace Go.Proofs.Ytnbfjkebakaigaa
open Go.RowKit Go.Deep
set_option linter.unusedVariables false
set_option maxRecDepth 100000

/-- what a call owns reads as its cells -/
theorem own_rd {w : World} {B n : Nat} {e : TypeId} {v : Value} {xs : List Value} (h : w.ownsRow B e 1 v n xs) : ∃ A cap, v = .slice A n cap ∧ Rd w A xs ∧ cap ≤ maxLen ∧ n ≤ cap := by
  obtain ⟨hlen, h⟩ := h
  rcases h with ⟨rfl, rfl⟩ | ⟨g, cap, cur, rfl, hb, hh, h1, h2, h3, h4⟩
  · have : xs = [] := by cases xs with
      | nil => rfl
      | cons a r => simp at hlen
    subst this
    exact ⟨none, 0, rfl, Rd.nil _ _, by unfold maxLen; omega, Nat.le_refl _⟩
  · exact ⟨_, cap, rfl, Rd.take_ (t := e) (cs := cur.toList) (n := n) (by simpa [Blk] using hh) (by simpa using h4), h2, h1⟩
theorem own_len {w : World} {B n : Nat} {e : TypeId} {v : Value} {l : List UInt8} (h : w.ownsRow B e 1 v n (l.map fun c => Value.int .u8 (c.toNat : Int))) : l.length = n := by
  have := h.1; simpa using this
/-- a slice that reads as these bytes -/
def Sl (w : World) (v : Value) (l : List UInt8) : Prop := ∃ A cap, v = .slice A l.length cap ∧ Rd w A (l.map fun c => Value.int .u8 (c.toNat : Int))
theorem Sl.own {w : World} {B n : Nat} {e : TypeId} {v : Value} {l : List UInt8} (h : w.ownsRow B e 1 v n (l.map fun c => Value.int .u8 (c.toNat : Int))) : Sl w v l := by
  obtain ⟨A, cap, rfl, hr, _⟩ := own_rd h
  exact ⟨A, cap, by rw [own_len h], hr⟩
theorem Sl.mk' {w : World} {A : Option Addr} {n cap : Nat} {l : List UInt8} (hl : l.length = n) (hr : Rd w A (l.map fun c => Value.int .u8 (c.toNat : Int))) : Sl w (.slice A n cap) l := ⟨A, cap, by rw [hl], hr⟩
theorem Sl.nil' {w : World} {A : Option Addr} {cap : Nat} : Sl w (.slice A 0 cap) [] := ⟨A, cap, rfl, Rd.nil _ _⟩
theorem Sl.ext {w w' : World} {v : Value} {l : List UInt8} (h : Sl w v l) (E : Ext w w') : Sl w' v l := by
  obtain ⟨A, cap, e, hr⟩ := h
  exact ⟨A, cap, e, hr.ext E⟩
theorem four_len (n : Nat) : (four n).length = 4 := rfl
theorem four_cells (n : Nat) (hn : n < 4294967296) : [Value.int IntKind.u8 ((n : Int) / 16777216), Value.int IntKind.u8 ((n : Int) / 65536 % 256), Value.int IntKind.u8 ((n : Int) / 256 % 256), Value.int IntKind.u8 ((n : Int) % 256)] = (four n).map fun c => Value.int .u8 (c.toNat : Int) := by
  simp only [four, List.map_cons, List.map_nil, UInt8.toNat_ofNat']
  have e1 : ((n / 16777216 % 2 ^ 8 : Nat) : Int) = (n : Int) / 16777216 := by omega
  have e2 : ((n / 65536 % 2 ^ 8 : Nat) : Int) = (n : Int) / 65536 % 256 := by omega
  have e3 : ((n / 256 % 2 ^ 8 : Nat) : Int) = (n : Int) / 256 % 256 := by omega
  have e4 : ((n % 2 ^ 8 : Nat) : Int) = (n : Int) % 256 := by omega
  rw [e1, e2, e3, e4]
theorem own_ext {w w' : World} {B n size : Nat} {e : TypeId} {v : Value} {xs : List Value} (h : w.ownsRow B e size v n xs) (E : Ext w w') : w'.ownsRow B e size v n xs := by
  obtain ⟨h1, h2⟩ := h
  refine ⟨h1, ?_⟩
  rcases h2 with h2 | ⟨g, cap, cur, hv, hg, hh, r⟩
  · exact Or.inl h2
  · exact Or.inr ⟨g, cap, cur, hv, hg, (Blk.ext (w := w) (b := g) (cs := cur.toList) (by simpa [Blk] using hh) E), r⟩
theorem rd_add {w : World} {b o : Nat} {xs : List Value} (h : Rd w (some ⟨b, o, none⟩) xs) (j : Nat) (u : Value) (hu : xs[j]? = some u) : w.cell? ((⟨b, o, none⟩ : Addr).add j) = some u := by
  obtain ⟨b', o', e, h⟩ := h (by intro h0; rw [h0] at hu; simp at hu)
  injection e with e
  injection e with e1 e2 _
  subst e1; subst e2
  rw [addr_add]; exact h j u hu
theorem own_blk {w : World} {B n size : Nat} {e : TypeId} {v : Value} {xs : List Value} (h : w.ownsRow B e size v n xs) : ∀ k, v.ownBlock = some k → B ≤ k := by
  obtain ⟨_, h⟩ := h
  rcases h with ⟨rfl, _⟩ | ⟨g, cap, cur, rfl, hb, r⟩
  · intro k hk; cases hk
  · intro k hk; injection hk with hk; have hk : g = k := hk; omega
theorem one_bytes (l : List UInt8) : ∀ u ∈ (l.map fun c => Value.int .u8 (c.toNat : Int)), u.oneCell' = true := by
  intro u hu; simp at hu; obtain ⟨c, _, rfl⟩ := hu; rfl
end Go.Proofs.Ytnbfjkebakaigaa
