/- Words and laws of no program, for any seat: what a call leaves, slices, bytes, order of texts. -/
import Derived.Test.YtepaojbhjgefiaaGreatDoorYNSpec
set_option linter.unusedVariables false
set_option linter.unusedSimpArgs false
namespace Go.Gx.Gy

section
variable {P : Program} {f : Slots} {w : World} {d : Option Tmp} {ty : TypeId} {pos : String} {af : Array Edge} {x y : Operand} {T T' : TypeId} {k k' : IntKind}
end
def rnd (a : Int) (n : Nat) : Nat := (a % (n : Int)).toNat
theorem OwnSl.some1 {E sz k : Nat} {v : Value} {xs : List Value} {Lv : List (Nat × Obj)} (h : OwnSl E sz v k xs Lv) (hk : 0 < k) : ∃ b cap more, v = .slice (some ⟨b, 0, none⟩) k cap ∧ Lv = [(b, blk E (xs ++ more))] ∧ (xs ++ more).length = cap * sz := by
 obtain ⟨hl, ⟨h1, h0, _⟩ | h⟩ := h
 ·omega
 ·exact h
def strs (l : List (List UInt8)) : List Value := l.map str
theorem strs_len (l : List (List UInt8)) : (strs l).length = l.length := by simp [strs]
end Go.Gx.Gy
