/- Rows of parts compared, in plain words. No program in sight. -/
import Derived.Test.YtepaojbhjgefiaaGreatDoorC3
import Derived.Test.YtepaojbhjgefiaaGreatDoorC1
set_option linter.unusedVariables false
set_option linter.unusedSimpArgs false
namespace Go.Gx
open Go.Proofs Go.RowKit
def cmpL (a b : List UInt8) : Int := if Op.bytesLess a b = true then -1 else if a = b then 0 else 1
def cmpF : List (List UInt8) → List (List UInt8) → Int
 | [], [] => 0
 | [], _ :: _ => -1
 | _ :: _, [] => 1
 | a :: x, b :: y => if cmpL a b ≠ 0 then cmpL a b else cmpF x y
theorem cmpF_eq (p : List UInt8) (x y : List (List UInt8)) : cmpF (p :: x) (p :: y) = cmpF x y := by
 have h : cmpL p p = 0 := by
  unfold cmpL
  split
  ·rename_i h
   exact absurd ((cmp_lt p p).2 h) (by rw [(cmp_eq0 p p).2 rfl]; decide)
  ·rw [if_pos rfl]
 rw [cmpF, if_neg (by simp [h])]
theorem cmpF_ne {p q : List UInt8} (x y : List (List UInt8)) (h : p ≠ q) : decide (cmpF (p :: x) (q :: y) < 0) = Op.bytesLess p q := by
 rw [cmpF]
 by_cases h1 : Op.bytesLess p q = true
 ·have e : cmpL p q = -1 := by rw [cmpL, if_pos h1]
  rw [e, h1]; rfl
 ·have e : cmpL p q = 1 := by rw [cmpL, if_neg h1, if_neg h]
  rw [e]
  have : Op.bytesLess p q = false := by simpa using h1
  rw [this]; rfl
end Go.Gx
