/- What is answered, nothing changed: all draws counted. -/
import Derived.Test.YtepaojbhjgefiaaGreatDoorYEff
import Derived.Test.YtepaojbhjgefiaaGreatDoorC2
set_option linter.unusedVariables false
set_option linter.unusedSimpArgs false
namespace Go.Gx.Gy
/-- What a call of no effect hands back. -/
def Ret0 (v : Value) (w : World) : Ending → World → Prop := fun e w' => e = .returned v ∧ Step [] [] w w'
theorem Step.callE {S : List Nat} {L : List (Nat × Obj)} {w w' w'' : World} (h : Step S L w w') (hc : Step [] [] w' w'') : Step S L w w'' := h.call0 hc
end Go.Gx.Gy
