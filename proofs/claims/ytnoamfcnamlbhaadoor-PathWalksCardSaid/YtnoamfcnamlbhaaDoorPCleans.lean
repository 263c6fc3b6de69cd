/- PathCleans: the walk, but for known. -/
import Derived.Test.YtnoamfcnamlbhaaDoorPClean6
namespace Go.Gx
open Go.Proofs Go.RowKit
set_option linter.unusedVariables false
set_option linter.unusedSimpArgs false
set_option maxRecDepth 100000

/-- What the laws ask first. -/
def Knows : Prop := ∀ w, Gl w → Calls Tryd.prog 11 #[] w (Ret0 (.bool true) w)

set_option maxHeartbeats 2000000 in
theorem pathCleans_spec {s : List UInt8} (w0 : World) (hk : Knows) (hg : Gl w0) (hs1 : s.length ≤ 9223372036854775807) : Calls Tryd.prog 3 #[str s] w0 (Ret0 (.bool true) w0) := by
  have hs : Step [] [] w0 w0 := Step.refl w0
  refine calls (n := 44) Tryd.func3 rfl rfl rfl ?_
  repeat (first | refine CW.seq ?_ | refine CW.block ?_ | refine CW.skip ?_ | refine CW.label ?_ | refine CW.exit ?_ | refine CW.condT rfl ?_ | refine CW.condF rfl ?_)
  refine CW.reg ?_
  refine WL.val rfl (run_assign) ?_
  refine WL.nil ?_
  repeat (first | refine CW.seq ?_ | refine CW.block ?_ | refine CW.skip ?_ | refine CW.label ?_ | refine CW.exit ?_ | refine CW.condT rfl ?_ | refine CW.condF rfl ?_)
  refine CW.reg ?_
  refine WL.enter rfl (run_call en11 rfl rfl) (hk _ hg) ?_
  rintro e w ⟨rfl, hq⟩
  refine ⟨_, rfl, ?_⟩
  replace hs := hs.callE hq
  first | refine WL.val rfl (run_notB rfl) ?_ | refine WL.val rfl (run_not rfl) ?_
  refine WL.nil ?_
  by_cases hbig : 16777216 < s.length
  · repeat (first | refine CW.seq ?_ | refine CW.block ?_ | refine CW.skip ?_ | refine CW.label ?_ | refine CW.exit ?_ | refine CW.condT rfl ?_ | refine CW.condF rfl ?_)
    refine CW.reg ?_
    refine WL.val rfl (run_move) ?_
    refine WL.val rfl (run_lenStr Tryd.underlying9 rfl) ?_
    refine WL.val rfl (run_bT (run_gtr rfl rfl) (by omega)) ?_
    refine WL.nil ?_
    repeat (first | refine CW.seq ?_ | refine CW.block ?_ | refine CW.skip ?_ | refine CW.label ?_ | refine CW.exit ?_ | refine CW.condT rfl ?_ | refine CW.condF rfl ?_)
    refine CW.reg ?_
    refine WL.val rfl (run_assign) ?_
    refine WL.nil ?_
    repeat (first | refine CW.seq ?_ | refine CW.block ?_ | refine CW.skip ?_ | refine CW.label ?_ | refine CW.exit ?_ | refine CW.condT rfl ?_ | refine CW.condF rfl ?_)
    refine CW.ret ?_
    refine fin_ret1 rfl ?_
    exact ⟨rfl, hs⟩
  · have hobt : ∃ b, isName s = b := ⟨_, rfl⟩
    obtain ⟨bn, hbn⟩ := hobt
    repeat (first | refine CW.seq ?_ | refine CW.block ?_ | refine CW.skip ?_ | refine CW.label ?_ | refine CW.exit ?_ | refine CW.condT rfl ?_ | refine CW.condF rfl ?_)
    refine CW.reg ?_
    refine WL.val rfl (run_move) ?_
    refine WL.val rfl (run_lenStr Tryd.underlying9 rfl) ?_
    refine WL.val rfl (run_bF (run_gtr rfl rfl) (by omega)) ?_
    refine WL.nil ?_
    repeat (first | refine CW.seq ?_ | refine CW.block ?_ | refine CW.skip ?_ | refine CW.label ?_ | refine CW.exit ?_ | refine CW.condT rfl ?_ | refine CW.condF rfl ?_)
    refine CW.reg ?_
    refine WL.val rfl (run_move) ?_
    refine WL.enter rfl (run_call en12 rfl rfl) (clean_spec _ (hg.step hs) hs1) ?_
    rintro e w ⟨rfl, hq⟩
    refine ⟨_, rfl, ?_⟩
    replace hs := hs.callE hq
    refine WL.val rfl (run_move) ?_
    refine WL.val rfl (run_extract rfl rfl) ?_
    refine WL.val rfl (run_extract rfl rfl) ?_
    refine WL.val rfl (run_assign) ?_
    refine WL.val rfl (run_assign) ?_
    refine WL.nil ?_
    repeat (first | refine CW.seq ?_ | refine CW.block ?_ | refine CW.skip ?_ | refine CW.label ?_ | refine CW.exit ?_ | refine CW.condT rfl ?_ | refine CW.condF rfl ?_)
    refine CW.reg ?_
    refine WL.val rfl (run_move) ?_
    refine WL.enter rfl (run_call en13 rfl rfl) (refClean_spec _ hs1) ?_
    rintro e w ⟨rfl, hq⟩
    refine ⟨_, rfl, ?_⟩
    replace hs := hs.callE hq
    refine WL.val rfl (run_move) ?_
    refine WL.val rfl (run_extract rfl rfl) ?_
    refine WL.val rfl (run_extract rfl rfl) ?_
    refine WL.val rfl (run_assign) ?_
    refine WL.val rfl (run_assign) ?_
    refine WL.nil ?_
    repeat (first | refine CW.seq ?_ | refine CW.block ?_ | refine CW.skip ?_ | refine CW.label ?_ | refine CW.exit ?_ | refine CW.condT rfl ?_ | refine CW.condF rfl ?_)
    refine CW.reg ?_
    refine WL.val rfl (run_move) ?_
    refine WL.val rfl (run_move) ?_
    refine WL.val rfl (run_bT (run_strEq rfl rfl) (by rfl)) ?_
    refine WL.val rfl (run_move) ?_
    refine WL.yes rfl rfl rfl ?_
    refine WL.val rfl (run_move) ?_
    refine WL.yes rfl rfl rfl ?_
    refine WL.val rfl (run_move) ?_
    refine WL.yes rfl rfl rfl ?_
    refine WL.val rfl (run_bT (run_eql rfl rfl) (by rfl)) ?_
    first | refine WL.val rfl (run_pickT rfl) ?_ | refine WL.val rfl (run_pickF rfl) ?_
    refine WL.val rfl (run_move) ?_
    refine WL.yes rfl rfl rfl ?_
    refine WL.val rfl (run_move) ?_
    refine WL.yes rfl rfl rfl ?_
    refine WL.enter rfl (run_call en14 rfl rfl) (isName_spec hbn _ hs1) ?_
    rintro e w ⟨rfl, hq⟩
    refine ⟨_, rfl, ?_⟩
    replace hs := hs.callE hq
    refine WL.yes rfl rfl rfl ?_
    refine WL.val rfl (run_move) ?_
    refine WL.yes rfl rfl rfl ?_
    refine WL.enter rfl (run_call en15 rfl rfl) (refIsName_spec hbn _ hs1) ?_
    rintro e w ⟨rfl, hq⟩
    refine ⟨_, rfl, ?_⟩
    replace hs := hs.callE hq
    refine WL.yes rfl rfl rfl ?_
    refine WL.val rfl (run_bE (run_eqlB Tryd.underlying4 rfl rfl) (show _ = true by simp)) ?_
    first | refine WL.val rfl (run_pickT rfl) ?_ | refine WL.val rfl (run_pickF rfl) ?_
    refine WL.val rfl (run_move) ?_
    refine WL.yes rfl rfl rfl ?_
    refine WL.val rfl (run_move) ?_
    refine WL.yes rfl rfl rfl ?_
    refine WL.enter rfl (run_call en16 rfl rfl) (isClean_spec _ (hg.step hs) hs1) ?_
    rintro e w ⟨rfl, hq⟩
    refine ⟨_, rfl, ?_⟩
    replace hs := hs.callE hq
    refine WL.yes rfl rfl rfl ?_
    refine WL.val rfl (run_move) ?_
    refine WL.yes rfl rfl rfl ?_
    refine WL.enter rfl (run_call en17 rfl rfl) (refIsClean_spec _ (by omega)) ?_
    rintro e w ⟨rfl, hq⟩
    refine ⟨_, rfl, ?_⟩
    replace hs := hs.callE hq
    refine WL.yes rfl rfl rfl ?_
    refine WL.val rfl (run_bE (run_eqlB Tryd.underlying4 rfl rfl) (show _ = true by simp)) ?_
    first | refine WL.val rfl (run_pickT rfl) ?_ | refine WL.val rfl (run_pickF rfl) ?_
    refine WL.val rfl (run_assign) ?_
    refine WL.nil ?_
    repeat (first | refine CW.seq ?_ | refine CW.block ?_ | refine CW.skip ?_ | refine CW.label ?_ | refine CW.exit ?_ | refine CW.condT rfl ?_ | refine CW.condF rfl ?_)
    refine CW.ret ?_
    refine fin_ret1 rfl ?_
    exact ⟨rfl, hs⟩
end Go.Gx
