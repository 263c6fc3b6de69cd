/- What the laws of paths ask first: fixed answers. -/
import Derived.Test.YtnoamfcnamlbhaaDoorMatch
namespace Go.Gx
open Go.Proofs Go.RowKit
set_option linter.unusedVariables false
set_option linter.unusedSimpArgs false
set_option maxRecDepth 100000

theorem kn1 : cleanS [97, 47, 46, 47, 98, 47, 46, 46, 47, 99, 47, 47] = [97, 47, 99] ∧ cleanE [97, 47, 46, 47, 98, 47, 46, 46, 47, 99, 47, 47] = 0 := by decide +kernel
theorem kn2 : cleanE [97, 47, 46, 46, 47, 46, 46] = 32 := by decide +kernel
theorem kn3 : matchR [97, 47, 42, 42, 47, 99] [97, 47, 98, 47, 98, 47, 99] = (true, 0) := by decide +kernel
theorem kn4 : cmpF (partsL [97, 47, 98]) (partsL [97, 45]) < 0 := by decide +kernel
theorem kn5 : (partsL [97, 47, 98]).length = 2 := by decide +kernel
theorem knw1 {w : World} (hg : Gl w) : Calls Tryd.prog 12 #[str [97, 47, 46, 47, 98, 47, 46, 46, 47, 99, 47, 47]] w (Ret0 (.tuple #[str [97, 47, 99], .int .i64 0]) w) := by
  have h := clean_spec (s := [97, 47, 46, 47, 98, 47, 46, 46, 47, 99, 47, 47]) w hg (by simp)
  rw [kn1.1, kn1.2] at h
  exact h
theorem knw2 {w : World} (hg : Gl w) : ∃ u, Calls Tryd.prog 12 #[str [97, 47, 46, 46, 47, 46, 46]] w (Ret0 (.tuple #[str u, .int .i64 32]) w) := by
  have h := clean_spec (s := [97, 47, 46, 46, 47, 46, 46]) w hg (by simp)
  rw [kn2] at h
  exact ⟨_, h⟩
theorem knw3 {w : World} (hg : Gl w) : Calls Tryd.prog 18 #[str [97, 47, 42, 42, 47, 99], str [97, 47, 98, 47, 98, 47, 99]] w (Ret0 (.tuple #[.bool true, .int .i64 0]) w) := by
  have h := match_spec (s := [97, 47, 42, 42, 47, 99]) (t := [97, 47, 98, 47, 98, 47, 99]) w hg (by simp) (by simp)
  rw [kn3] at h
  exact h
theorem knw4 {w : World} (hg : Gl w) : Calls Tryd.prog 24 #[str [97, 47, 98], str [97, 45]] w (Ret0 (.bool true) w) := by
  have h := less_spec (s := [97, 47, 98]) (t := [97, 45]) w hg (by simp) (by simp)
  rw [decide_eq_true kn4] at h
  exact h
theorem knw5 {w : World} (hg : Gl w) : Calls Tryd.prog 23 #[str [97, 47, 98]] w (Ret0 (.int .i64 2) w) := by
  have h := depth_spec (s := [97, 47, 98]) w hg (by simp)
  rw [kn5] at h
  exact h
theorem knows : Knows := fun w0 hg => by
  have hs : Step [] [] w0 w0 := Step.refl w0
  refine calls (n := 43) Tryd.func11 rfl rfl rfl ?_
  repeat (first | refine CW.seq ?_ | refine CW.block ?_ | refine CW.skip ?_ | refine CW.label ?_ | refine CW.exit ?_ | refine CW.condT rfl ?_ | refine CW.condF rfl ?_)
  refine CW.reg ?_
  refine WL.val rfl (run_assign) ?_
  refine WL.nil ?_
  repeat (first | refine CW.seq ?_ | refine CW.block ?_ | refine CW.skip ?_ | refine CW.label ?_ | refine CW.exit ?_ | refine CW.condT rfl ?_ | refine CW.condF rfl ?_)
  refine CW.reg ?_
  refine WL.enter rfl (run_call en12 rfl rfl) (knw1 (hg.step hs)) ?_
  rintro e w ⟨rfl, hq⟩
  refine ⟨_, rfl, ?_⟩
  replace hs := hs.callE hq
  refine WL.val rfl (run_move) ?_
  refine WL.val rfl (run_extract rfl rfl) ?_
  refine WL.val rfl (run_extract rfl rfl) ?_
  refine WL.val rfl (run_assign) ?_
  refine WL.val rfl (run_assign) ?_
  refine WL.nil ?_
  have hobt := knw2 (hg.step hs)
  obtain ⟨u2, h2⟩ := hobt
  repeat (first | refine CW.seq ?_ | refine CW.block ?_ | refine CW.skip ?_ | refine CW.label ?_ | refine CW.exit ?_ | refine CW.condT rfl ?_ | refine CW.condF rfl ?_)
  refine CW.reg ?_
  refine WL.enter rfl (run_call en12 rfl rfl) (h2) ?_
  rintro e w ⟨rfl, hq⟩
  refine ⟨_, rfl, ?_⟩
  replace hs := hs.callE hq
  refine WL.val rfl (run_move) ?_
  refine WL.val rfl (run_extract rfl rfl) ?_
  refine WL.val rfl (run_extract rfl rfl) ?_
  refine WL.val rfl (run_assign) ?_
  refine WL.val rfl (run_assign) ?_
  refine WL.nil ?_
  repeat (first | refine CW.seq ?_ | refine CW.block ?_ | refine CW.skip ?_ | refine CW.label ?_ | refine CW.exit ?_ | refine CW.condT rfl ?_ | refine CW.condF rfl ?_)
  refine CW.reg ?_
  refine WL.enter rfl (run_call en18 rfl rfl) (knw3 (hg.step hs)) ?_
  rintro e w ⟨rfl, hq⟩
  refine ⟨_, rfl, ?_⟩
  replace hs := hs.callE hq
  refine WL.val rfl (run_move) ?_
  refine WL.val rfl (run_extract rfl rfl) ?_
  refine WL.val rfl (run_extract rfl rfl) ?_
  refine WL.val rfl (run_assign) ?_
  refine WL.val rfl (run_assign) ?_
  refine WL.nil ?_
  repeat (first | refine CW.seq ?_ | refine CW.block ?_ | refine CW.skip ?_ | refine CW.label ?_ | refine CW.exit ?_ | refine CW.condT rfl ?_ | refine CW.condF rfl ?_)
  refine CW.reg ?_
  refine WL.val rfl (run_move) ?_
  refine WL.val rfl (run_bT (run_strEq rfl rfl) (by rfl)) ?_
  refine WL.val rfl (run_move) ?_
  refine WL.yes rfl rfl rfl ?_
  refine WL.val rfl (run_move) ?_
  refine WL.yes rfl rfl rfl ?_
  refine WL.val rfl (run_bT (run_eql rfl rfl) (by rfl)) ?_
  first | refine WL.val rfl (run_pickT rfl) ?_ | refine WL.val rfl (run_pickF rfl) ?_
  refine WL.val rfl (run_move) ?_
  refine WL.yes rfl rfl rfl ?_
  refine WL.val rfl (run_move) ?_
  refine WL.yes rfl rfl rfl ?_
  refine WL.val rfl (run_bT (run_eql rfl rfl) (by rfl)) ?_
  first | refine WL.val rfl (run_pickT rfl) ?_ | refine WL.val rfl (run_pickF rfl) ?_
  refine WL.val rfl (run_move) ?_
  refine WL.yes rfl rfl rfl ?_
  refine WL.val rfl (run_move) ?_
  first | refine WL.val rfl (run_pickT rfl) ?_ | refine WL.val rfl (run_pickF rfl) ?_
  refine WL.val rfl (run_move) ?_
  refine WL.yes rfl rfl rfl ?_
  refine WL.val rfl (run_move) ?_
  refine WL.yes rfl rfl rfl ?_
  refine WL.val rfl (run_bT (run_eql rfl rfl) (by rfl)) ?_
  first | refine WL.val rfl (run_pickT rfl) ?_ | refine WL.val rfl (run_pickF rfl) ?_
  refine WL.val rfl (run_move) ?_
  refine WL.yes rfl rfl rfl ?_
  refine WL.enter rfl (run_call en24 rfl rfl) (knw4 (hg.step hs)) ?_
  rintro e w ⟨rfl, hq⟩
  refine ⟨_, rfl, ?_⟩
  replace hs := hs.callE hq
  first | refine WL.val rfl (run_pickT rfl) ?_ | refine WL.val rfl (run_pickF rfl) ?_
  refine WL.val rfl (run_move) ?_
  refine WL.yes rfl rfl rfl ?_
  refine WL.enter rfl (run_call en23 rfl rfl) (knw5 (hg.step hs)) ?_
  rintro e w ⟨rfl, hq⟩
  refine ⟨_, rfl, ?_⟩
  replace hs := hs.callE hq
  refine WL.yes rfl rfl rfl ?_
  refine WL.val rfl (run_bT (run_eql rfl rfl) (by rfl)) ?_
  first | refine WL.val rfl (run_pickT rfl) ?_ | refine WL.val rfl (run_pickF rfl) ?_
  refine WL.val rfl (run_assign) ?_
  refine WL.nil ?_
  repeat (first | refine CW.seq ?_ | refine CW.block ?_ | refine CW.skip ?_ | refine CW.label ?_ | refine CW.exit ?_ | refine CW.condT rfl ?_ | refine CW.condF rfl ?_)
  refine CW.ret ?_
  refine fin_ret1 rfl ?_
  exact ⟨rfl, hs⟩
end Go.Gx
