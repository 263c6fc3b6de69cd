/- The program's Less. -/
import Derived.Test.YtnoamfcnamlbhaaDoorPLess2
namespace Go.Gx
open Go.Proofs Go.RowKit
set_option linter.unusedVariables false
set_option linter.unusedSimpArgs false
set_option maxRecDepth 100000

theorem Sl0.keep {ps : List (List UInt8)} {a : Option Addr} {L : List (Nat × Obj)} {w w' : World} (h : ps = [] ∨ ∃ bp, a = some ⟨bp, 0, none⟩ ∧ ∀ i p, ps[i]? = some p → w.cell? ⟨bp, 0 + i * 1, none⟩ = some (str p)) (hs : Step [] L w w') : ps = [] ∨ ∃ bp, a = some ⟨bp, 0, none⟩ ∧ ∀ i p, ps[i]? = some p → w'.cell? ⟨bp, 0 + i * 1, none⟩ = some (str p) := by
  rcases h with h | ⟨bp, h1, h2⟩
  · exact .inl h
  · refine .inr ⟨bp, h1, fun i p hpi => ?_⟩
    have h3 := h2 i p hpi
    have hlx : bp < w.heap.size := Nat.lt_of_not_le fun hge => by
      simp [World.cell?, Array.getElem?_eq_none hge] at h3
    rw [cell_of_heap (hs.chg.block bp hlx (by simp))]
    exact h3

theorem less_spec {s t : List UInt8} (w0 : World) (hg : Gl w0) (hs1 : s.length < 4294967281) (ht1 : t.length < 4294967281) : Calls Tryd.prog 24 #[str s, str t] w0 (Ret0 (.bool (decide (cmpF (partsL s) (partsL t) < 0))) w0) := by
  have hs : Step [] [] w0 w0 := Step.refl w0
  have hpl := partsL_len s
  have hpt := partsL_len t
  refine calls (n := 11) Tryd.func24 rfl rfl rfl ?_
  repeat (first | refine CW.seq ?_ | refine CW.block ?_ | refine CW.skip ?_ | refine CW.label ?_ | refine CW.exit ?_ | refine CW.condT rfl ?_ | refine CW.condF rfl ?_)
  refine CW.reg ?_
  refine WL.val rfl (run_assign) ?_
  refine WL.nil ?_
  repeat (first | refine CW.seq ?_ | refine CW.block ?_ | refine CW.skip ?_ | refine CW.label ?_ | refine CW.exit ?_ | refine CW.condT rfl ?_ | refine CW.condF rfl ?_)
  refine CW.reg ?_
  refine WL.val rfl (run_move) ?_
  refine WL.enter rfl (run_call en34 rfl rfl) (parts_spec _ hg hs1) ?_
  rintro e w ⟨u, Lu, rfl, hu, hq⟩
  refine ⟨_, rfl, ?_⟩
  have hs := hq
  refine WL.val rfl (run_move) ?_
  refine WL.enter rfl (run_call en34 rfl rfl) (parts_spec _ (hg.step hs) ht1) ?_
  rintro e w ⟨u2, Lv, rfl, hv, hq2⟩
  refine ⟨_, rfl, ?_⟩
  have hxx := cellsOf hu hs
  obtain ⟨a, c, hq3, hcl, hcx⟩ := hxx
  subst hq3
  have hyy := cellsOf hv hq2
  obtain ⟨a2, c2, hq4, hcl2, hcy⟩ := hyy
  subst hq4
  have hcx2 := Sl0.keep hcx hq2
  replace hs := hs.dropR (L1 := [])
  replace hs := hs.call0 (hq2.dropR (L1 := []))
  refine WL.enter rfl (run_call en45 rfl rfl) (compareF_spec _ hcl hcl2 (by omega) (by omega) hcx2 hcy) ?_
  rintro e w ⟨rfl, hq⟩
  refine ⟨_, rfl, ?_⟩
  replace hs := hs.callE hq
  refine WL.val rfl (run_lss rfl rfl) ?_
  refine WL.val rfl (run_assign) ?_
  refine WL.nil ?_
  repeat (first | refine CW.seq ?_ | refine CW.block ?_ | refine CW.skip ?_ | refine CW.label ?_ | refine CW.exit ?_ | refine CW.condT rfl ?_ | refine CW.condF rfl ?_)
  refine CW.ret ?_
  refine fin_ret1 rfl ?_
  exact ⟨rfl, hs⟩
end Go.Gx
