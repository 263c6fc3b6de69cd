/- PathMatchesUptoCardSaid: every pattern and path of bulk at most 1048576: Match is the document's: the law returns true, the texts read as they did. -/
import Derived.Test.YtnoamfcnamlbhaaDoorTied
import Derived.Test.YtnoamfcnamlbhaaDoorRMatch
namespace Go.Gx
open Go.Proofs Go.RowKit
set_option linter.unusedVariables false
set_option linter.unusedSimpArgs false
set_option maxRecDepth 100000
theorem pathMatches_spec {s t : List UInt8} (w0 : World) (hk : Knows) (hg : Gl w0) (hs1 : s.length ≤ 1048576) (ht1 : t.length ≤ 1048576) : Calls Tryd.prog 4 #[str s, str t] w0 (Ret0 (.bool true) w0) := by
  have hs : Step [] [] w0 w0 := Step.refl w0
  have c1 := fun w hg => match_spec (s := s) (t := t) w hg (by omega) (by omega)
  have c2 := fun w => refMatch_spec (s := s) (t := t) w (by omega) (by omega)
  have hobt : ∃ v, matchR s t = v := ⟨_, rfl⟩
  obtain ⟨v, hv⟩ := hobt
  obtain ⟨b, e⟩ := v
  simp only [hv] at c1 c2
  refine calls (n := 31) Tryd.func4 rfl rfl rfl ?_
  repeat (first | refine CW.seq ?_ | refine CW.block ?_ | refine CW.skip ?_ | refine CW.label ?_ | refine CW.exit ?_ | refine CW.condT rfl ?_ | refine CW.condF rfl ?_)
  refine CW.reg ?_
  refine WL.val rfl (run_assign) ?_
  refine WL.nil ?_
  repeat (first | refine CW.seq ?_ | refine CW.block ?_ | refine CW.skip ?_ | refine CW.label ?_ | refine CW.exit ?_ | refine CW.condT rfl ?_ | refine CW.condF rfl ?_)
  refine CW.reg ?_
  refine WL.enter rfl (run_call en11 rfl rfl) (hk _ hg) ?_
  rintro e w ⟨rfl, hq⟩
  refine ⟨_, rfl, ?_⟩
  replace hs := hs.callE hq
  first | refine WL.val rfl (run_notB rfl) ?_ | refine WL.val rfl (run_not rfl) ?_
  refine WL.nil ?_
  repeat (first | refine CW.seq ?_ | refine CW.block ?_ | refine CW.skip ?_ | refine CW.label ?_ | refine CW.exit ?_ | refine CW.condT rfl ?_ | refine CW.condF rfl ?_)
  refine CW.reg ?_
  refine WL.val rfl (run_move) ?_
  refine WL.val rfl (run_move) ?_
  refine WL.enter rfl (run_call en18 rfl rfl) (c1 _ (hg.step hs)) ?_
  rintro e w ⟨rfl, hq⟩
  refine ⟨_, rfl, ?_⟩
  replace hs := hs.callE hq
  refine WL.val rfl (run_move) ?_
  refine WL.val rfl (run_extract rfl rfl) ?_
  refine WL.val rfl (run_extract rfl rfl) ?_
  refine WL.val rfl (run_assign) ?_
  refine WL.val rfl (run_assign) ?_
  refine WL.nil ?_
  repeat (first | refine CW.seq ?_ | refine CW.block ?_ | refine CW.skip ?_ | refine CW.label ?_ | refine CW.exit ?_ | refine CW.condT rfl ?_ | refine CW.condF rfl ?_)
  refine CW.reg ?_
  refine WL.val rfl (run_move) ?_
  refine WL.val rfl (run_move) ?_
  refine WL.enter rfl (run_call en19 rfl rfl) (c2 _) ?_
  rintro e w ⟨rfl, hq⟩
  refine ⟨_, rfl, ?_⟩
  replace hs := hs.callE hq
  refine WL.val rfl (run_move) ?_
  refine WL.val rfl (run_extract rfl rfl) ?_
  refine WL.val rfl (run_extract rfl rfl) ?_
  refine WL.val rfl (run_assign) ?_
  refine WL.val rfl (run_assign) ?_
  refine WL.nil ?_
  repeat (first | refine CW.seq ?_ | refine CW.block ?_ | refine CW.skip ?_ | refine CW.label ?_ | refine CW.exit ?_ | refine CW.condT rfl ?_ | refine CW.condF rfl ?_)
  refine CW.reg ?_
  refine WL.val rfl (run_move) ?_
  refine WL.val rfl (run_move) ?_
  refine WL.val rfl (run_bE (run_eqlB Tryd.underlying4 rfl rfl) (show _ = true by simp)) ?_
  refine WL.val rfl (run_move) ?_
  refine WL.yes rfl rfl rfl ?_
  refine WL.val rfl (run_move) ?_
  refine WL.yes rfl rfl rfl ?_
  refine WL.val rfl (run_move) ?_
  refine WL.yes rfl rfl rfl ?_
  refine WL.val rfl (run_bT (run_eql rfl rfl) (by rfl)) ?_
  first | refine WL.val rfl (run_pickT rfl) ?_ | refine WL.val rfl (run_pickF rfl) ?_
  refine WL.val rfl (run_assign) ?_
  refine WL.nil ?_
  repeat (first | refine CW.seq ?_ | refine CW.block ?_ | refine CW.skip ?_ | refine CW.label ?_ | refine CW.exit ?_ | refine CW.condT rfl ?_ | refine CW.condF rfl ?_)
  refine CW.ret ?_
  refine fin_ret1 rfl ?_
  exact ⟨rfl, hs⟩
end Go.Gx
namespace Go.Proofs.YtnoamfcnamlbhaaDoor.pathMatches
open Go.ChangeShapes Go.WideShapes Go.ChangeAt Go.RowKit
set_option linter.unusedVariables false

set_option maxRecDepth 100000 in
theorem lifted (os : Os) (started : os.Started) (H : Type) (enc : TypeId × Value → H) (F0 : Stop.Interp) :
    ReturnsInHanded {} Tryd.checked os 4 .any (fun w args => ((Rows.OpenSpec.upto Rows.pathMatchesSpec).pre enc Tryd.prog Tryd.f4 Rows.pathMatchesUptoRow.domain false w args ∧ laidMetH Tryd.prog Rows.pathMatchesUptoRow.laid w) ∧ sizedMet enc Tryd.prog Tryd.f4 (Rows.OpenSpec.upto Rows.pathMatchesSpec) false w args) (((Rows.OpenSpec.upto Rows.pathMatchesSpec).at F0).post enc Tryd.prog Tryd.f4 false true false false) := by
  refine Go.Gx.returns_cond (C := Tryd.checked) (s := Rows.OpenSpec.upto Rows.pathMatchesSpec) (k := Rows.uptoSmall) (X := fun w _ => laidMetH Tryd.prog Rows.pathMatchesUptoRow.laid w) rfl Go.Gx.Tied.own started (by kernel_rfl) Tryd.func4
    (Go.Gx.witness_cond (enc := enc) (C := Tryd.checked) (s := Rows.OpenSpec.upto Rows.pathMatchesSpec) (k := Rows.uptoSmall) (X := fun w _ => laidMetH Tryd.prog Rows.pathMatchesUptoRow.laid w) rfl (World.laidAll Tryd.prog os Go.Gx.Tied.list) #[Go.Gx.str [], Go.Gx.str []] 12 (World.laidAll_os _ _ _) (Go.Gx.Tied.shaped os _) (by kernel_rfl)
      (x := ([.lit (.string []), .lit (.string [])], [], [])) (by kernel_rfl) (by kernel_rfl) (by kernel_rfl) (by kernel_rfl) (Go.Gx.Tied.met os _)) ?_
  intro W base args ds gs before hval0 hW hk hsh
  have hval : ∀ (j : Nat) t v, Tryd.f4.params[j]? = some t → args[j]? = some v → Value.okWide Tryd.prog W .any base t v := hval0
  have hg : Go.Gx.Gl W := Go.Gx.gl_of_shaped hsh
  have hW' := hW
  obtain ⟨p, q, hA0, hV, rfl, hfz, hnd⟩ := hW
  have hA : DataW.TrodAll enc Tryd.prog W 0 (fun _ => true) true Tryd.f4.params.toList args.toList ds p := hA0
  rw [Tryd.params4] at hA hval
  obtain ⟨rfl, rfl⟩ := trodVars_none hV
  obtain ⟨vs, hargs, hA⟩ : ∃ vs, args = vs.toArray ∧ DataW.TrodAll enc Tryd.prog W 0 (fun _ => true) true [9, 9] vs ds p := ⟨args.toList, rfl, hA⟩
  obtain rfl := hargs
  have hA1 := hA
  obtain ⟨v0, vs0, d0, ds0, p0, q0, rfl, rfl, rfl, h0, hA⟩ := trodAll_cons hA
  obtain ⟨v1, vs1, d1, ds1, p1, q1, rfl, rfl, rfl, h1, hA⟩ := trodAll_cons hA
  obtain ⟨rfl, rfl, rfl⟩ := trodAll_nil hA
  clear hA hval0
  simp only [List.append_nil] at hW' hk hA1 hfz hnd
  have hbulk : Rows.uptoBulkAll [d0, d1] ≤ 1048576 := of_decide_eq_true hk
  simp only [Rows.uptoBulkAll] at hbulk
  obtain ⟨s0, hv0, hm0, hn0⟩ := Go.Gx.open_str (hval 0 9 v0 rfl rfl) h0
  obtain ⟨s1, hv1, hm1, hn1⟩ := Go.Gx.open_str (hval 1 9 v1 rfl rfl) h1
  replace hn0 := hn0 (by omega)
  replace hn1 := hn1 (by omega)
  subst hv0
  subst hv1
  refine (Go.Gx.pathMatches_spec W Go.Gx.knows hg hn0 hn1).mono fun e W' ⟨he, hg⟩ => ?_
  subst he
  have hb := hg.below
  have hlt := fun x hx => hW'.lt x hx
  have hst := Go.Gx.trodAll_stays Go.Gx.Tied.laid hb hA1 (by simpa using hlt) (by intro t ht; simp only [List.mem_cons, List.not_mem_nil, or_false] at ht; rcases ht with rfl | rfl <;> exact ⟨by kernel_rfl, of_decide_eq_true (by kernel_rfl)⟩)
  refine ⟨_, rfl, [d0, d1], [], _, [], _, [], hW', trodAll_cons_mk (shut_bool Tryd.underlying4 _) trodAll_mk0, hst, rfl, hb.frame _, fun h => by cases h⟩

theorem over : Rows.pathMatchesUptoRow.holds Tryd.pinned (Rows.OpenSpec.upto Rows.pathMatchesSpec) :=
  OpenClaim.holds_of_cond 4 Tryd.f4 rfl rfl rfl rfl rfl rfl rfl ⟨rfl, rfl, rfl, rfl, rfl⟩ rfl rfl rfl rfl rfl (by kernel_rfl) Tryd.func4 (by kernel_rfl)
    (of_decide_eq_true (by kernel_rfl)) (by unfold Func.isWrapper; first | (rw [if_pos (by decide +kernel)]; kernel_rfl) | (rw [if_neg (by decide +kernel)]; exact ⟨rfl, rfl⟩))
    (fun os started H enc _ F0 => lifted os started H enc F0)

/-- The statement. -/
theorem proved : Rows.PathMatchesUptoCardSaid :=
  Claim7.holds_tied_plain_at .later [] [.data, .pinned] true (true, "3f467ef4db3f30acd04b0c06848fd9282428f75dae5576ae85a3a0e33a2613cd") false
    over (fun _ h => by cases h) (by kernel_rfl) (fun _ h => by cases h) pathMatchesUpto_row_tie rfl ⟨rfl, rfl⟩ (by kernel_rfl) rfl
    (fun f fn hf hfn => by
      obtain rfl : f = 4 := Option.some.inj ((show Tryd.prog.funcNamed "retort/retortlaw3.PathMatches" = some 4 by kernel_rfl).symm.trans hf) |>.symm
      obtain rfl : fn = Tryd.f4 := (Option.some.inj (Tryd.func4.symm.trans hfn)).symm
      exact ⟨by kernel_rfl, fun j t ht => by
        rw [Tryd.params4] at ht
        have hm : t ∈ [9, 9] := by simpa using Array.mem_of_getElem? ht
        have hall : ([9, 9].all fun u => !Tryd.prog.wantsStandIn u) = true := by kernel_rfl
        exact (show Tryd.prog.wantsStandIn t = false by simpa using List.all_eq_true.1 hall t hm)⟩)
    (by kernel_rfl)
#print axioms proved
end Go.Proofs.YtnoamfcnamlbhaaDoor.pathMatches
