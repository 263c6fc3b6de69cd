/- PathLineCardSaid: Less is a strict order of rows of parts, a path stands ahead of all that is under it and nothing else between: the law returns true, the texts read as they did; no condition. -/
import Derived.Test.YtnoamfcnamlbhaaDoorTied
import Derived.Test.YtnoamfcnamlbhaaDoorPLine
namespace Go.Proofs.YtnoamfcnamlbhaaDoor.pathLine
open Go.ChangeShapes Go.WideShapes Go.ChangeAt Go.RowKit
set_option linter.unusedVariables false

set_option maxRecDepth 100000 in
theorem lifted (os : Os) (started : os.Started) (H : Type) (enc : TypeId × Value → H) :
    ReturnsInHanded {} Tryd.checked os 8 .any (fun w args => (Rows.pathLineSpec.pre enc Tryd.prog Tryd.f8 Rows.pathLineRow.domain false w args ∧ laidMetH Tryd.prog Rows.pathLineRow.laid w) ∧ sizedMet enc Tryd.prog Tryd.f8 (OpenSpec.ofChange Rows.pathLineSpec) false w args) (Rows.pathLineSpec.post enc Tryd.prog Tryd.f8 false true false false) := by
  refine Go.Gx.returns_shaped (C := Tryd.checked) (X := fun w _ => laidMetH Tryd.prog Rows.pathLineRow.laid w) Go.Gx.Tied.own started (by kernel_rfl) Tryd.func8
    (ChangeSpec.witness_shaped (enc := enc) (C := Tryd.checked) (os := os) (X := fun w _ => laidMetH Tryd.prog Rows.pathLineRow.laid w) false (World.laidAll Tryd.prog os Go.Gx.Tied.list) #[Go.Gx.str [], Go.Gx.str [], Go.Gx.str []] 12 (World.laidAll_os _ _ _) (Go.Gx.Tied.shaped os _) (by kernel_rfl) (by kernel_rfl) (by kernel_rfl) (Go.Gx.Tied.met os _)) ?_
  intro W base args ds gs before hval0 hW hsh
  have hval : ∀ (j : Nat) t v, Tryd.f8.params[j]? = some t → args[j]? = some v → Value.okWide Tryd.prog W .any base t v := hval0
  have hg : Go.Gx.Gl W := Go.Gx.gl_of_shaped hsh
  have hW' := hW
  obtain ⟨p, q, hA0, hV, rfl, hfz, hnd⟩ := hW
  have hA : DataW.TrodAll enc Tryd.prog W 0 (fun _ => true) true Tryd.f8.params.toList args.toList ds p := hA0
  rw [Tryd.params8] at hA hval
  obtain ⟨rfl, rfl⟩ := trodVars_none hV
  obtain ⟨vs, hargs, hA⟩ : ∃ vs, args = vs.toArray ∧ DataW.TrodAll enc Tryd.prog W 0 (fun _ => true) true [9, 9, 9] vs ds p := ⟨args.toList, rfl, hA⟩
  obtain rfl := hargs
  have hA1 := hA
  obtain ⟨v0, vs0, d0, ds0, p0, q0, rfl, rfl, rfl, h0, hA⟩ := trodAll_cons hA
  obtain ⟨v1, vs1, d1, ds1, p1, q1, rfl, rfl, rfl, h1, hA⟩ := trodAll_cons hA
  obtain ⟨v2, vs2, d2, ds2, p2, q2, rfl, rfl, rfl, h2, hA⟩ := trodAll_cons hA
  obtain ⟨rfl, rfl, rfl⟩ := trodAll_nil hA
  clear hA hval0
  simp only [List.append_nil] at hW' hA1 hfz hnd
  obtain ⟨s0, hv0, hm0, hn0⟩ := Go.Gx.open_str (hval 0 9 v0 rfl rfl) h0
  obtain ⟨s1, hv1, hm1, hn1⟩ := Go.Gx.open_str (hval 1 9 v1 rfl rfl) h1
  obtain ⟨s2, hv2, hm2, hn2⟩ := Go.Gx.open_str (hval 2 9 v2 rfl rfl) h2
  subst hv0
  subst hv1
  subst hv2
  refine (Go.Gx.pathLine_spec W Go.Gx.knows hg hm0 hm1 hm2).mono fun e W' ⟨he, hg⟩ => ?_
  subst he
  have hb := hg.below
  have hlt := fun x hx => hW'.lt x hx
  have hst := Go.Gx.trodAll_stays Go.Gx.Tied.laid hb hA1 (by simpa using hlt) (by intro t ht; simp only [List.mem_cons, List.not_mem_nil, or_false] at ht; rcases ht with rfl | rfl | rfl <;> exact ⟨by kernel_rfl, of_decide_eq_true (by kernel_rfl)⟩)
  refine ⟨_, rfl, [d0, d1, d2], [], _, [], _, [], hW', trodAll_cons_mk (shut_bool Tryd.underlying4 _) trodAll_mk0, hst, rfl, hb.frame _, fun h => by cases h⟩

theorem over : Rows.pathLineRow.holds Tryd.pinned (OpenSpec.ofChange Rows.pathLineSpec) :=
  OpenClaim.holds_of_wide 8 Tryd.f8 rfl rfl rfl rfl rfl rfl rfl ⟨rfl, rfl, rfl, rfl, rfl⟩ rfl rfl rfl rfl rfl (by kernel_rfl) Tryd.func8 (by kernel_rfl)
    (of_decide_eq_true (by kernel_rfl)) (by unfold Func.isWrapper; first | (rw [if_pos (by decide +kernel)]; kernel_rfl) | (rw [if_neg (by decide +kernel)]; exact ⟨rfl, rfl⟩))
    (fun os started H enc _ => lifted os started H enc)

/-- The statement. -/
theorem proved : Rows.PathLineCardSaid :=
  Claim7.holds_tied_plain_at .later [] [.data, .pinned] true (true, "3f467ef4db3f30acd04b0c06848fd9282428f75dae5576ae85a3a0e33a2613cd") false
    over (fun _ h => by cases h) (by kernel_rfl) (fun _ h => by cases h) pathLine_row_tie rfl ⟨rfl, rfl⟩ (by kernel_rfl) rfl
    (fun f fn hf hfn => by
      obtain rfl : f = 8 := Option.some.inj ((show Tryd.prog.funcNamed "retort/retortlaw3.PathLine" = some 8 by kernel_rfl).symm.trans hf) |>.symm
      obtain rfl : fn = Tryd.f8 := (Option.some.inj (Tryd.func8.symm.trans hfn)).symm
      exact ⟨by kernel_rfl, fun j t ht => by
        rw [Tryd.params8] at ht
        have hm : t ∈ [9, 9, 9] := by simpa using Array.mem_of_getElem? ht
        have hall : ([9, 9, 9].all fun u => !Tryd.prog.wantsStandIn u) = true := by kernel_rfl
        exact (show Tryd.prog.wantsStandIn t = false by simpa using List.all_eq_true.1 hall t hm)⟩)
    (by kernel_rfl)
#print axioms proved
end Go.Proofs.YtnoamfcnamlbhaaDoor.pathLine
