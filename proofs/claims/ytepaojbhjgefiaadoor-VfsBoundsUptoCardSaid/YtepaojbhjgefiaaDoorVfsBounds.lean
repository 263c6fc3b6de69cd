/- VfsBoundsUptoCardSaid: whatever is done, what is taken is never above the quota, all files are a tree, a handle that is answered was not open and is the least such: the law returns true, the arguments read as they did; for arguments of at most 1048576 parts in all. -/
import Derived.Test.YtepaojbhjgefiaaDoorTied
import Derived.Test.YtepaojbhjgefiaaDoorB1
namespace Go.Proofs.YtepaojbhjgefiaaDoor.vfsBounds
open Go.ChangeShapes Go.WideShapes Go.ChangeAt Go.RowKit
set_option linter.unusedVariables false

set_option maxRecDepth 100000 in
theorem lifted (os : Os) (started : os.Started) (H : Type) (enc : TypeId × Value → H) (F0 : Stop.Interp) :
    ReturnsInHanded {} Tryd.checked os 5 .any (fun w args => ((Rows.OpenSpec.upto Rows.vfsBoundsSpec).pre enc Tryd.prog Tryd.f5 Rows.vfsBoundsUptoRow.domain false w args ∧ laidMetH Tryd.prog Rows.vfsBoundsUptoRow.laid w) ∧ sizedMet enc Tryd.prog Tryd.f5 (Rows.OpenSpec.upto Rows.vfsBoundsSpec) false w args) (((Rows.OpenSpec.upto Rows.vfsBoundsSpec).at F0).post enc Tryd.prog Tryd.f5 false true false false) := by
  refine Go.Gx.returns_cond (C := Tryd.checked) (s := Rows.OpenSpec.upto Rows.vfsBoundsSpec) (k := Rows.uptoSmall) (X := fun w _ => laidMetH Tryd.prog Rows.vfsBoundsUptoRow.laid w) rfl Go.Gx.Tied.own started (by kernel_rfl) Tryd.func5
    (Go.Gx.witness_cond (enc := enc) (C := Tryd.checked) (s := Rows.OpenSpec.upto Rows.vfsBoundsSpec) (k := Rows.uptoSmall) (X := fun w _ => laidMetH Tryd.prog Rows.vfsBoundsUptoRow.laid w) rfl (World.laidAll Tryd.prog os Go.Gx.Tied.list) #[.slice none 0 0, .agg (Go.Gx.quoC 0 0 0).toArray, .slice none 0 0] 12 (World.laidAll_os _ _ _) (Go.Gx.Tied.shaped os _) (by kernel_rfl)
      (x := ([.nil, .agg [.lit (.int .i64 0), .lit (.int .i64 0), .lit (.int .i64 0)], .nil], [], [])) (by kernel_rfl) (by kernel_rfl) (by kernel_rfl) (by kernel_rfl) (Go.Gx.Tied.met os _)) ?_
  intro W base args ds gs before hval0 hW hk hsh
  have hval : ∀ (j : Nat) t v, Tryd.f5.params[j]? = some t → args[j]? = some v → Value.okWide Tryd.prog W .any base t v := hval0
  have hg : Go.Gx.Gl W := Go.Gx.gl_of_shaped hsh
  have hW' := hW
  obtain ⟨p, q, hA0, hV, rfl, hfz, hnd⟩ := hW
  have hA : DataW.TrodAll enc Tryd.prog W 0 (fun _ => true) true Tryd.f5.params.toList args.toList ds p := hA0
  rw [Tryd.params5] at hA hval
  obtain ⟨rfl, rfl⟩ := trodVars_none hV
  obtain ⟨vs, hargs, hA⟩ : ∃ vs, args = vs.toArray ∧ DataW.TrodAll enc Tryd.prog W 0 (fun _ => true) true [40, 30, 41] vs ds p := ⟨args.toList, rfl, hA⟩
  obtain rfl := hargs
  have hA1 := hA
  obtain ⟨v0, vs0, d0, ds0, p0, q0, rfl, rfl, rfl, h0, hA⟩ := trodAll_cons hA
  obtain ⟨v1, vs1, d1, ds1, p1, q1, rfl, rfl, rfl, h1, hA⟩ := trodAll_cons hA
  obtain ⟨v2, vs2, d2, ds2, p2, q2, rfl, rfl, rfl, h2, hA⟩ := trodAll_cons hA
  obtain ⟨rfl, rfl, rfl⟩ := trodAll_nil hA
  clear hA hval0
  simp only [List.append_nil] at hW' hk hA1 hfz hnd
  have hbulk : Rows.uptoBulkAll [d0, d1, d2] ≤ 1048576 := of_decide_eq_true hk
  simp only [Rows.uptoBulkAll] at hbulk
  obtain ⟨l0, he0, hr0, hn0⟩ := Go.Gx.open_items (hval 0 40 v0 rfl rfl) h0
  obtain ⟨a1, b1, c1, hv1, ha1, hb1, hc1⟩ := Go.Gx.open_quo (hval 1 30 v1 rfl rfl) h1
  obtain ⟨l2, he2, hr2, hn2⟩ := Go.Gx.open_vsteps (hval 2 41 v2 rfl rfl) h2
  replace hn0 := hn0 (by omega)
  replace hn2 := hn2 (by omega)
  subst hv1
  refine (Go.Gx.vfsBounds_spec W hg he0 ha1 hb1 hc1 he2).mono fun e W' ⟨he, hg⟩ => ?_
  subst he
  have hb := hg.below
  have hlt := fun x hx => hW'.lt x hx
  have hst := Go.Gx.trodAll_stays Go.Gx.Tied.laid hb hA1 (by simpa using hlt) (by intro t ht; simp only [List.mem_cons, List.not_mem_nil, or_false] at ht; rcases ht with rfl | rfl | rfl <;> exact ⟨by kernel_rfl, of_decide_eq_true (by kernel_rfl)⟩)
  refine ⟨_, rfl, [d0, d1, d2], [], _, [], _, [], hW', trodAll_cons_mk (shut_bool Tryd.underlying4 _) trodAll_mk0, hst, rfl, hb.frame _, fun h => by cases h⟩

theorem over : Rows.vfsBoundsUptoRow.holds Tryd.pinned (Rows.OpenSpec.upto Rows.vfsBoundsSpec) :=
  OpenClaim.holds_of_cond 5 Tryd.f5 rfl rfl rfl rfl rfl rfl rfl ⟨rfl, rfl, rfl, rfl, rfl⟩ rfl rfl rfl rfl rfl (by kernel_rfl) Tryd.func5 (by kernel_rfl)
    (of_decide_eq_true (by kernel_rfl)) (by unfold Func.isWrapper; first | (rw [if_pos (by decide +kernel)]; kernel_rfl) | (rw [if_neg (by decide +kernel)]; exact ⟨rfl, rfl⟩))
    (fun os started H enc _ F0 => lifted os started H enc F0)

/-- The statement. -/
theorem proved : Rows.VfsBoundsUptoCardSaid :=
  Claim7.holds_tied_plain_at .later [] [.data, .pinned] true (true, "d081cdf3d3310e3e0e8b05e0294794cdc5ec0bf0f4cabffa0a7de67e63638090") false
    over (fun _ h => by cases h) (by kernel_rfl) (fun _ h => by cases h) vfsBoundsUpto_row_tie rfl ⟨rfl, rfl⟩ (by kernel_rfl) rfl
    (fun f fn hf hfn => by
      obtain rfl : f = 5 := Option.some.inj ((show Tryd.prog.funcNamed "retort/retortlaw9.VfsBounds" = some 5 by kernel_rfl).symm.trans hf) |>.symm
      obtain rfl : fn = Tryd.f5 := (Option.some.inj (Tryd.func5.symm.trans hfn)).symm
      exact ⟨by kernel_rfl, fun j t ht => by
        rw [Tryd.params5] at ht
        have hm : t ∈ [40, 30, 41] := by simpa using Array.mem_of_getElem? ht
        have hall : ([40, 30, 41].all fun u => !Tryd.prog.wantsStandIn u) = true := by kernel_rfl
        exact (show Tryd.prog.wantsStandIn t = false by simpa using List.all_eq_true.1 hall t hm)⟩)
    (by kernel_rfl)
#print axioms proved
end Go.Proofs.YtepaojbhjgefiaaDoor.vfsBounds
