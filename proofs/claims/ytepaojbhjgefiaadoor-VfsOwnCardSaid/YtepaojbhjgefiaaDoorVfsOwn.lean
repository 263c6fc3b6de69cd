/- VfsOwnCardSaid: what is told is the caller's own: bytes, names, items: written full and grown in turns they stay apart, and the files are as they were: the law returns true, the arguments read as they did. -/
import Derived.Test.YtepaojbhjgefiaaDoorTied
import Derived.Test.YtepaojbhjgefiaaDoorB2
namespace Go.Proofs.YtepaojbhjgefiaaDoor.vfsOwn
open Go.ChangeShapes Go.WideShapes Go.ChangeAt Go.RowKit
set_option linter.unusedVariables false

set_option maxRecDepth 100000 in
theorem lifted (os : Os) (started : os.Started) (H : Type) (enc : TypeId × Value → H) :
    ReturnsInHanded {} Tryd.checked os 4 .any (fun w args => (Rows.vfsOwnSpec.pre enc Tryd.prog Tryd.f4 Rows.vfsOwnRow.domain false w args ∧ laidMetH Tryd.prog Rows.vfsOwnRow.laid w) ∧ sizedMet enc Tryd.prog Tryd.f4 (OpenSpec.ofChange Rows.vfsOwnSpec) false w args) (Rows.vfsOwnSpec.post enc Tryd.prog Tryd.f4 false true false false) := by
  refine Go.Gx.returns_shaped (C := Tryd.checked) (X := fun w _ => laidMetH Tryd.prog Rows.vfsOwnRow.laid w) Go.Gx.Tied.own started (by kernel_rfl) Tryd.func4
    (ChangeSpec.witness_shaped (enc := enc) (C := Tryd.checked) (os := os) (X := fun w _ => laidMetH Tryd.prog Rows.vfsOwnRow.laid w) false (World.laidAll Tryd.prog os Go.Gx.Tied.list) #[.slice none 0 0, .slice none 0 0] 12 (World.laidAll_os _ _ _) (Go.Gx.Tied.shaped os _) (by kernel_rfl) (by kernel_rfl) (by kernel_rfl) (Go.Gx.Tied.met os _)) ?_
  intro W base args ds gs before hval0 hW hsh
  have hval : ∀ (j : Nat) t v, Tryd.f4.params[j]? = some t → args[j]? = some v → Value.okWide Tryd.prog W .any base t v := hval0
  have hg : Go.Gx.Gl W := Go.Gx.gl_of_shaped hsh
  have hW' := hW
  obtain ⟨p, q, hA0, hV, rfl, hfz, hnd⟩ := hW
  have hA : DataW.TrodAll enc Tryd.prog W 0 (fun _ => true) true Tryd.f4.params.toList args.toList ds p := hA0
  rw [Tryd.params4] at hA hval
  obtain ⟨rfl, rfl⟩ := trodVars_none hV
  obtain ⟨vs, hargs, hA⟩ : ∃ vs, args = vs.toArray ∧ DataW.TrodAll enc Tryd.prog W 0 (fun _ => true) true [40, 41] vs ds p := ⟨args.toList, rfl, hA⟩
  obtain rfl := hargs
  have hA1 := hA
  obtain ⟨v0, vs0, d0, ds0, p0, q0, rfl, rfl, rfl, h0, hA⟩ := trodAll_cons hA
  obtain ⟨v1, vs1, d1, ds1, p1, q1, rfl, rfl, rfl, h1, hA⟩ := trodAll_cons hA
  obtain ⟨rfl, rfl, rfl⟩ := trodAll_nil hA
  clear hA hval0
  simp only [List.append_nil] at hW' hA1 hfz hnd
  obtain ⟨l0, he0, hr0, hn0⟩ := Go.Gx.open_items (hval 0 40 v0 rfl rfl) h0
  obtain ⟨l1, he1, hr1, hn1⟩ := Go.Gx.open_vsteps (hval 1 41 v1 rfl rfl) h1
  refine (Go.Gx.vfsOwn_spec W hg he0 he1).mono fun e W' ⟨he, hg⟩ => ?_
  subst he
  have hb := hg.below
  have hlt := fun x hx => hW'.lt x hx
  have hst := Go.Gx.trodAll_stays Go.Gx.Tied.laid hb hA1 (by simpa using hlt) (by intro t ht; simp only [List.mem_cons, List.not_mem_nil, or_false] at ht; rcases ht with rfl | rfl <;> exact ⟨by kernel_rfl, of_decide_eq_true (by kernel_rfl)⟩)
  refine ⟨_, rfl, [d0, d1], [], _, [], _, [], hW', trodAll_cons_mk (shut_bool Tryd.underlying4 _) trodAll_mk0, hst, rfl, hb.frame _, fun h => by cases h⟩

theorem over : Rows.vfsOwnRow.holds Tryd.pinned (OpenSpec.ofChange Rows.vfsOwnSpec) :=
  OpenClaim.holds_of_wide 4 Tryd.f4 rfl rfl rfl rfl rfl rfl rfl ⟨rfl, rfl, rfl, rfl, rfl⟩ rfl rfl rfl rfl rfl (by kernel_rfl) Tryd.func4 (by kernel_rfl)
    (of_decide_eq_true (by kernel_rfl)) (by unfold Func.isWrapper; first | (rw [if_pos (by decide +kernel)]; kernel_rfl) | (rw [if_neg (by decide +kernel)]; exact ⟨rfl, rfl⟩))
    (fun os started H enc _ => lifted os started H enc)

/-- The statement. -/
theorem proved : Rows.VfsOwnCardSaid :=
  Claim7.holds_tied_plain_at .later [] [.data, .pinned] true (true, "d081cdf3d3310e3e0e8b05e0294794cdc5ec0bf0f4cabffa0a7de67e63638090") false
    over (fun _ h => by cases h) (by kernel_rfl) (fun _ h => by cases h) vfsOwn_row_tie rfl ⟨rfl, rfl⟩ (by kernel_rfl) rfl
    (fun f fn hf hfn => by
      obtain rfl : f = 4 := Option.some.inj ((show Tryd.prog.funcNamed "retort/retortlaw9.VfsOwn" = some 4 by kernel_rfl).symm.trans hf) |>.symm
      obtain rfl : fn = Tryd.f4 := (Option.some.inj (Tryd.func4.symm.trans hfn)).symm
      exact ⟨by kernel_rfl, fun j t ht => by
        rw [Tryd.params4] at ht
        have hm : t ∈ [40, 41] := by simpa using Array.mem_of_getElem? ht
        have hall : ([40, 41].all fun u => !Tryd.prog.wantsStandIn u) = true := by kernel_rfl
        exact (show Tryd.prog.wantsStandIn t = false by simpa using List.all_eq_true.1 hall t hm)⟩)
    (by kernel_rfl)
#print axioms proved
end Go.Proofs.YtepaojbhjgefiaaDoor.vfsOwn
