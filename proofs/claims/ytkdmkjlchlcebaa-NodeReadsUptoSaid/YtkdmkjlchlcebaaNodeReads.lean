/- NodeReadsUptoSaid: every Decode, of any bytes, where the bytes' bulk is at most 1048576: the law returns true, the bytes read as they did. -/
import Derived.Test.YtkdmkjlchlcebaaFrame2
import Derived.Test.YtkdmkjlchlcebaaL2
namespace Go.Proofs.Ytkdmkjlchlcebaa.nodeReads
open Go.ChangeShapes Go.WideShapes Go.ChangeAt Go.RowKit
set_option linter.unusedVariables false

theorem own : ownKnob Try.prog.godebug = none := by kernel_rfl
theorem laid : laidOutB Try.prog = true := by kernel_rfl

set_option maxRecDepth 100000 in
theorem lifted (os : Os) (started : os.Started) (H : Type) (enc : TypeId × Value → H) (F0 : Stop.Interp) :
    ReturnsInHanded {} Try.checked os 4 .any ((Rows.OpenSpec.upto Rows.nodeReadsSpec).pre6 enc Try.prog Try.f4 Rows.nodeReadsUptoRow.domain false) (((Rows.OpenSpec.upto Rows.nodeReadsSpec).at F0).post enc Try.prog Try.f4 false true false false) := by
  refine returnsInHanded_of_cond (C := Try.checked) (s := Rows.OpenSpec.upto Rows.nodeReadsSpec) (k := Rows.uptoSmall) rfl own started (by kernel_rfl) Try.func4
    (OpenSpec.witness (enc := enc) (C := Try.checked) (s := Rows.OpenSpec.upto Rows.nodeReadsSpec) (k := Rows.uptoSmall) rfl false ⟨#[], #[.slice none 0 0], []⟩ 12 (by kernel_rfl) (by kernel_rfl) (by kernel_rfl)
      (x := ([.nil], [], [])) (by kernel_rfl) (by kernel_rfl) (by kernel_rfl)) ?_
  intro W base args ds gs before hval0 hW _ hk _
  have hval : ∀ (j : Nat) t v, Try.f4.params[j]? = some t → args[j]? = some v → Value.okWide Try.prog W .any base t v := hval0
  have hW' := hW
  obtain ⟨p, q, hA0, hV, rfl, hfz, hnd⟩ := hW
  have hA : DataW.TrodAll enc Try.prog W 0 (fun _ => true) true Try.f4.params.toList args.toList ds p := hA0
  rw [Try.params4] at hA hval
  obtain ⟨rfl, rfl⟩ := trodVars_none hV
  obtain ⟨vs, hargs, hA⟩ : ∃ vs, args = vs.toArray ∧ DataW.TrodAll enc Try.prog W 0 (fun _ => true) true [29] vs ds p := ⟨args.toList, rfl, hA⟩
  obtain rfl := hargs
  have hA1 := hA
  obtain ⟨v0, vs0, d0, ds0, p0, q0, rfl, rfl, rfl, h0, hA⟩ := trodAll_cons hA
  obtain ⟨rfl, rfl, rfl⟩ := trodAll_nil hA
  clear hA hval0
  simp only [List.append_nil] at hW' hk hA1 hfz hnd
  have hbulk : Rows.uptoBulkAll [d0] ≤ 1048576 := of_decide_eq_true hk
  simp only [Rows.uptoBulkAll] at hbulk
  obtain ⟨s0, he0, hr0, hn0⟩ := Go.Gx.open_bytes (hval 0 29 v0 rfl rfl) h0 (by omega)
  refine (Go.Gx.reads_spec W he0 hr0 (by omega)).mono fun e W' ⟨he, hg⟩ => ?_
  subst he
  have hb := hg.below
  have hlt := fun x hx => hW'.lt x hx
  have hst := Go.Gx.trodAll_stays laid hb hA1 (by simpa using hlt) (by intro t ht; simp only [List.mem_cons, List.not_mem_nil, or_false] at ht; rcases ht with rfl <;> exact ⟨by kernel_rfl, of_decide_eq_true (by kernel_rfl)⟩)
  refine ⟨_, rfl, [d0], [], _, [], _, [], hW', trodAll_cons_mk (shut_bool Try.underlying4 _) trodAll_mk0, hst, rfl, hb.frame _, fun h => by cases h⟩

theorem over : Rows.nodeReadsUptoRow.holds Try.pinned (Rows.OpenSpec.upto Rows.nodeReadsSpec) :=
  OpenClaim.holds_of_cond 4 Try.f4 rfl rfl rfl rfl rfl rfl rfl ⟨rfl, rfl, rfl, rfl, rfl⟩ rfl rfl rfl rfl rfl (by kernel_rfl) Try.func4 (by kernel_rfl)
    (of_decide_eq_true (by kernel_rfl)) (by unfold Func.isWrapper; first | (rw [if_pos (by decide +kernel)]; kernel_rfl) | (rw [if_neg (by decide +kernel)]; exact ⟨rfl, rfl⟩))
    (fun os started H enc _ F0 => lifted os started H enc F0)

/-- The statement. -/
theorem proved : Rows.NodeReadsUptoSaid :=
  over
#print axioms proved
end Go.Proofs.Ytkdmkjlchlcebaa.nodeReads
