/- VfsPlaysUptoCardSaid: every script is told alike by the program's files and by the document's: the law returns true, the arguments read as they did; for arguments of at most 1048576 parts in all. -/
import Derived.Test.YtepaojbhjgefiaaGreatDoorTied
import Derived.Test.YtepaojbhjgefiaaGreatDoorVnB
import Derived.Test.YtepaojbhjgefiaaGreatDoorD7
set_option linter.unusedVariables false
set_option linter.unusedSimpArgs false
namespace Go.Proofs.YtepaojbhjgefiaaGreatDoor.vfsPlays
open Go.ChangeShapes Go.WideShapes Go.ChangeAt Go.RowKit

set_option maxRecDepth 100000 in
theorem lifted (os : Os) (started : os.Started) (H : Type) (enc : TypeId × Value → H) (F0 : Stop.Interp) :
    ReturnsInHanded {} Tryz.checked os 4 .any (fun w args => ((Rows.OpenSpec.upto Rows.vfsPlaysSpec).pre enc Tryz.prog Tryz.f4 Rows.vfsPlaysUptoRow.domain false w args ∧ laidMetH Tryz.prog Rows.vfsPlaysUptoRow.laid w) ∧ sizedMet enc Tryz.prog Tryz.f4 (Rows.OpenSpec.upto Rows.vfsPlaysSpec) false w args) (((Rows.OpenSpec.upto Rows.vfsPlaysSpec).at F0).post enc Tryz.prog Tryz.f4 false true false false) := by
  refine Go.Gx.returns_cond (C := Tryz.checked) (s := Rows.OpenSpec.upto Rows.vfsPlaysSpec) (k := Rows.uptoSmall) (X := fun w _ => laidMetH Tryz.prog Rows.vfsPlaysUptoRow.laid w) rfl Go.Gx.Tied.own started (by kernel_rfl) Tryz.func4
    (Go.Gx.witness_cond (enc := enc) (C := Tryz.checked) (s := Rows.OpenSpec.upto Rows.vfsPlaysSpec) (k := Rows.uptoSmall) (X := fun w _ => laidMetH Tryz.prog Rows.vfsPlaysUptoRow.laid w) rfl (World.laidAll Tryz.prog os Go.Gx.Tied.list) #[.slice none 0 0, .agg (Go.Gx.quoC 0 0 0).toArray, .slice none 0 0] 12 (World.laidAll_os _ _ _) (Go.Gx.Tied.shaped os _) (by kernel_rfl)
      (x := ([.nil, .agg [.lit (.int .i64 0), .lit (.int .i64 0), .lit (.int .i64 0)], .nil], [], [])) (by kernel_rfl) (by kernel_rfl) (by kernel_rfl) (by kernel_rfl) (Go.Gx.Tied.met os _)) ?_
  intro W base args ds gs before hval0 hW hk hsh
  have hval : ∀ (j : Nat) t v, Tryz.f4.params[j]? = some t → args[j]? = some v → Value.okWide Tryz.prog W .any base t v := hval0
  have hg : Go.Gx.Gl W := Go.Gx.gl_of_shaped hsh
  have hW' := hW
  obtain ⟨p, q, hA0, hV, rfl, hfz, hnd⟩ := hW
  have hA : DataW.TrodAll enc Tryz.prog W 0 (fun _ => true) true Tryz.f4.params.toList args.toList ds p := hA0
  rw [Tryz.params4] at hA hval
  obtain ⟨rfl, rfl⟩ := trodVars_none hV
  obtain ⟨vs, hargs, hA⟩ : ∃ vs, args = vs.toArray ∧ DataW.TrodAll enc Tryz.prog W 0 (fun _ => true) true [22, 24, 37] vs ds p := ⟨args.toList, rfl, hA⟩
  obtain rfl := hargs
  have hA1 := hA
  obtain ⟨v0, vs0, d0, ds0, p0, q0, rfl, rfl, rfl, h0, hA⟩ := trodAll_cons hA
  obtain ⟨v1, vs1, d1, ds1, p1, q1, rfl, rfl, rfl, h1, hA⟩ := trodAll_cons hA
  obtain ⟨v2, vs2, d2, ds2, p2, q2, rfl, rfl, rfl, h2, hA⟩ := trodAll_cons hA
  obtain ⟨rfl, rfl, rfl⟩ := trodAll_nil hA
  clear hA hval0
  simp only [List.append_nil] at hW' hk hA1 hfz hnd
  have hbulk : Rows.uptoBulkAll [d0, d1, d2] ≤ 1048576 := of_decide_eq_true hk
  simp only [Rows.uptoBulkAll] at hbulk
  obtain ⟨l0, he0, hr0, hn0⟩ := Go.Gx.open_itemsB (hval 0 22 v0 rfl rfl) h0
  obtain ⟨a1, b1, c1, hv1, ha1, hb1, hc1⟩ := Go.Gx.open_quo (hval 1 24 v1 rfl rfl) h1
  obtain ⟨l2, he2, hr2, hn2⟩ := Go.Gx.open_vstepsB (hval 2 37 v2 rfl rfl) h2
  replace hn0 := hn0 (by omega)
  replace hn2 := hn2 (by omega)
  subst hv1
  refine (Go.Gx.vfsPlays_spec W hg he0 ha1 hb1 hc1 hr0 hn0.1 hn0.2 he2 hn2.2).mono fun e W' ⟨he, hg⟩ => ?_
  subst he
  have hb := hg.below
  have hlt := fun x hx => hW'.lt x hx
  have hst := Go.Gx.trodAll_stays Go.Gx.Tied.laid hb hA1 (by simpa using hlt) (by intro t ht; simp only [List.mem_cons, List.not_mem_nil, or_false] at ht; rcases ht with rfl | rfl | rfl <;> exact ⟨by kernel_rfl, of_decide_eq_true (by kernel_rfl)⟩)
  refine ⟨_, rfl, [d0, d1, d2], [], _, [], _, [], hW', trodAll_cons_mk (shut_bool Tryz.underlying4 _) trodAll_mk0, hst, rfl, hb.frame _, fun h => by cases h⟩

theorem over : Rows.vfsPlaysUptoRow.holds Tryz.pinned (Rows.OpenSpec.upto Rows.vfsPlaysSpec) :=
  OpenClaim.holds_of_cond 4 Tryz.f4 rfl rfl rfl rfl rfl rfl rfl ⟨rfl, rfl, rfl, rfl, rfl⟩ rfl rfl rfl rfl rfl (by kernel_rfl) Tryz.func4 (by kernel_rfl)
    (of_decide_eq_true (by kernel_rfl)) (by unfold Func.isWrapper; first | (rw [if_pos (by decide +kernel)]; kernel_rfl) | (rw [if_neg (by decide +kernel)]; exact ⟨rfl, rfl⟩))
    (fun os started H enc _ F0 => lifted os started H enc F0)

/-- The statement. -/
theorem proved : Rows.VfsPlaysUptoCardSaid :=
  Claim7.holds_tied_plain_at .later [] [.data, .pinned] true (true, "df75f9ebe914f134f7ae100bf6261b35c514ffdaa2320c64f4a71ffac06c20e6") false
    over (fun _ h => by cases h) (by kernel_rfl) (fun _ h => by cases h) vfsPlaysUpto_row_tie rfl ⟨rfl, rfl⟩ (by kernel_rfl) rfl
    (fun f fn hf hfn => by
      obtain rfl : f = 4 := Option.some.inj ((show Tryz.prog.funcNamed "retort/retortlaw9.VfsPlays" = some 4 by kernel_rfl).symm.trans hf) |>.symm
      obtain rfl : fn = Tryz.f4 := (Option.some.inj (Tryz.func4.symm.trans hfn)).symm
      exact ⟨by kernel_rfl, fun j t ht => by
        rw [Tryz.params4] at ht
        have hm : t ∈ [22, 24, 37] := by simpa using Array.mem_of_getElem? ht
        have hall : ([22, 24, 37].all fun u => !Tryz.prog.wantsStandIn u) = true := by kernel_rfl
        exact (show Tryz.prog.wantsStandIn t = false by simpa using List.all_eq_true.1 hall t hm)⟩)
    (by kernel_rfl)
#print axioms proved
end Go.Proofs.YtepaojbhjgefiaaGreatDoor.vfsPlays
