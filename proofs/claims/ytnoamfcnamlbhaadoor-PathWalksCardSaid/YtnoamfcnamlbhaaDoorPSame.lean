/- The laws' same; PathParts; PathLine. -/
import Derived.Test.YtnoamfcnamlbhaaDoorPNames2
namespace Go.Gx
open Go.Proofs Go.RowKit
set_option linter.unusedVariables false
set_option linter.unusedSimpArgs false
set_option maxRecDepth 100000

theorem same_spec3 {x y : List (List UInt8)} {a a2 : Option Addr} {c c2 : Nat} (w0 : World) (hx : Texts w0 a x) (hy : Texts w0 a2 y) (hxl : x.length ≤ 9223372036854775800) (hyl : y.length ≤ 9223372036854775800) :
    Calls Tryd.prog 28 #[.slice a x.length c, .slice a2 y.length c2] w0 (Ret0 (.bool (decide (x = y))) w0) := by
  have hs : Step [] [] w0 w0 := Step.refl w0
  by_cases hle : x.length = y.length
  · refine calls (n := 26) Tryd.func28 rfl rfl rfl ?_
    repeat (first | refine CW.seq ?_ | refine CW.block ?_ | refine CW.skip ?_ | refine CW.label ?_ | refine CW.exit ?_ | refine CW.condT rfl ?_ | refine CW.condF rfl ?_)
    refine CW.reg ?_
    refine WL.val rfl (run_assign) ?_
    refine WL.nil ?_
    repeat (first | refine CW.seq ?_ | refine CW.block ?_ | refine CW.skip ?_ | refine CW.label ?_ | refine CW.exit ?_ | refine CW.condT rfl ?_ | refine CW.condF rfl ?_)
    refine CW.reg ?_
    refine WL.val rfl (run_move) ?_
    refine WL.val rfl (run_lenSl Tryd.underlying34 rfl) ?_
    refine WL.val rfl (run_move) ?_
    refine WL.val rfl (run_lenSl Tryd.underlying34 rfl) ?_
    refine WL.val rfl (run_bF (run_neq rfl rfl) (by omega)) ?_
    refine WL.nil ?_
    repeat (first | refine CW.seq ?_ | refine CW.block ?_ | refine CW.skip ?_ | refine CW.label ?_ | refine CW.exit ?_ | refine CW.condT rfl ?_ | refine CW.condF rfl ?_)
    refine CW.reg ?_
    refine WL.val rfl (run_assign) ?_
    refine WL.nil ?_
    repeat (first | refine CW.seq ?_ | refine CW.block ?_ | refine CW.skip ?_ | refine CW.label ?_ | refine CW.exit ?_ | refine CW.condT rfl ?_ | refine CW.condF rfl ?_)
    refine CW.loop (fun m f w' => ∃ i, i ≤ x.length ∧ m = x.length - i ∧ x.take i = y.take i ∧ Step [] [] w0 w' ∧ Holds f [(0, .slice a x.length c), (1, .slice a2 y.length c2), (5, .int .i64 i)]) (m := x.length) ?_ ?_
    · exact ⟨0, by omega, by omega, by simp, Step.refl _, rfl, rfl, rfl, trivial⟩
    · clear hs
      rintro m f w' ⟨i, hi, rfl, hsame, hs, hf⟩
      have hobt := hf.chain
      obtain ⟨g, rfl⟩ := hobt
      by_cases hlt : i < x.length
      · have hobt := hx.get hlt
        obtain ⟨bx, p, rfl, hpi, hpm, hcp⟩ := hobt
        have hobt := hy.get (show i < y.length by omega)
        obtain ⟨bq, q, rfl, hqi, hqm, hcq⟩ := hobt
        by_cases hpq : p = q
        · repeat (first | refine CW.seq ?_ | refine CW.block ?_ | refine CW.skip ?_ | refine CW.label ?_ | refine CW.exit ?_ | refine CW.condT rfl ?_ | refine CW.condF rfl ?_)
          refine CW.reg ?_
          refine WL.val rfl (run_move) ?_
          refine WL.val rfl (run_move) ?_
          refine WL.val rfl (run_lenSl Tryd.underlying34 rfl) ?_
          refine WL.val rfl (run_bT (run_lss rfl rfl) (by omega)) ?_
          refine WL.nil ?_
          repeat (first | refine CW.seq ?_ | refine CW.block ?_ | refine CW.skip ?_ | refine CW.label ?_ | refine CW.exit ?_ | refine CW.condT rfl ?_ | refine CW.condF rfl ?_)
          refine CW.quiet mixedP (by kernel_rfl) hs ?_
          refine QL.val rfl (fun w hs => run_move) ?_
          refine QL.val rfl (fun w hs => run_move) ?_
          first | refine QL.val rfl (fun w hs => run_ixSlN Tryd.underlying34 ty9 rfl rfl (by omega)) ?_ | refine QL.val rfl (fun w hs => run_ixSl Tryd.underlying34 ty9 rfl rfl (by omega)) ?_
          refine QL.val rfl (fun w hs => run_load1 ty9 rfl ((hcp hs))) ?_
          refine QL.val rfl (fun w hs => run_move) ?_
          refine QL.val rfl (fun w hs => run_move) ?_
          first | refine QL.val rfl (fun w hs => run_ixSlN Tryd.underlying34 ty9 rfl rfl (by omega)) ?_ | refine QL.val rfl (fun w hs => run_ixSl Tryd.underlying34 ty9 rfl rfl (by omega)) ?_
          refine QL.val rfl (fun w hs => run_load1 ty9 rfl ((hcq hs))) ?_
          refine QL.val rfl (fun w hs => run_bF (run_strNe rfl rfl) (by (exact fun h => h hpq))) ?_
          refine QL.nil (fun w hs => ?_)
          repeat (first | refine CW.seq ?_ | refine CW.block ?_ | refine CW.skip ?_ | refine CW.label ?_ | refine CW.exit ?_ | refine CW.condT rfl ?_ | refine CW.condF rfl ?_)
          refine CW.reg ?_
          refine WL.val rfl (run_move) ?_
          refine WL.val rfl (run_add (c := ((i + 1 : Nat) : Int)) rfl rfl (by omega) (by omega)) ?_
          refine WL.val rfl (run_assign) ?_
          refine WL.nil ?_
          repeat (first | refine CW.seq ?_ | refine CW.block ?_ | refine CW.skip ?_ | refine CW.label ?_ | refine CW.exit ?_)
          refine (show _ ∧ _ from ⟨rfl, _, ?_, i + 1, by omega, rfl, ?_, hs, rfl, rfl, rfl, trivial⟩)
          · omega
          · rw [List.take_add_one, List.take_add_one, hsame, hpi, hqi, hpq]
        · repeat (first | refine CW.seq ?_ | refine CW.block ?_ | refine CW.skip ?_ | refine CW.label ?_ | refine CW.exit ?_ | refine CW.condT rfl ?_ | refine CW.condF rfl ?_)
          refine CW.reg ?_
          refine WL.val rfl (run_move) ?_
          refine WL.val rfl (run_move) ?_
          refine WL.val rfl (run_lenSl Tryd.underlying34 rfl) ?_
          refine WL.val rfl (run_bT (run_lss rfl rfl) (by omega)) ?_
          refine WL.nil ?_
          repeat (first | refine CW.seq ?_ | refine CW.block ?_ | refine CW.skip ?_ | refine CW.label ?_ | refine CW.exit ?_ | refine CW.condT rfl ?_ | refine CW.condF rfl ?_)
          refine CW.quiet mixedP (by kernel_rfl) hs ?_
          refine QL.val rfl (fun w hs => run_move) ?_
          refine QL.val rfl (fun w hs => run_move) ?_
          first | refine QL.val rfl (fun w hs => run_ixSlN Tryd.underlying34 ty9 rfl rfl (by omega)) ?_ | refine QL.val rfl (fun w hs => run_ixSl Tryd.underlying34 ty9 rfl rfl (by omega)) ?_
          refine QL.val rfl (fun w hs => run_load1 ty9 rfl ((hcp hs))) ?_
          refine QL.val rfl (fun w hs => run_move) ?_
          refine QL.val rfl (fun w hs => run_move) ?_
          first | refine QL.val rfl (fun w hs => run_ixSlN Tryd.underlying34 ty9 rfl rfl (by omega)) ?_ | refine QL.val rfl (fun w hs => run_ixSl Tryd.underlying34 ty9 rfl rfl (by omega)) ?_
          refine QL.val rfl (fun w hs => run_load1 ty9 rfl ((hcq hs))) ?_
          refine QL.val rfl (fun w hs => run_bT (run_strNe rfl rfl) (by exact hpq)) ?_
          refine QL.nil (fun w hs => ?_)
          repeat (first | refine CW.seq ?_ | refine CW.block ?_ | refine CW.skip ?_ | refine CW.label ?_ | refine CW.exit ?_ | refine CW.condT rfl ?_ | refine CW.condF rfl ?_)
          refine CW.reg ?_
          refine WL.val rfl (run_assign) ?_
          refine WL.nil ?_
          repeat (first | refine CW.seq ?_ | refine CW.block ?_ | refine CW.skip ?_ | refine CW.label ?_ | refine CW.exit ?_ | refine CW.condT rfl ?_ | refine CW.condF rfl ?_)
          refine CW.ret ?_
          refine fin_ret1 rfl ?_
          refine ⟨congrArg (fun b => Ending.returned (.bool b)) (show false = decide (x = y) from (decide_eq_false fun h => hpq ?_).symm), hs⟩
          rw [h, hqi] at hpi
          exact (Option.some.inj hpi).symm
      · obtain rfl : i = x.length := by omega
        repeat (first | refine CW.seq ?_ | refine CW.block ?_ | refine CW.skip ?_ | refine CW.label ?_ | refine CW.exit ?_ | refine CW.condT rfl ?_ | refine CW.condF rfl ?_)
        refine CW.reg ?_
        refine WL.val rfl (run_move) ?_
        refine WL.val rfl (run_move) ?_
        refine WL.val rfl (run_lenSl Tryd.underlying34 rfl) ?_
        refine WL.val rfl (run_bF (run_lss rfl rfl) (by omega)) ?_
        refine WL.nil ?_
        repeat (first | refine CW.seq ?_ | refine CW.block ?_ | refine CW.skip ?_ | refine CW.label ?_ | refine CW.exit ?_ | refine CW.condT rfl ?_ | refine CW.condF rfl ?_)
        refine CW.reg ?_
        refine WL.val rfl (run_assign) ?_
        refine WL.nil ?_
        repeat (first | refine CW.seq ?_ | refine CW.block ?_ | refine CW.skip ?_ | refine CW.label ?_ | refine CW.exit ?_ | refine CW.condT rfl ?_ | refine CW.condF rfl ?_)
        refine CW.ret ?_
        refine fin_ret1 rfl ?_
        refine ⟨congrArg (fun b => Ending.returned (.bool b)) (show true = decide (x = y) from (decide_eq_true ?_).symm), hs⟩
        rw [List.take_length] at hsame
        rw [hsame, hle, List.take_length]
  · refine calls (n := 26) Tryd.func28 rfl rfl rfl ?_
    repeat (first | refine CW.seq ?_ | refine CW.block ?_ | refine CW.skip ?_ | refine CW.label ?_ | refine CW.exit ?_ | refine CW.condT rfl ?_ | refine CW.condF rfl ?_)
    refine CW.reg ?_
    refine WL.val rfl (run_assign) ?_
    refine WL.nil ?_
    repeat (first | refine CW.seq ?_ | refine CW.block ?_ | refine CW.skip ?_ | refine CW.label ?_ | refine CW.exit ?_ | refine CW.condT rfl ?_ | refine CW.condF rfl ?_)
    refine CW.reg ?_
    refine WL.val rfl (run_move) ?_
    refine WL.val rfl (run_lenSl Tryd.underlying34 rfl) ?_
    refine WL.val rfl (run_move) ?_
    refine WL.val rfl (run_lenSl Tryd.underlying34 rfl) ?_
    refine WL.val rfl (run_bT (run_neq rfl rfl) (by omega)) ?_
    refine WL.nil ?_
    repeat (first | refine CW.seq ?_ | refine CW.block ?_ | refine CW.skip ?_ | refine CW.label ?_ | refine CW.exit ?_ | refine CW.condT rfl ?_ | refine CW.condF rfl ?_)
    refine CW.reg ?_
    refine WL.val rfl (run_assign) ?_
    refine WL.nil ?_
    repeat (first | refine CW.seq ?_ | refine CW.block ?_ | refine CW.skip ?_ | refine CW.label ?_ | refine CW.exit ?_ | refine CW.condT rfl ?_ | refine CW.condF rfl ?_)
    refine CW.ret ?_
    refine fin_ret1 rfl ?_
    exact ⟨congrArg (fun b => Ending.returned (.bool b)) (show false = decide (x = y) from (decide_eq_false fun h => hle (by rw [h])).symm), hs⟩

theorem sameT_spec {x : List (List UInt8)} {a a2 : Option Addr} {c c2 : Nat} (w0 : World) (hx : Texts w0 a x) (hy : Texts w0 a2 x) (hxl : x.length ≤ 9223372036854775800) :
    Calls Tryd.prog 28 #[.slice a x.length c, .slice a2 x.length c2] w0 (Ret0 (.bool true) w0) := by
  have h := same_spec3 (c := c) (c2 := c2) w0 hx hy hxl hxl
  rw [decide_eq_true (rfl : x = x)] at h
  exact h

set_option maxHeartbeats 4000000 in
theorem pathParts_spec {s n : List UInt8} (w0 : World) (hk : Knows) (hg : Gl w0) (hs1 : s.length ≤ 9223372036854775807) (hn1 : n.length ≤ 9223372036854775807) : Calls Tryd.prog 9 #[str s, str n] w0 (Ret0 (.bool true) w0) := by
  have hs : Step [] [] w0 w0 := Step.refl w0
  by_cases hbig : 16777216 < s.length
  · refine calls (n := 91) Tryd.func9 rfl rfl rfl ?_
    repeat (first | refine CW.seq ?_ | refine CW.block ?_ | refine CW.skip ?_ | refine CW.label ?_ | refine CW.exit ?_ | refine CW.condT rfl ?_ | refine CW.condF rfl ?_)
    refine CW.reg ?_
    refine WL.val rfl (run_assign) ?_
    refine WL.nil ?_
    repeat (first | refine CW.seq ?_ | refine CW.block ?_ | refine CW.skip ?_ | refine CW.label ?_ | refine CW.exit ?_ | refine CW.condT rfl ?_ | refine CW.condF rfl ?_)
    refine CW.reg ?_
    refine WL.enter rfl (run_call en11 rfl rfl) (hk _ hg) ?_
    rintro e w ⟨rfl, hq⟩
    refine ⟨_, rfl, ?_⟩
    replace hs := hs.callE hq
    first | refine WL.val rfl (run_notB rfl) ?_ | refine WL.val rfl (run_not rfl) ?_
    refine WL.nil ?_
    repeat (first | refine CW.seq ?_ | refine CW.block ?_ | refine CW.skip ?_ | refine CW.label ?_ | refine CW.exit ?_ | refine CW.condT rfl ?_ | refine CW.condF rfl ?_)
    refine CW.reg ?_
    refine WL.val rfl (run_move) ?_
    refine WL.val rfl (run_lenStr Tryd.underlying9 rfl) ?_
    refine WL.val rfl (run_bT (run_gtr rfl rfl) (by omega)) ?_
    refine WL.nil ?_
    repeat (first | refine CW.seq ?_ | refine CW.block ?_ | refine CW.skip ?_ | refine CW.label ?_ | refine CW.exit ?_ | refine CW.condT rfl ?_ | refine CW.condF rfl ?_)
    refine CW.reg ?_
    refine WL.val rfl (run_assign) ?_
    refine WL.nil ?_
    repeat (first | refine CW.seq ?_ | refine CW.block ?_ | refine CW.skip ?_ | refine CW.label ?_ | refine CW.exit ?_ | refine CW.condT rfl ?_ | refine CW.condF rfl ?_)
    refine CW.ret ?_
    refine fin_ret1 rfl ?_
    exact ⟨rfl, hs⟩
  · have hpl := partsL_len s
    have c1 := fun w hg => splitP_spec (p := s) w hg hs1
    have c2 := fun w => refSplit_spec (p := s) w (by omega)
    have c3 := fun w hg => joinP_spec (p := s) (n := n) w hg hs1 hn1
    have c4 := fun w => refJoin_spec (p := s) (n := n) w (by omega) hn1
    have c5 := fun w hg => names_spec (s := s) w hg (by omega)
    have c6 := fun w => refParts_spec (s := s) w (by omega)
    have c7 := fun w hg => depth_spec (s := s) w hg (by omega)
    have hobt : ∃ v, splitR s = v := ⟨_, rfl⟩
    obtain ⟨v, hv⟩ := hobt
    obtain ⟨v1, v2, v3⟩ := v
    have hobt : ∃ u, joinR s n = u := ⟨_, rfl⟩
    obtain ⟨u, hu⟩ := hobt
    obtain ⟨u1, u2⟩ := u
    have hobt : ∃ x, partsL s = x := ⟨_, rfl⟩
    obtain ⟨x, hx⟩ := hobt
    simp only [hv] at c1 c2
    simp only [hu] at c3 c4
    simp only [hx] at c5 c6 c7 hpl
    refine calls (n := 91) Tryd.func9 rfl rfl rfl ?_
    repeat (first | refine CW.seq ?_ | refine CW.block ?_ | refine CW.skip ?_ | refine CW.label ?_ | refine CW.exit ?_ | refine CW.condT rfl ?_ | refine CW.condF rfl ?_)
    refine CW.reg ?_
    refine WL.val rfl (run_assign) ?_
    refine WL.nil ?_
    repeat (first | refine CW.seq ?_ | refine CW.block ?_ | refine CW.skip ?_ | refine CW.label ?_ | refine CW.exit ?_ | refine CW.condT rfl ?_ | refine CW.condF rfl ?_)
    refine CW.reg ?_
    refine WL.enter rfl (run_call en11 rfl rfl) (hk _ hg) ?_
    rintro e w ⟨rfl, hq⟩
    refine ⟨_, rfl, ?_⟩
    replace hs := hs.callE hq
    first | refine WL.val rfl (run_notB rfl) ?_ | refine WL.val rfl (run_not rfl) ?_
    refine WL.nil ?_
    repeat (first | refine CW.seq ?_ | refine CW.block ?_ | refine CW.skip ?_ | refine CW.label ?_ | refine CW.exit ?_ | refine CW.condT rfl ?_ | refine CW.condF rfl ?_)
    refine CW.reg ?_
    refine WL.val rfl (run_move) ?_
    refine WL.val rfl (run_lenStr Tryd.underlying9 rfl) ?_
    refine WL.val rfl (run_bF (run_gtr rfl rfl) (by omega)) ?_
    refine WL.nil ?_
    repeat (first | refine CW.seq ?_ | refine CW.block ?_ | refine CW.skip ?_ | refine CW.label ?_ | refine CW.exit ?_ | refine CW.condT rfl ?_ | refine CW.condF rfl ?_)
    refine CW.reg ?_
    refine WL.val rfl (run_move) ?_
    refine WL.enter rfl (run_call en29 rfl rfl) (c1 _ (hg.step hs)) ?_
    rintro e w ⟨rfl, hq⟩
    refine ⟨_, rfl, ?_⟩
    replace hs := hs.callE hq
    refine WL.val rfl (run_move) ?_
    refine WL.val rfl (run_extract rfl rfl) ?_
    refine WL.val rfl (run_extract rfl rfl) ?_
    refine WL.val rfl (run_extract rfl rfl) ?_
    refine WL.val rfl (run_assign) ?_
    refine WL.val rfl (run_assign) ?_
    refine WL.val rfl (run_assign) ?_
    refine WL.nil ?_
    repeat (first | refine CW.seq ?_ | refine CW.block ?_ | refine CW.skip ?_ | refine CW.label ?_ | refine CW.exit ?_ | refine CW.condT rfl ?_ | refine CW.condF rfl ?_)
    refine CW.reg ?_
    refine WL.val rfl (run_move) ?_
    refine WL.enter rfl (run_call en30 rfl rfl) (c2 _) ?_
    rintro e w ⟨rfl, hq⟩
    refine ⟨_, rfl, ?_⟩
    replace hs := hs.callE hq
    refine WL.val rfl (run_move) ?_
    refine WL.val rfl (run_extract rfl rfl) ?_
    refine WL.val rfl (run_extract rfl rfl) ?_
    refine WL.val rfl (run_extract rfl rfl) ?_
    refine WL.val rfl (run_assign) ?_
    refine WL.val rfl (run_assign) ?_
    refine WL.val rfl (run_assign) ?_
    refine WL.nil ?_
    repeat (first | refine CW.seq ?_ | refine CW.block ?_ | refine CW.skip ?_ | refine CW.label ?_ | refine CW.exit ?_ | refine CW.condT rfl ?_ | refine CW.condF rfl ?_)
    refine CW.reg ?_
    refine WL.val rfl (run_move) ?_
    refine WL.val rfl (run_move) ?_
    refine WL.enter rfl (run_call en31 rfl rfl) (c3 _ (hg.step hs)) ?_
    rintro e w ⟨rfl, hq⟩
    refine ⟨_, rfl, ?_⟩
    replace hs := hs.callE hq
    refine WL.val rfl (run_move) ?_
    refine WL.val rfl (run_extract rfl rfl) ?_
    refine WL.val rfl (run_extract rfl rfl) ?_
    refine WL.val rfl (run_assign) ?_
    refine WL.val rfl (run_assign) ?_
    refine WL.nil ?_
    repeat (first | refine CW.seq ?_ | refine CW.block ?_ | refine CW.skip ?_ | refine CW.label ?_ | refine CW.exit ?_ | refine CW.condT rfl ?_ | refine CW.condF rfl ?_)
    refine CW.reg ?_
    refine WL.val rfl (run_move) ?_
    refine WL.val rfl (run_move) ?_
    refine WL.enter rfl (run_call en32 rfl rfl) (c4 _) ?_
    rintro e w ⟨rfl, hq⟩
    refine ⟨_, rfl, ?_⟩
    replace hs := hs.callE hq
    refine WL.val rfl (run_move) ?_
    refine WL.val rfl (run_extract rfl rfl) ?_
    refine WL.val rfl (run_extract rfl rfl) ?_
    refine WL.val rfl (run_assign) ?_
    refine WL.val rfl (run_assign) ?_
    refine WL.nil ?_
    repeat (first | refine CW.seq ?_ | refine CW.block ?_ | refine CW.skip ?_ | refine CW.label ?_ | refine CW.exit ?_ | refine CW.condT rfl ?_ | refine CW.condF rfl ?_)
    refine CW.reg ?_
    refine WL.val rfl (run_move) ?_
    refine WL.enter rfl (run_call en20 rfl rfl) (c5 _ (hg.step hs)) ?_
    rintro e w ⟨u0, Lu, rfl, hu0, hqs⟩
    refine ⟨_, rfl, ?_⟩
    have hxx := cellsOf hu0 hqs
    obtain ⟨a, c, hq3, hcl, hcx⟩ := hxx
    subst hq3
    replace hcx : Texts _ _ _ := hcx
    replace hs := hs.call0 (hqs.dropR (L1 := []))
    refine WL.val rfl (run_move) ?_
    refine WL.val rfl (run_extract rfl rfl) ?_
    refine WL.val rfl (run_extract rfl rfl) ?_
    refine WL.val rfl (run_assign) ?_
    refine WL.val rfl (run_assign) ?_
    refine WL.nil ?_
    repeat (first | refine CW.seq ?_ | refine CW.block ?_ | refine CW.skip ?_ | refine CW.label ?_ | refine CW.exit ?_ | refine CW.condT rfl ?_ | refine CW.condF rfl ?_)
    refine CW.reg ?_
    refine WL.val rfl (run_move) ?_
    refine WL.val rfl (run_move) ?_
    refine WL.val rfl (run_bT (run_strEq rfl rfl) (by rfl)) ?_
    refine WL.val rfl (run_move) ?_
    refine WL.yes rfl rfl rfl ?_
    refine WL.val rfl (run_move) ?_
    refine WL.yes rfl rfl rfl ?_
    refine WL.val rfl (run_move) ?_
    refine WL.yes rfl rfl rfl ?_
    refine WL.val rfl (run_bT (run_strEq rfl rfl) (by rfl)) ?_
    first | refine WL.val rfl (run_pickT rfl) ?_ | refine WL.val rfl (run_pickF rfl) ?_
    refine WL.val rfl (run_move) ?_
    refine WL.yes rfl rfl rfl ?_
    refine WL.val rfl (run_move) ?_
    refine WL.yes rfl rfl rfl ?_
    refine WL.val rfl (run_move) ?_
    refine WL.yes rfl rfl rfl ?_
    refine WL.val rfl (run_bT (run_eql rfl rfl) (by rfl)) ?_
    first | refine WL.val rfl (run_pickT rfl) ?_ | refine WL.val rfl (run_pickF rfl) ?_
    refine WL.val rfl (run_move) ?_
    refine WL.yes rfl rfl rfl ?_
    refine WL.val rfl (run_move) ?_
    refine WL.yes rfl rfl rfl ?_
    refine WL.val rfl (run_move) ?_
    refine WL.yes rfl rfl rfl ?_
    refine WL.val rfl (run_bT (run_strEq rfl rfl) (by rfl)) ?_
    first | refine WL.val rfl (run_pickT rfl) ?_ | refine WL.val rfl (run_pickF rfl) ?_
    refine WL.val rfl (run_move) ?_
    refine WL.yes rfl rfl rfl ?_
    refine WL.val rfl (run_move) ?_
    refine WL.yes rfl rfl rfl ?_
    refine WL.val rfl (run_move) ?_
    refine WL.yes rfl rfl rfl ?_
    refine WL.val rfl (run_bT (run_eql rfl rfl) (by rfl)) ?_
    first | refine WL.val rfl (run_pickT rfl) ?_ | refine WL.val rfl (run_pickF rfl) ?_
    refine WL.val rfl (run_move) ?_
    refine WL.yes rfl rfl rfl ?_
    refine WL.val rfl (run_move) ?_
    first | refine WL.val rfl (run_pickT rfl) ?_ | refine WL.val rfl (run_pickF rfl) ?_
    refine WL.val rfl (run_move) ?_
    refine WL.yes rfl rfl rfl ?_
    refine WL.val rfl (run_move) ?_
    refine WL.yes rfl rfl rfl ?_
    refine WL.val rfl (run_move) ?_
    refine WL.yes rfl rfl rfl ?_
    refine WL.enter rfl (run_call en33 rfl rfl) (c6 _) ?_
    rintro e w ⟨u3, Lv, rfl, hv3, hq2⟩
    refine ⟨_, rfl, ?_⟩
    have hyy := cellsOf hv3 hq2
    obtain ⟨a2, c2', hq4, hcl2, hcy⟩ := hyy
    subst hq4
    replace hcy : Texts _ _ _ := hcy
    have hcx2 : Texts _ _ _ := Sl0.keep hcx hq2
    replace hs := hs.call0 (hq2.dropR (L1 := []))
    refine WL.yes rfl rfl rfl ?_
    refine WL.enter rfl (run_call en28 rfl rfl) (sameT_spec _ hcx2 hcy (by omega)) ?_
    rintro e w ⟨rfl, hq⟩
    refine ⟨_, rfl, ?_⟩
    replace hs := hs.callE hq
    first | refine WL.val rfl (run_pickT rfl) ?_ | refine WL.val rfl (run_pickF rfl) ?_
    refine WL.val rfl (run_move) ?_
    refine WL.yes rfl rfl rfl ?_
    refine WL.val rfl (run_move) ?_
    refine WL.yes rfl rfl rfl ?_
    refine WL.enter rfl (run_call en23 rfl rfl) (c7 _ (hg.step hs)) ?_
    rintro e w ⟨rfl, hq⟩
    refine ⟨_, rfl, ?_⟩
    replace hs := hs.callE hq
    refine WL.yes rfl rfl rfl ?_
    refine WL.val rfl (run_move) ?_
    refine WL.yes rfl rfl rfl ?_
    refine WL.enter rfl (run_call en33 rfl rfl) (c6 _) ?_
    rintro e w ⟨u4, Lv4, rfl, hv4, hq5⟩
    refine ⟨_, rfl, ?_⟩
    replace hs := hs.call0 (hq5.dropR (L1 := []))
    have hform := hv4.form
    obtain ⟨a4, c4', hq6⟩ := hform
    subst hq6
    refine WL.yes rfl rfl rfl ?_
    refine WL.val rfl (run_lenSl Tryd.underlying34 rfl) ?_
    refine WL.yes rfl rfl rfl ?_
    refine WL.val rfl (run_bT (run_eql rfl rfl) (by rfl)) ?_
    first | refine WL.val rfl (run_pickT rfl) ?_ | refine WL.val rfl (run_pickF rfl) ?_
    refine WL.val rfl (run_assign) ?_
    refine WL.nil ?_
    repeat (first | refine CW.seq ?_ | refine CW.block ?_ | refine CW.skip ?_ | refine CW.label ?_ | refine CW.exit ?_ | refine CW.condT rfl ?_ | refine CW.condF rfl ?_)
    refine CW.ret ?_
    refine fin_ret1 rfl ?_
    exact ⟨rfl, hs⟩
end Go.Gx
