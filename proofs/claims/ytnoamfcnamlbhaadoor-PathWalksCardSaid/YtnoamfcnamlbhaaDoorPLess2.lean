/- CompareFunc at texts, and Less. -/
import Derived.Test.YtnoamfcnamlbhaaDoorPLess
import Derived.Test.YtnoamfcnamlbhaaDoorPan
namespace Go.Gx
open Go.Proofs Go.RowKit
set_option linter.unusedVariables false
set_option linter.unusedSimpArgs false
set_option maxRecDepth 100000

set_option maxHeartbeats 2000000 in
theorem compareF_spec {a a2 : Option Addr} {c c2 : Nat} {x y : List (List UInt8)} (w0 : World) (hxl : x.length ≤ c) (hyl : y.length ≤ c2) (hbx : x.length ≤ 9223372036854775800) (hby : y.length ≤ 9223372036854775800)
    (hx : x = [] ∨ ∃ bp, a = some ⟨bp, 0, none⟩ ∧ ∀ i p, x[i]? = some p → w0.cell? ⟨bp, 0 + i * 1, none⟩ = some (str p))
    (hy : y = [] ∨ ∃ bp, a2 = some ⟨bp, 0, none⟩ ∧ ∀ i p, y[i]? = some p → w0.cell? ⟨bp, 0 + i * 1, none⟩ = some (str p)) :
    Calls Tryd.prog 45 #[.slice a x.length c, .slice a2 y.length c2, .func (.func 46) #[] #[]] w0 (Ret0 (.int .i64 (cmpF x y)) w0) := by
  have hs : Step [] [] w0 w0 := Step.refl w0
  refine calls (n := 39) Tryd.func45 rfl rfl rfl ?_
  repeat (first | refine CW.seq ?_ | refine CW.block ?_ | refine CW.skip ?_ | refine CW.label ?_ | refine CW.exit ?_ | refine CW.condT rfl ?_ | refine CW.condF rfl ?_)
  refine CW.reg ?_
  refine WL.val rfl (run_assign) ?_
  refine WL.nil ?_
  repeat (first | refine CW.seq ?_ | refine CW.block ?_ | refine CW.skip ?_ | refine CW.label ?_ | refine CW.exit ?_ | refine CW.condT rfl ?_ | refine CW.condF rfl ?_)
  refine CW.reg ?_
  refine WL.val rfl (run_move) ?_
  refine WL.val rfl (run_lenSl Tryd.underlying34 rfl) ?_
  refine WL.val rfl (run_move) ?_
  refine WL.nil ?_
  repeat (first | refine CW.seq ?_ | refine CW.block ?_ | refine CW.skip ?_ | refine CW.label ?_ | refine CW.exit ?_ | refine CW.condT rfl ?_ | refine CW.condF rfl ?_)
  refine CW.loop (fun m f w' => ∃ i, i ≤ x.length ∧ m = x.length - i ∧ (i ≤ y.length) ∧ cmpF x y = cmpF (x.drop i) (y.drop i) ∧ Step [] [] w0 w' ∧ Holds f [(0, .slice a x.length c), (1, .slice a2 y.length c2), (2, .func (.func 46) #[] #[]), (11, .slice a x.length c), (12, .int .i64 x.length), (13, .int .i64 i)]) (m := x.length) ?_ ?_
  · exact ⟨0, by omega, by omega, by omega, rfl, hs, rfl, rfl, rfl, rfl, rfl, rfl, trivial⟩
  · clear hs
    rintro m f w ⟨i, hi, rfl, hiy, hgo, hs, hf⟩
    have hobt := hf.chain
    obtain ⟨g, rfl⟩ := hobt
    by_cases hlt : i < x.length
    · rcases hx with h | ⟨bx, rfl, hcx⟩
      · rw [h] at hlt; cases hlt
      have hobt : ∃ p, x[i] = p := ⟨_, rfl⟩
      obtain ⟨p, hp⟩ := hobt
      have hpi : x[i]? = some p := by rw [List.getElem?_eq_getElem hlt, hp]
      have hlx : bx < w0.heap.size := Nat.lt_of_not_le fun hge => by
        have := hcx i p hpi
        simp [World.cell?, Array.getElem?_eq_none hge] at this
      have hcell1 : w.cell? ⟨bx, 0 + i * 1, none⟩ = some (str p) := by
        rw [cell_of_heap (hs.chg.block bx hlx (by simp))]
        exact hcx i p hpi
      rw [List.drop_eq_getElem_cons hlt, hp] at hgo
      by_cases hly : i < y.length
      · rcases hy with h | ⟨by', rfl, hcy⟩
        · rw [h] at hly; cases hly
        have hobt : ∃ q, y[i] = q := ⟨_, rfl⟩
        obtain ⟨q, hq⟩ := hobt
        have hqi : y[i]? = some q := by rw [List.getElem?_eq_getElem hly, hq]
        have hly2 : by' < w0.heap.size := Nat.lt_of_not_le fun hge => by
          have := hcy i q hqi
          simp [World.cell?, Array.getElem?_eq_none hge] at this
        have hcell2 : w.cell? ⟨by', 0 + i * 1, none⟩ = some (str q) := by
          rw [cell_of_heap (hs.chg.block by' hly2 (by simp))]
          exact hcy i q hqi
        rw [List.drop_eq_getElem_cons hly, hq, cmpF] at hgo
        repeat (first | refine CW.seq ?_ | refine CW.block ?_ | refine CW.skip ?_ | refine CW.label ?_ | refine CW.exit ?_ | refine CW.condT rfl ?_ | refine CW.condF rfl ?_)
        refine CW.reg ?_
        refine WL.val rfl (run_bT (run_lss rfl rfl) (by omega)) ?_
        refine WL.nil ?_
        repeat (first | refine CW.seq ?_ | refine CW.block ?_ | refine CW.skip ?_ | refine CW.label ?_ | refine CW.exit ?_ | refine CW.condT rfl ?_ | refine CW.condF rfl ?_)
        refine CW.reg ?_
        refine WL.val rfl (run_move) ?_
        first | refine WL.val rfl (run_ixSlN Tryd.underlying34 ty9 rfl rfl (by omega)) ?_ | refine WL.val rfl (run_ixSl Tryd.underlying34 ty9 rfl rfl (by omega)) ?_
        refine WL.val rfl (run_load1 ty9 rfl (hcell1)) ?_
        refine WL.val rfl (run_assign) ?_
        refine WL.val rfl (run_assign) ?_
        refine WL.nil ?_
        repeat (first | refine CW.seq ?_ | refine CW.block ?_ | refine CW.skip ?_ | refine CW.label ?_ | refine CW.exit ?_ | refine CW.condT rfl ?_ | refine CW.condF rfl ?_)
        refine CW.reg ?_
        refine WL.val rfl (run_move) ?_
        refine WL.val rfl (run_move) ?_
        refine WL.val rfl (run_lenSl Tryd.underlying34 rfl) ?_
        refine WL.val rfl (run_bF (run_geq rfl rfl) (by omega)) ?_
        refine WL.nil ?_
        repeat (first | refine CW.seq ?_ | refine CW.block ?_ | refine CW.skip ?_ | refine CW.label ?_ | refine CW.exit ?_ | refine CW.condT rfl ?_ | refine CW.condF rfl ?_)
        refine CW.reg ?_
        refine WL.val rfl (run_move) ?_
        refine WL.val rfl (run_move) ?_
        first | refine WL.val rfl (run_ixSlN Tryd.underlying34 ty9 rfl rfl (by omega)) ?_ | refine WL.val rfl (run_ixSl Tryd.underlying34 ty9 rfl rfl (by omega)) ?_
        refine WL.val rfl (run_load1 ty9 rfl (hcell2)) ?_
        refine WL.val rfl (run_assign) ?_
        refine WL.nil ?_
        repeat (first | refine CW.seq ?_ | refine CW.block ?_ | refine CW.skip ?_ | refine CW.label ?_ | refine CW.exit ?_ | refine CW.condT rfl ?_ | refine CW.condF rfl ?_)
        refine CW.reg ?_
        refine WL.val rfl (run_move) ?_
        refine WL.val rfl (run_move) ?_
        refine WL.val rfl (run_move) ?_
        refine WL.enter rfl (run_callV (cap := []) en46 rfl rfl) (cmpS_spec _) ?_
        rintro e w ⟨rfl, hq⟩
        refine ⟨_, rfl, ?_⟩
        replace hs := hs.callE hq
        refine WL.val rfl (run_assign) ?_
        refine WL.nil ?_
        by_cases hc : cmpL p q ≠ 0
        · rw [if_pos hc] at hgo
          repeat (first | refine CW.seq ?_ | refine CW.block ?_ | refine CW.skip ?_ | refine CW.label ?_ | refine CW.exit ?_ | refine CW.condT rfl ?_ | refine CW.condF rfl ?_)
          refine CW.reg ?_
          refine WL.val rfl (run_move) ?_
          refine WL.val rfl (run_bT (run_neq rfl rfl) (by exact hc)) ?_
          refine WL.nil ?_
          repeat (first | refine CW.seq ?_ | refine CW.block ?_ | refine CW.skip ?_ | refine CW.label ?_ | refine CW.exit ?_ | refine CW.condT rfl ?_ | refine CW.condF rfl ?_)
          refine CW.reg ?_
          refine WL.val rfl (run_move) ?_
          refine WL.val rfl (run_assign) ?_
          refine WL.nil ?_
          repeat (first | refine CW.seq ?_ | refine CW.block ?_ | refine CW.skip ?_ | refine CW.label ?_ | refine CW.exit ?_ | refine CW.condT rfl ?_ | refine CW.condF rfl ?_)
          refine CW.ret ?_
          refine fin_ret1 rfl ?_
          exact ⟨by rw [hgo]; rfl, hs⟩
        · rw [if_neg hc] at hgo
          repeat (first | refine CW.seq ?_ | refine CW.block ?_ | refine CW.skip ?_ | refine CW.label ?_ | refine CW.exit ?_ | refine CW.condT rfl ?_ | refine CW.condF rfl ?_)
          refine CW.reg ?_
          refine WL.val rfl (run_move) ?_
          refine WL.val rfl (run_bF (run_neq rfl rfl) (by exact hc)) ?_
          refine WL.nil ?_
          repeat (first | refine CW.seq ?_ | refine CW.block ?_ | refine CW.skip ?_ | refine CW.label ?_ | refine CW.exit ?_ | refine CW.condT rfl ?_ | refine CW.condF rfl ?_)
          refine CW.reg ?_
          refine WL.val rfl (run_add (c := ((i + 1 : Nat) : Int)) rfl rfl (by omega) (by omega)) ?_
          refine WL.val rfl (run_move) ?_
          refine WL.nil ?_
          repeat (first | refine CW.seq ?_ | refine CW.block ?_ | refine CW.skip ?_ | refine CW.label ?_ | refine CW.exit ?_)
          refine (show _ ∧ _ from ⟨rfl, _, ?_, i + 1, by omega, rfl, by omega, hgo, hs, rfl, rfl, rfl, rfl, rfl, rfl, trivial⟩)
          omega
      · rw [List.drop_eq_nil_of_le (by omega : y.length ≤ i), cmpF] at hgo
        repeat (first | refine CW.seq ?_ | refine CW.block ?_ | refine CW.skip ?_ | refine CW.label ?_ | refine CW.exit ?_ | refine CW.condT rfl ?_ | refine CW.condF rfl ?_)
        refine CW.reg ?_
        refine WL.val rfl (run_bT (run_lss rfl rfl) (by omega)) ?_
        refine WL.nil ?_
        repeat (first | refine CW.seq ?_ | refine CW.block ?_ | refine CW.skip ?_ | refine CW.label ?_ | refine CW.exit ?_ | refine CW.condT rfl ?_ | refine CW.condF rfl ?_)
        refine CW.reg ?_
        refine WL.val rfl (run_move) ?_
        first | refine WL.val rfl (run_ixSlN Tryd.underlying34 ty9 rfl rfl (by omega)) ?_ | refine WL.val rfl (run_ixSl Tryd.underlying34 ty9 rfl rfl (by omega)) ?_
        refine WL.val rfl (run_load1 ty9 rfl (hcell1)) ?_
        refine WL.val rfl (run_assign) ?_
        refine WL.val rfl (run_assign) ?_
        refine WL.nil ?_
        repeat (first | refine CW.seq ?_ | refine CW.block ?_ | refine CW.skip ?_ | refine CW.label ?_ | refine CW.exit ?_ | refine CW.condT rfl ?_ | refine CW.condF rfl ?_)
        refine CW.reg ?_
        refine WL.val rfl (run_move) ?_
        refine WL.val rfl (run_move) ?_
        refine WL.val rfl (run_lenSl Tryd.underlying34 rfl) ?_
        refine WL.val rfl (run_bT (run_geq rfl rfl) (by omega)) ?_
        refine WL.nil ?_
        repeat (first | refine CW.seq ?_ | refine CW.block ?_ | refine CW.skip ?_ | refine CW.label ?_ | refine CW.exit ?_ | refine CW.condT rfl ?_ | refine CW.condF rfl ?_)
        refine CW.reg ?_
        refine WL.val rfl (run_assign) ?_
        refine WL.nil ?_
        repeat (first | refine CW.seq ?_ | refine CW.block ?_ | refine CW.skip ?_ | refine CW.label ?_ | refine CW.exit ?_ | refine CW.condT rfl ?_ | refine CW.condF rfl ?_)
        refine CW.ret ?_
        refine fin_ret1 rfl ?_
        exact ⟨by rw [hgo]; rfl, hs⟩
    · have hii : i = x.length := by omega
      rw [List.drop_eq_nil_of_le (by omega : x.length ≤ i)] at hgo
      by_cases hly : i < y.length
      · rw [List.drop_eq_getElem_cons hly, cmpF] at hgo
        repeat (first | refine CW.seq ?_ | refine CW.block ?_ | refine CW.skip ?_ | refine CW.label ?_ | refine CW.exit ?_ | refine CW.condT rfl ?_ | refine CW.condF rfl ?_)
        refine CW.reg ?_
        refine WL.val rfl (run_bF (run_lss rfl rfl) (by omega)) ?_
        refine WL.nil ?_
        repeat (first | refine CW.seq ?_ | refine CW.block ?_ | refine CW.skip ?_ | refine CW.label ?_ | refine CW.exit ?_ | refine CW.condT rfl ?_ | refine CW.condF rfl ?_)
        refine CW.reg ?_
        refine WL.val rfl (run_move) ?_
        refine WL.val rfl (run_lenSl Tryd.underlying34 rfl) ?_
        refine WL.val rfl (run_move) ?_
        refine WL.val rfl (run_lenSl Tryd.underlying34 rfl) ?_
        refine WL.val rfl (run_bT (run_lss rfl rfl) (by omega)) ?_
        refine WL.nil ?_
        repeat (first | refine CW.seq ?_ | refine CW.block ?_ | refine CW.skip ?_ | refine CW.label ?_ | refine CW.exit ?_ | refine CW.condT rfl ?_ | refine CW.condF rfl ?_)
        refine CW.reg ?_
        refine WL.val rfl (run_assign) ?_
        refine WL.nil ?_
        repeat (first | refine CW.seq ?_ | refine CW.block ?_ | refine CW.skip ?_ | refine CW.label ?_ | refine CW.exit ?_ | refine CW.condT rfl ?_ | refine CW.condF rfl ?_)
        refine CW.ret ?_
        refine fin_ret1 rfl ?_
        exact ⟨by rw [hgo]; rfl, hs⟩
      · rw [List.drop_eq_nil_of_le (by omega : y.length ≤ i), cmpF] at hgo
        repeat (first | refine CW.seq ?_ | refine CW.block ?_ | refine CW.skip ?_ | refine CW.label ?_ | refine CW.exit ?_ | refine CW.condT rfl ?_ | refine CW.condF rfl ?_)
        refine CW.reg ?_
        refine WL.val rfl (run_bF (run_lss rfl rfl) (by omega)) ?_
        refine WL.nil ?_
        repeat (first | refine CW.seq ?_ | refine CW.block ?_ | refine CW.skip ?_ | refine CW.label ?_ | refine CW.exit ?_ | refine CW.condT rfl ?_ | refine CW.condF rfl ?_)
        refine CW.reg ?_
        refine WL.val rfl (run_move) ?_
        refine WL.val rfl (run_lenSl Tryd.underlying34 rfl) ?_
        refine WL.val rfl (run_move) ?_
        refine WL.val rfl (run_lenSl Tryd.underlying34 rfl) ?_
        refine WL.val rfl (run_bF (run_lss rfl rfl) (by omega)) ?_
        refine WL.nil ?_
        repeat (first | refine CW.seq ?_ | refine CW.block ?_ | refine CW.skip ?_ | refine CW.label ?_ | refine CW.exit ?_ | refine CW.condT rfl ?_ | refine CW.condF rfl ?_)
        refine CW.reg ?_
        refine WL.val rfl (run_assign) ?_
        refine WL.nil ?_
        repeat (first | refine CW.seq ?_ | refine CW.block ?_ | refine CW.skip ?_ | refine CW.label ?_ | refine CW.exit ?_ | refine CW.condT rfl ?_ | refine CW.condF rfl ?_)
        refine CW.ret ?_
        refine fin_ret1 rfl ?_
        exact ⟨by rw [hgo]; rfl, hs⟩
end Go.Gx
