/- The document's Less. -/
import Derived.Test.YtnoamfcnamlbhaaDoorPLess3
namespace Go.Gx
open Go.Proofs Go.RowKit
set_option linter.unusedVariables false
set_option linter.unusedSimpArgs false
set_option maxRecDepth 100000

theorem cmpF_eq (p : List UInt8) (x y : List (List UInt8)) : cmpF (p :: x) (p :: y) = cmpF x y := by
  have h : cmpL p p = 0 := by
    unfold cmpL
    split
    · rename_i h
      exact absurd ((cmp_lt p p).2 h) (by rw [(cmp_eq0 p p).2 rfl]; decide)
    · rw [if_pos rfl]
  rw [cmpF, if_neg (by simp [h])]
theorem cmpF_ne {p q : List UInt8} (x y : List (List UInt8)) (h : p ≠ q) : decide (cmpF (p :: x) (q :: y) < 0) = Op.bytesLess p q := by
  rw [cmpF]
  by_cases h1 : Op.bytesLess p q = true
  · have e : cmpL p q = -1 := by rw [cmpL, if_pos h1]
    rw [e, h1]; rfl
  · have e : cmpL p q = 1 := by rw [cmpL, if_neg h1, if_neg h]
    rw [e]
    have : Op.bytesLess p q = false := by simpa using h1
    rw [this]; rfl
theorem keepCell {b o : Nat} {v : Value} {L : List (Nat × Obj)} {w w' : World} (h : w.cell? ⟨b, o, none⟩ = some v) (hs : Step [] L w w') : w'.cell? ⟨b, o, none⟩ = some v := by
  have hlx : b < w.heap.size := Nat.lt_of_not_le fun hge => by
    simp [World.cell?, Array.getElem?_eq_none hge] at h
  rw [cell_of_heap (hs.chg.block b hlx (by simp))]
  exact h
set_option maxHeartbeats 2000000 in
theorem refLess_spec {s t : List UInt8} (w0 : World) (hs1 : s.length < 4294967281) (ht1 : t.length < 4294967281) : Calls Tryd.prog 25 #[str s, str t] w0 (Ret0 (.bool (decide (cmpF (partsL s) (partsL t) < 0))) w0) := by
  have hs : Step [] [] w0 w0 := Step.refl w0
  have hpl := partsL_len s
  have hpt := partsL_len t
  refine calls (n := 47) Tryd.func25 rfl rfl rfl ?_
  repeat (first | refine CW.seq ?_ | refine CW.block ?_ | refine CW.skip ?_ | refine CW.label ?_ | refine CW.exit ?_ | refine CW.condT rfl ?_ | refine CW.condF rfl ?_)
  refine CW.reg ?_
  refine WL.val rfl (run_assign) ?_
  refine WL.nil ?_
  repeat (first | refine CW.seq ?_ | refine CW.block ?_ | refine CW.skip ?_ | refine CW.label ?_ | refine CW.exit ?_ | refine CW.condT rfl ?_ | refine CW.condF rfl ?_)
  refine CW.reg ?_
  refine WL.val rfl (run_move) ?_
  refine WL.enter rfl (run_call en33 rfl rfl) (refParts_spec _ hs1) ?_
  rintro e w ⟨u, Lu, rfl, hu, hq⟩
  refine ⟨_, rfl, ?_⟩
  have hs := hq
  refine WL.val rfl (run_assign) ?_
  refine WL.nil ?_
  repeat (first | refine CW.seq ?_ | refine CW.block ?_ | refine CW.skip ?_ | refine CW.label ?_ | refine CW.exit ?_ | refine CW.condT rfl ?_ | refine CW.condF rfl ?_)
  refine CW.reg ?_
  refine WL.val rfl (run_move) ?_
  refine WL.enter rfl (run_call en33 rfl rfl) (refParts_spec _ ht1) ?_
  rintro e w ⟨u2, Lv, rfl, hv, hq2⟩
  refine ⟨_, rfl, ?_⟩
  have hxx := cellsOf hu hs
  obtain ⟨a, c, hq3, hcl, hcx⟩ := hxx
  subst hq3
  have hyy := cellsOf hv hq2
  obtain ⟨a2, c2, hq4, hcl2, hcy⟩ := hyy
  subst hq4
  have hcx2 := Sl0.keep hcx hq2
  replace hs := hs.dropR (L1 := [])
  replace hs := hs.call0 (hq2.dropR (L1 := []))
  refine WL.val rfl (run_assign) ?_
  refine WL.nil ?_
  repeat (first | refine CW.seq ?_ | refine CW.block ?_ | refine CW.skip ?_ | refine CW.label ?_ | refine CW.exit ?_ | refine CW.condT rfl ?_ | refine CW.condF rfl ?_)
  refine CW.reg ?_
  refine WL.val rfl (run_assign) ?_
  refine WL.nil ?_
  have hobt : ∃ x, partsL s = x := ⟨_, rfl⟩
  obtain ⟨x, hx⟩ := hobt
  have hobt : ∃ y, partsL t = y := ⟨_, rfl⟩
  obtain ⟨y, hy⟩ := hobt
  rw [hx] at hpl hcl hcx2
  rw [hy] at hpt hcl2 hcy
  rw [hx, hy]
  have hs0 := hs
  repeat (first | refine CW.seq ?_ | refine CW.block ?_ | refine CW.skip ?_ | refine CW.label ?_ | refine CW.exit ?_ | refine CW.condT rfl ?_ | refine CW.condF rfl ?_)
  refine CW.loop (fun m f w' => ∃ i, i ≤ x.length ∧ m = x.length - i ∧ i ≤ y.length ∧ decide (cmpF x y < 0) = decide (cmpF (x.drop i) (y.drop i) < 0) ∧ Step [] [] w w' ∧ Holds f [(5, .slice a x.length c), (6, .slice a2 y.length c2), (7, .int .i64 i)]) (m := x.length) ?_ ?_
  · exact ⟨0, by omega, by omega, by omega, rfl, Step.refl _, by rw [← hx]; rfl, by rw [← hy]; rfl, rfl, trivial⟩
  · clear hs
    rintro m f w' ⟨i, hi, rfl, hiy, hgo, hs, hf⟩
    have hobt := hf.chain
    obtain ⟨g, rfl⟩ := hobt
    by_cases hlt : i < x.length
    · rcases hcx2 with h | ⟨bx, rfl, hcx2⟩
      · rw [h] at hlt; cases hlt
      have hobt : ∃ p, x[i] = p := ⟨_, rfl⟩
      obtain ⟨p, hp⟩ := hobt
      have hc1 : ∀ {w'' : World}, Step [] [] w w'' → w''.cell? ⟨bx, 0 + i * 1, none⟩ = some (str p) := fun hs => keepCell (hcx2 i p (by rw [List.getElem?_eq_getElem hlt, hp])) hs
      rw [List.drop_eq_getElem_cons hlt, hp] at hgo
      by_cases hly : i < y.length
      · rcases hcy with h | ⟨by', rfl, hcy⟩
        · rw [h] at hly; cases hly
        have hobt : ∃ q, y[i] = q := ⟨_, rfl⟩
        obtain ⟨q, hq⟩ := hobt
        have hc2 : ∀ {w'' : World}, Step [] [] w w'' → w''.cell? ⟨by', 0 + i * 1, none⟩ = some (str q) := fun hs => keepCell (hcy i q (by rw [List.getElem?_eq_getElem hly, hq])) hs
        rw [List.drop_eq_getElem_cons hly, hq] at hgo
        by_cases hpq : p = q
        · rw [hpq, cmpF_eq] at hgo
          repeat (first | refine CW.seq ?_ | refine CW.block ?_ | refine CW.skip ?_ | refine CW.label ?_ | refine CW.exit ?_ | refine CW.condT rfl ?_ | refine CW.condF rfl ?_)
          refine CW.reg ?_
          refine WL.val rfl (run_move) ?_
          refine WL.val rfl (run_move) ?_
          refine WL.val rfl (run_lenSl Tryd.underlying34 rfl) ?_
          refine WL.val rfl (run_bT (run_lss rfl rfl) (by omega)) ?_
          refine WL.val rfl (run_move) ?_
          refine WL.yes rfl rfl rfl ?_
          refine WL.val rfl (run_move) ?_
          refine WL.yes rfl rfl rfl ?_
          refine WL.val rfl (run_move) ?_
          refine WL.yes rfl rfl rfl ?_
          refine WL.val rfl (run_lenSl Tryd.underlying34 rfl) ?_
          refine WL.yes rfl rfl rfl ?_
          refine WL.val rfl (run_bT (run_lss rfl rfl) (by omega)) ?_
          first | refine WL.val rfl (run_pickT rfl) ?_ | refine WL.val rfl (run_pickF rfl) ?_
          refine WL.nil ?_
          repeat (first | refine CW.seq ?_ | refine CW.block ?_ | refine CW.skip ?_ | refine CW.label ?_ | refine CW.exit ?_ | refine CW.condT rfl ?_ | refine CW.condF rfl ?_)
          refine CW.quiet mixedP (by kernel_rfl) hs ?_
          refine QL.val rfl (fun w hs => run_move) ?_
          refine QL.val rfl (fun w hs => run_move) ?_
          first | refine QL.val rfl (fun w hs => run_ixSlN Tryd.underlying34 ty9 rfl rfl (by omega)) ?_ | refine QL.val rfl (fun w hs => run_ixSl Tryd.underlying34 ty9 rfl rfl (by omega)) ?_
          refine QL.val rfl (fun w hs => run_load1 ty9 rfl (hc1 hs)) ?_
          refine QL.val rfl (fun w hs => run_move) ?_
          refine QL.val rfl (fun w hs => run_move) ?_
          first | refine QL.val rfl (fun w hs => run_ixSlN Tryd.underlying34 ty9 rfl rfl (by omega)) ?_ | refine QL.val rfl (fun w hs => run_ixSl Tryd.underlying34 ty9 rfl rfl (by omega)) ?_
          refine QL.val rfl (fun w hs => run_load1 ty9 rfl (hc2 hs)) ?_
          refine QL.val rfl (fun w hs => run_bF (run_strNe rfl rfl) (by (exact fun h => h hpq))) ?_
          refine QL.nil (fun w hs => ?_)
          repeat (first | refine CW.seq ?_ | refine CW.block ?_ | refine CW.skip ?_ | refine CW.label ?_ | refine CW.exit ?_ | refine CW.condT rfl ?_ | refine CW.condF rfl ?_)
          refine CW.reg ?_
          refine WL.val rfl (run_move) ?_
          refine WL.val rfl (run_add (c := ((i + 1 : Nat) : Int)) rfl rfl (by omega) (by omega)) ?_
          refine WL.val rfl (run_assign) ?_
          refine WL.nil ?_
          repeat (first | refine CW.seq ?_ | refine CW.block ?_ | refine CW.skip ?_ | refine CW.label ?_ | refine CW.exit ?_)
          refine (show _ ∧ _ from ⟨rfl, _, ?_, i + 1, by omega, rfl, by omega, hgo, hs, rfl, rfl, rfl, trivial⟩)
          omega
        · rw [cmpF_ne _ _ hpq] at hgo
          repeat (first | refine CW.seq ?_ | refine CW.block ?_ | refine CW.skip ?_ | refine CW.label ?_ | refine CW.exit ?_ | refine CW.condT rfl ?_ | refine CW.condF rfl ?_)
          refine CW.reg ?_
          refine WL.val rfl (run_move) ?_
          refine WL.val rfl (run_move) ?_
          refine WL.val rfl (run_lenSl Tryd.underlying34 rfl) ?_
          refine WL.val rfl (run_bT (run_lss rfl rfl) (by omega)) ?_
          refine WL.val rfl (run_move) ?_
          refine WL.yes rfl rfl rfl ?_
          refine WL.val rfl (run_move) ?_
          refine WL.yes rfl rfl rfl ?_
          refine WL.val rfl (run_move) ?_
          refine WL.yes rfl rfl rfl ?_
          refine WL.val rfl (run_lenSl Tryd.underlying34 rfl) ?_
          refine WL.yes rfl rfl rfl ?_
          refine WL.val rfl (run_bT (run_lss rfl rfl) (by omega)) ?_
          first | refine WL.val rfl (run_pickT rfl) ?_ | refine WL.val rfl (run_pickF rfl) ?_
          refine WL.nil ?_
          repeat (first | refine CW.seq ?_ | refine CW.block ?_ | refine CW.skip ?_ | refine CW.label ?_ | refine CW.exit ?_ | refine CW.condT rfl ?_ | refine CW.condF rfl ?_)
          refine CW.quiet mixedP (by kernel_rfl) hs ?_
          refine QL.val rfl (fun w hs => run_move) ?_
          refine QL.val rfl (fun w hs => run_move) ?_
          first | refine QL.val rfl (fun w hs => run_ixSlN Tryd.underlying34 ty9 rfl rfl (by omega)) ?_ | refine QL.val rfl (fun w hs => run_ixSl Tryd.underlying34 ty9 rfl rfl (by omega)) ?_
          refine QL.val rfl (fun w hs => run_load1 ty9 rfl (hc1 hs)) ?_
          refine QL.val rfl (fun w hs => run_move) ?_
          refine QL.val rfl (fun w hs => run_move) ?_
          first | refine QL.val rfl (fun w hs => run_ixSlN Tryd.underlying34 ty9 rfl rfl (by omega)) ?_ | refine QL.val rfl (fun w hs => run_ixSl Tryd.underlying34 ty9 rfl rfl (by omega)) ?_
          refine QL.val rfl (fun w hs => run_load1 ty9 rfl (hc2 hs)) ?_
          refine QL.val rfl (fun w hs => run_bT (run_strNe rfl rfl) (by exact hpq)) ?_
          refine QL.nil (fun w hs => ?_)
          repeat (first | refine CW.seq ?_ | refine CW.block ?_ | refine CW.skip ?_ | refine CW.label ?_ | refine CW.exit ?_ | refine CW.condT rfl ?_ | refine CW.condF rfl ?_)
          refine CW.quiet mixedP (by kernel_rfl) hs ?_
          refine QL.val rfl (fun w hs => run_move) ?_
          refine QL.val rfl (fun w hs => run_move) ?_
          first | refine QL.val rfl (fun w hs => run_ixSlN Tryd.underlying34 ty9 rfl rfl (by omega)) ?_ | refine QL.val rfl (fun w hs => run_ixSl Tryd.underlying34 ty9 rfl rfl (by omega)) ?_
          refine QL.val rfl (fun w hs => run_load1 ty9 rfl (hc1 hs)) ?_
          refine QL.val rfl (fun w hs => run_move) ?_
          refine QL.val rfl (fun w hs => run_move) ?_
          first | refine QL.val rfl (fun w hs => run_ixSlN Tryd.underlying34 ty9 rfl rfl (by omega)) ?_ | refine QL.val rfl (fun w hs => run_ixSl Tryd.underlying34 ty9 rfl rfl (by omega)) ?_
          refine QL.val rfl (fun w hs => run_load1 ty9 rfl (hc2 hs)) ?_
          refine QL.val rfl (fun w hs => run_bE (run_strLt rfl rfl) (rfl)) ?_
          refine QL.val rfl (fun w hs => run_assign) ?_
          refine QL.nil (fun w hs => ?_)
          repeat (first | refine CW.seq ?_ | refine CW.block ?_ | refine CW.skip ?_ | refine CW.label ?_ | refine CW.exit ?_ | refine CW.condT rfl ?_ | refine CW.condF rfl ?_)
          refine CW.ret ?_
          refine fin_ret1 rfl ?_
          exact ⟨by rw [hgo]; rfl, hs0.callE hs⟩
      · rw [List.drop_eq_nil_of_le (by omega : y.length ≤ i), cmpF] at hgo
        repeat (first | refine CW.seq ?_ | refine CW.block ?_ | refine CW.skip ?_ | refine CW.label ?_ | refine CW.exit ?_ | refine CW.condT rfl ?_ | refine CW.condF rfl ?_)
        refine CW.reg ?_
        refine WL.val rfl (run_move) ?_
        refine WL.val rfl (run_move) ?_
        refine WL.val rfl (run_lenSl Tryd.underlying34 rfl) ?_
        refine WL.val rfl (run_bT (run_lss rfl rfl) (by omega)) ?_
        refine WL.val rfl (run_move) ?_
        refine WL.yes rfl rfl rfl ?_
        refine WL.val rfl (run_move) ?_
        refine WL.yes rfl rfl rfl ?_
        refine WL.val rfl (run_move) ?_
        refine WL.yes rfl rfl rfl ?_
        refine WL.val rfl (run_lenSl Tryd.underlying34 rfl) ?_
        refine WL.yes rfl rfl rfl ?_
        refine WL.val rfl (run_bF (run_lss rfl rfl) (by omega)) ?_
        first | refine WL.val rfl (run_pickT rfl) ?_ | refine WL.val rfl (run_pickF rfl) ?_
        refine WL.nil ?_
        repeat (first | refine CW.seq ?_ | refine CW.block ?_ | refine CW.skip ?_ | refine CW.label ?_ | refine CW.exit ?_ | refine CW.condT rfl ?_ | refine CW.condF rfl ?_)
        refine CW.reg ?_
        refine WL.val rfl (run_move) ?_
        refine WL.val rfl (run_lenSl Tryd.underlying34 rfl) ?_
        refine WL.val rfl (run_move) ?_
        refine WL.val rfl (run_lenSl Tryd.underlying34 rfl) ?_
        refine WL.val rfl (run_bF (run_lss rfl rfl) (by omega)) ?_
        refine WL.val rfl (run_assign) ?_
        refine WL.nil ?_
        repeat (first | refine CW.seq ?_ | refine CW.block ?_ | refine CW.skip ?_ | refine CW.label ?_ | refine CW.exit ?_ | refine CW.condT rfl ?_ | refine CW.condF rfl ?_)
        refine CW.ret ?_
        refine fin_ret1 rfl ?_
        exact ⟨by rw [hgo]; rfl, hs0.callE hs⟩
    · have hii : i = x.length := by omega
      rw [List.drop_eq_nil_of_le (by omega : x.length ≤ i)] at hgo
      by_cases hly : i < y.length
      · rw [List.drop_eq_getElem_cons hly, cmpF] at hgo
        repeat (first | refine CW.seq ?_ | refine CW.block ?_ | refine CW.skip ?_ | refine CW.label ?_ | refine CW.exit ?_ | refine CW.condT rfl ?_ | refine CW.condF rfl ?_)
        refine CW.reg ?_
        refine WL.val rfl (run_move) ?_
        refine WL.val rfl (run_move) ?_
        refine WL.val rfl (run_lenSl Tryd.underlying34 rfl) ?_
        refine WL.val rfl (run_bF (run_lss rfl rfl) (by omega)) ?_
        refine WL.val rfl (run_move) ?_
        first | refine WL.no rfl rfl rfl (.inl rfl) ?_ | refine WL.no rfl rfl rfl (.inr rfl) ?_
        first | refine WL.no rfl rfl rfl (.inl rfl) ?_ | refine WL.no rfl rfl rfl (.inr rfl) ?_
        first | refine WL.no rfl rfl rfl (.inl rfl) ?_ | refine WL.no rfl rfl rfl (.inr rfl) ?_
        first | refine WL.no rfl rfl rfl (.inl rfl) ?_ | refine WL.no rfl rfl rfl (.inr rfl) ?_
        first | refine WL.val rfl (run_pickT rfl) ?_ | refine WL.val rfl (run_pickF rfl) ?_
        refine WL.nil ?_
        repeat (first | refine CW.seq ?_ | refine CW.block ?_ | refine CW.skip ?_ | refine CW.label ?_ | refine CW.exit ?_ | refine CW.condT rfl ?_ | refine CW.condF rfl ?_)
        refine CW.reg ?_
        refine WL.val rfl (run_move) ?_
        refine WL.val rfl (run_lenSl Tryd.underlying34 rfl) ?_
        refine WL.val rfl (run_move) ?_
        refine WL.val rfl (run_lenSl Tryd.underlying34 rfl) ?_
        refine WL.val rfl (run_bT (run_lss rfl rfl) (by omega)) ?_
        refine WL.val rfl (run_assign) ?_
        refine WL.nil ?_
        repeat (first | refine CW.seq ?_ | refine CW.block ?_ | refine CW.skip ?_ | refine CW.label ?_ | refine CW.exit ?_ | refine CW.condT rfl ?_ | refine CW.condF rfl ?_)
        refine CW.ret ?_
        refine fin_ret1 rfl ?_
        exact ⟨by rw [hgo]; rfl, hs0.callE hs⟩
      · rw [List.drop_eq_nil_of_le (by omega : y.length ≤ i), cmpF] at hgo
        repeat (first | refine CW.seq ?_ | refine CW.block ?_ | refine CW.skip ?_ | refine CW.label ?_ | refine CW.exit ?_ | refine CW.condT rfl ?_ | refine CW.condF rfl ?_)
        refine CW.reg ?_
        refine WL.val rfl (run_move) ?_
        refine WL.val rfl (run_move) ?_
        refine WL.val rfl (run_lenSl Tryd.underlying34 rfl) ?_
        refine WL.val rfl (run_bF (run_lss rfl rfl) (by omega)) ?_
        refine WL.val rfl (run_move) ?_
        first | refine WL.no rfl rfl rfl (.inl rfl) ?_ | refine WL.no rfl rfl rfl (.inr rfl) ?_
        first | refine WL.no rfl rfl rfl (.inl rfl) ?_ | refine WL.no rfl rfl rfl (.inr rfl) ?_
        first | refine WL.no rfl rfl rfl (.inl rfl) ?_ | refine WL.no rfl rfl rfl (.inr rfl) ?_
        first | refine WL.no rfl rfl rfl (.inl rfl) ?_ | refine WL.no rfl rfl rfl (.inr rfl) ?_
        first | refine WL.val rfl (run_pickT rfl) ?_ | refine WL.val rfl (run_pickF rfl) ?_
        refine WL.nil ?_
        repeat (first | refine CW.seq ?_ | refine CW.block ?_ | refine CW.skip ?_ | refine CW.label ?_ | refine CW.exit ?_ | refine CW.condT rfl ?_ | refine CW.condF rfl ?_)
        refine CW.reg ?_
        refine WL.val rfl (run_move) ?_
        refine WL.val rfl (run_lenSl Tryd.underlying34 rfl) ?_
        refine WL.val rfl (run_move) ?_
        refine WL.val rfl (run_lenSl Tryd.underlying34 rfl) ?_
        refine WL.val rfl (run_bF (run_lss rfl rfl) (by omega)) ?_
        refine WL.val rfl (run_assign) ?_
        refine WL.nil ?_
        repeat (first | refine CW.seq ?_ | refine CW.block ?_ | refine CW.skip ?_ | refine CW.label ?_ | refine CW.exit ?_ | refine CW.condT rfl ?_ | refine CW.condF rfl ?_)
        refine CW.ret ?_
        refine fin_ret1 rfl ?_
        exact ⟨by rw [hgo]; rfl, hs0.callE hs⟩
end Go.Gx
