/- May it be a pattern: the document's answer. -/
import Derived.Test.YtnoamfcnamlbhaaDoorROf
import Derived.Lib.IndexMore
namespace Go.Gx
open Go.Proofs Go.RowKit
set_option linter.unusedVariables false
set_option linter.unusedSimpArgs false
set_option maxRecDepth 100000

theorem occ_two (p : List UInt8) (i : Nat) : Lib.occAt p [42, 42] i = true ↔ p[i]? = some 42 ∧ p[i + 1]? = some 42 := by
  unfold Lib.occAt
  have h0 : p[i]? = (p.drop i)[0]? := by simp
  have h1 : p[i + 1]? = (p.drop i)[1]? := by simp
  rw [h0, h1]
  generalize p.drop i = l
  match l with
  | [] => exact ⟨fun h => by simp [List.isPrefixOf] at h, fun h => by simp at h⟩
  | [a] => exact ⟨fun h => by simp [List.isPrefixOf] at h, fun h => by simp at h⟩
  | a :: b :: l =>
    show ((42 == a) && ((42 == b) && true)) = true ↔ some a = some 42 ∧ some b = some 42
    rw [Bool.and_true, Bool.and_eq_true, beq_iff_eq, beq_iff_eq, Option.some.injEq, Option.some.injEq]
    exact ⟨fun h => ⟨h.1.symm, h.2.symm⟩, fun h => ⟨h.1.symm, h.2.symm⟩⟩
theorem contains_two {p : List UInt8} {k : Nat} (h1 : p[k]? = some 42) (h2 : p[k + 1]? = some 42) : Lib.contains p [42, 42] = true := by
  have hk := (List.getElem?_eq_some_iff.1 h1).1
  unfold Lib.contains
  rw [decide_eq_true_eq]
  rcases Lib.index_spec p [42, 42] with ⟨h3, h4⟩ | ⟨i, h3, h4, h5, h6⟩
  · have := h4 k (by omega)
    rw [(occ_two p k).2 ⟨h1, h2⟩] at this
    cases this
  · rw [h3]; omega
theorem contains_no {p : List UInt8} (h : ∀ k : Nat, ¬ (p[k]? = some 42 ∧ p[k + 1]? = some 42)) : Lib.contains p [42, 42] = false := by
  unfold Lib.contains
  rw [decide_eq_false_iff_not]
  rcases Lib.index_spec p [42, 42] with ⟨h3, h4⟩ | ⟨i, h3, h4, h5, h6⟩
  · rw [h3]; decide
  · exact absurd ((occ_two p i).1 h5) (h i)
theorem u8_42 {c : UInt8} : ((c.toNat : Int) = 42) ↔ c = 42 := by
  constructor
  · intro h; exact UInt8.toNat_inj.1 (by simpa using (show c.toNat = 42 by omega))
  · rintro rfl; rfl

set_option maxHeartbeats 4000000 in
theorem refIsPattern_spec {s : List UInt8} (w0 : World) (hs1 : s.length < 4294967281) : Calls Tryd.prog 41 #[str s] w0 (Ret0 (.bool ((partsL s).all okPat)) w0) := by
  have hpl := partsL_len s
  have hle : ∀ p ∈ partsL s, p.length < 4294967281 := fun p hp => Nat.lt_of_le_of_lt (partsL_le hp) hs1
  have hobt : ∃ x, partsL s = x := ⟨_, rfl⟩
  obtain ⟨x, hx⟩ := hobt
  have c1 := fun w => refParts_spec (s := s) w hs1
  rw [hx] at hpl hle ⊢
  simp only [hx] at c1
  refine calls (n := 52) Tryd.func41 rfl rfl rfl ?_
  repeat (first | refine CW.seq ?_ | refine CW.block ?_ | refine CW.skip ?_ | refine CW.label ?_ | refine CW.exit ?_ | refine CW.condT rfl ?_ | refine CW.condF rfl ?_)
  refine CW.reg ?_
  refine WL.val rfl (run_assign) ?_
  refine WL.nil ?_
  repeat (first | refine CW.seq ?_ | refine CW.block ?_ | refine CW.skip ?_ | refine CW.label ?_ | refine CW.exit ?_ | refine CW.condT rfl ?_ | refine CW.condF rfl ?_)
  refine CW.reg ?_
  refine WL.val rfl (run_move) ?_
  refine WL.enter rfl (run_call en33 rfl rfl) (c1 _) ?_
  rintro e w ⟨u, Lu, rfl, hu, hqs⟩
  refine ⟨_, rfl, ?_⟩
  have hs := hqs
  have hxx := cellsOf hu hs
  obtain ⟨a, c, hq3, hcl, hcx⟩ := hxx
  subst hq3
  have hs00 := hs.dropR (L1 := [])
  refine WL.val rfl (run_assign) ?_
  refine WL.nil ?_
  replace hcx : Texts _ _ _ := hcx
  have hs0 : Step [] [] w w := Step.refl w
  replace hs := hs0
  repeat (first | refine CW.seq ?_ | refine CW.block ?_ | refine CW.skip ?_ | refine CW.label ?_ | refine CW.exit ?_ | refine CW.condT rfl ?_ | refine CW.condF rfl ?_)
  refine CW.reg ?_
  refine WL.val rfl (run_assign) ?_
  refine WL.nil ?_
  repeat (first | refine CW.seq ?_ | refine CW.block ?_ | refine CW.skip ?_ | refine CW.label ?_ | refine CW.exit ?_ | refine CW.condT rfl ?_ | refine CW.condF rfl ?_)
  refine CW.loop (fun m f w' => ∃ i, i ≤ x.length ∧ m = x.length - i ∧ x.all okPat = (x.drop i).all okPat ∧ Step [] [] w w' ∧ Holds f [(3, .slice a x.length c), (4, .int .i64 i)]) (m := x.length) ?_ ?_
  · exact ⟨0, Nat.zero_le _, rfl, rfl, hs, rfl, rfl, trivial⟩
  · clear hs
    rintro m f w' ⟨i, hi, rfl, hgo, hs, hf⟩
    have hobt := hf.chain
    obtain ⟨g, rfl⟩ := hobt
    by_cases hlt : i < x.length
    · have hobt := hcx.get hlt
      obtain ⟨bx, p, rfl, hpi, hpm, hcp⟩ := hobt
      have hpl2 := hle p hpm
      have hge : x[i] = p := (List.getElem?_eq_some_iff.1 hpi).2
      rw [List.drop_eq_getElem_cons hlt, hge, List.all_cons] at hgo
      by_cases h1 : p = []
      · have hk : okPat p = false := by simp [okPat, h1]
        rw [hk, Bool.false_and] at hgo
        repeat (first | refine CW.seq ?_ | refine CW.block ?_ | refine CW.skip ?_ | refine CW.label ?_ | refine CW.exit ?_ | refine CW.condT rfl ?_ | refine CW.condF rfl ?_)
        refine CW.reg ?_
        refine WL.val rfl (run_move) ?_
        refine WL.val rfl (run_move) ?_
        refine WL.val rfl (run_lenSl Tryd.underlying34 rfl) ?_
        refine WL.val rfl (run_bT (run_lss rfl rfl) (by omega)) ?_
        refine WL.nil ?_
        repeat (first | refine CW.seq ?_ | refine CW.block ?_ | refine CW.skip ?_ | refine CW.label ?_ | refine CW.exit ?_ | refine CW.condT rfl ?_ | refine CW.condF rfl ?_)
        refine CW.reg ?_
        refine WL.val rfl (run_move) ?_
        refine WL.val rfl (run_move) ?_
        first | refine WL.val rfl (run_ixSlN Tryd.underlying34 ty9 rfl rfl (by omega)) ?_ | refine WL.val rfl (run_ixSl Tryd.underlying34 ty9 rfl rfl (by omega)) ?_
        refine WL.val rfl (run_load1 ty9 rfl ((hcp hs))) ?_
        refine WL.val rfl (run_bT (run_strEq rfl rfl) (by exact h1)) ?_
        refine WL.nil ?_
        repeat (first | refine CW.seq ?_ | refine CW.block ?_ | refine CW.skip ?_ | refine CW.label ?_ | refine CW.exit ?_ | refine CW.condT rfl ?_ | refine CW.condF rfl ?_)
        refine CW.reg ?_
        refine WL.val rfl (run_assign) ?_
        refine WL.nil ?_
        repeat (first | refine CW.seq ?_ | refine CW.block ?_ | refine CW.skip ?_ | refine CW.label ?_ | refine CW.exit ?_ | refine CW.condT rfl ?_ | refine CW.condF rfl ?_)
        refine CW.ret ?_
        refine fin_ret1 rfl ?_
        exact ⟨congrArg (fun b => Ending.returned (.bool b)) hgo.symm, hs00.callE hs⟩
      · have hpos := List.length_pos_iff.2 h1
        by_cases h2 : p = [42, 42]
        · have hk : okPat p = true := by simp [okPat, h2]
          rw [hk, Bool.true_and] at hgo
          have hp2 : p.length = 2 := by rw [h2]; rfl
          repeat (first | refine CW.seq ?_ | refine CW.block ?_ | refine CW.skip ?_ | refine CW.label ?_ | refine CW.exit ?_ | refine CW.condT rfl ?_ | refine CW.condF rfl ?_)
          refine CW.reg ?_
          refine WL.val rfl (run_move) ?_
          refine WL.val rfl (run_move) ?_
          refine WL.val rfl (run_lenSl Tryd.underlying34 rfl) ?_
          refine WL.val rfl (run_bT (run_lss rfl rfl) (by omega)) ?_
          refine WL.nil ?_
          repeat (first | refine CW.seq ?_ | refine CW.block ?_ | refine CW.skip ?_ | refine CW.label ?_ | refine CW.exit ?_ | refine CW.condT rfl ?_ | refine CW.condF rfl ?_)
          refine CW.reg ?_
          refine WL.val rfl (run_move) ?_
          refine WL.val rfl (run_move) ?_
          first | refine WL.val rfl (run_ixSlN Tryd.underlying34 ty9 rfl rfl (by omega)) ?_ | refine WL.val rfl (run_ixSl Tryd.underlying34 ty9 rfl rfl (by omega)) ?_
          refine WL.val rfl (run_load1 ty9 rfl ((hcp hs))) ?_
          refine WL.val rfl (run_bF (run_strEq rfl rfl) (by exact h1)) ?_
          refine WL.nil ?_
          repeat (first | refine CW.seq ?_ | refine CW.block ?_ | refine CW.skip ?_ | refine CW.label ?_ | refine CW.exit ?_ | refine CW.condT rfl ?_ | refine CW.condF rfl ?_)
          refine CW.reg ?_
          refine WL.val rfl (run_assign) ?_
          refine WL.nil ?_
          repeat (first | refine CW.seq ?_ | refine CW.block ?_ | refine CW.skip ?_ | refine CW.label ?_ | refine CW.exit ?_ | refine CW.condT rfl ?_ | refine CW.condF rfl ?_)
          refine CW.loop (fun m f w' => m = 0 ∧ Step [] [] w w' ∧ Holds f [(3, .slice (some ⟨bx, 0, none⟩) x.length c), (4, .int .i64 i), (5, .int .i64 1)]) (m := 0) ?_ ?_
          · exact ⟨rfl, hs, rfl, rfl, rfl, trivial⟩
          · clear hs
            rintro m f w' ⟨rfl, hs, hf⟩
            have hobt := hf.chain
            obtain ⟨g, rfl⟩ := hobt
            repeat (first | refine CW.seq ?_ | refine CW.block ?_ | refine CW.skip ?_ | refine CW.label ?_ | refine CW.exit ?_ | refine CW.condT rfl ?_ | refine CW.condF rfl ?_)
            refine CW.reg ?_
            refine WL.val rfl (run_move) ?_
            refine WL.val rfl (run_move) ?_
            refine WL.val rfl (run_move) ?_
            first | refine WL.val rfl (run_ixSlN Tryd.underlying34 ty9 rfl rfl (by omega)) ?_ | refine WL.val rfl (run_ixSl Tryd.underlying34 ty9 rfl rfl (by omega)) ?_
            refine WL.val rfl (run_load1 ty9 rfl ((hcp hs))) ?_
            refine WL.val rfl (run_lenStr Tryd.underlying9 rfl) ?_
            refine WL.val rfl (run_bT (run_lss rfl rfl) (by omega)) ?_
            refine WL.val rfl (run_move) ?_
            refine WL.yes rfl rfl rfl ?_
            refine WL.val rfl (run_move) ?_
            refine WL.yes rfl rfl rfl ?_
            refine WL.val rfl (run_move) ?_
            refine WL.yes rfl rfl rfl ?_
            first | refine WL.val rfl (run_ixSlN Tryd.underlying34 ty9 rfl rfl (by omega)) ?_ | refine WL.val rfl (run_ixSl Tryd.underlying34 ty9 rfl rfl (by omega)) ?_
            refine WL.yes rfl rfl rfl ?_
            refine WL.val rfl (run_load1 ty9 rfl ((hcp hs))) ?_
            refine WL.yes rfl rfl rfl ?_
            refine WL.val rfl (run_bF (run_strNe rfl rfl) (by (exact fun h => h h2))) ?_
            first | refine WL.val rfl (run_pickT rfl) ?_ | refine WL.val rfl (run_pickF rfl) ?_
            refine WL.nil ?_
            repeat (first | refine CW.seq ?_ | refine CW.block ?_ | refine CW.skip ?_ | refine CW.label ?_ | refine CW.exit ?_ | refine CW.condT rfl ?_ | refine CW.condF rfl ?_)
            refine CW.reg ?_
            refine WL.val rfl (run_move) ?_
            refine WL.val rfl (run_add (c := ((i + 1 : Nat) : Int)) rfl rfl (by omega) (by omega)) ?_
            refine WL.val rfl (run_assign) ?_
            refine WL.nil ?_
            repeat (first | refine CW.seq ?_ | refine CW.block ?_ | refine CW.skip ?_ | refine CW.label ?_ | refine CW.exit ?_)
            refine (show _ ∧ _ from ⟨rfl, _, ?_, i + 1, by omega, rfl, hgo, hs, rfl, rfl, trivial⟩)
            omega
        · repeat (first | refine CW.seq ?_ | refine CW.block ?_ | refine CW.skip ?_ | refine CW.label ?_ | refine CW.exit ?_ | refine CW.condT rfl ?_ | refine CW.condF rfl ?_)
          refine CW.reg ?_
          refine WL.val rfl (run_move) ?_
          refine WL.val rfl (run_move) ?_
          refine WL.val rfl (run_lenSl Tryd.underlying34 rfl) ?_
          refine WL.val rfl (run_bT (run_lss rfl rfl) (by omega)) ?_
          refine WL.nil ?_
          repeat (first | refine CW.seq ?_ | refine CW.block ?_ | refine CW.skip ?_ | refine CW.label ?_ | refine CW.exit ?_ | refine CW.condT rfl ?_ | refine CW.condF rfl ?_)
          refine CW.reg ?_
          refine WL.val rfl (run_move) ?_
          refine WL.val rfl (run_move) ?_
          first | refine WL.val rfl (run_ixSlN Tryd.underlying34 ty9 rfl rfl (by omega)) ?_ | refine WL.val rfl (run_ixSl Tryd.underlying34 ty9 rfl rfl (by omega)) ?_
          refine WL.val rfl (run_load1 ty9 rfl ((hcp hs))) ?_
          refine WL.val rfl (run_bF (run_strEq rfl rfl) (by exact h1)) ?_
          refine WL.nil ?_
          repeat (first | refine CW.seq ?_ | refine CW.block ?_ | refine CW.skip ?_ | refine CW.label ?_ | refine CW.exit ?_ | refine CW.condT rfl ?_ | refine CW.condF rfl ?_)
          refine CW.reg ?_
          refine WL.val rfl (run_assign) ?_
          refine WL.nil ?_
          repeat (first | refine CW.seq ?_ | refine CW.block ?_ | refine CW.skip ?_ | refine CW.label ?_ | refine CW.exit ?_ | refine CW.condT rfl ?_ | refine CW.condF rfl ?_)
          refine CW.loop (fun m f w' => ∃ k, 1 ≤ k ∧ k ≤ p.length ∧ m = p.length - k ∧ (∀ j : Nat, j + 1 < k → ¬ (p[j]? = some 42 ∧ p[j + 1]? = some 42)) ∧ Step [] [] w w' ∧ Holds f [(3, .slice (some ⟨bx, 0, none⟩) x.length c), (4, .int .i64 i), (5, .int .i64 k)]) (m := p.length - 1) ?_ ?_
          · exact ⟨1, Nat.le_refl _, by omega, rfl, fun j h => by omega, hs, rfl, rfl, rfl, trivial⟩
          · clear hs
            rintro m f w' ⟨k, hk1, hk, rfl, hno, hs, hf⟩
            have hobt := hf.chain
            obtain ⟨g, rfl⟩ := hobt
            by_cases hlk : k < p.length
            · have hobt : ∃ k', k = k' + 1 := ⟨k - 1, by omega⟩
              obtain ⟨k', rfl⟩ := hobt
              have hobt : ∃ a1, p[k']? = some a1 := ⟨_, List.getElem?_eq_getElem (by omega)⟩
              obtain ⟨a1, ha1⟩ := hobt
              have hobt : ∃ a2, p[k' + 1]? = some a2 := ⟨_, List.getElem?_eq_getElem hlk⟩
              obtain ⟨a2, ha2⟩ := hobt
              by_cases e1 : a1 = 42
              · by_cases e2 : a2 = 42
                · have hk : okPat p = false := by
                    have := contains_two (p := p) (k := k') (by rw [ha1, e1]) (by rw [ha2, e2])
                    simp [okPat, h2, this]
                  rw [hk, Bool.false_and] at hgo
                  repeat (first | refine CW.seq ?_ | refine CW.block ?_ | refine CW.skip ?_ | refine CW.label ?_ | refine CW.exit ?_ | refine CW.condT rfl ?_ | refine CW.condF rfl ?_)
                  refine CW.reg ?_
                  refine WL.val rfl (run_move) ?_
                  refine WL.val rfl (run_move) ?_
                  refine WL.val rfl (run_move) ?_
                  first | refine WL.val rfl (run_ixSlN Tryd.underlying34 ty9 rfl rfl (by omega)) ?_ | refine WL.val rfl (run_ixSl Tryd.underlying34 ty9 rfl rfl (by omega)) ?_
                  refine WL.val rfl (run_load1 ty9 rfl ((hcp hs))) ?_
                  refine WL.val rfl (run_lenStr Tryd.underlying9 rfl) ?_
                  refine WL.val rfl (run_bT (run_lss rfl rfl) (by omega)) ?_
                  refine WL.val rfl (run_move) ?_
                  refine WL.yes rfl rfl rfl ?_
                  refine WL.val rfl (run_move) ?_
                  refine WL.yes rfl rfl rfl ?_
                  refine WL.val rfl (run_move) ?_
                  refine WL.yes rfl rfl rfl ?_
                  first | refine WL.val rfl (run_ixSlN Tryd.underlying34 ty9 rfl rfl (by omega)) ?_ | refine WL.val rfl (run_ixSl Tryd.underlying34 ty9 rfl rfl (by omega)) ?_
                  refine WL.yes rfl rfl rfl ?_
                  refine WL.val rfl (run_load1 ty9 rfl ((hcp hs))) ?_
                  refine WL.yes rfl rfl rfl ?_
                  refine WL.val rfl (run_bT (run_strNe rfl rfl) (by exact h2)) ?_
                  first | refine WL.val rfl (run_pickT rfl) ?_ | refine WL.val rfl (run_pickF rfl) ?_
                  refine WL.nil ?_
                  repeat (first | refine CW.seq ?_ | refine CW.block ?_ | refine CW.skip ?_ | refine CW.label ?_ | refine CW.exit ?_ | refine CW.condT rfl ?_ | refine CW.condF rfl ?_)
                  refine CW.reg ?_
                  refine WL.val rfl (run_move) ?_
                  refine WL.val rfl (run_move) ?_
                  first | refine WL.val rfl (run_ixSlN Tryd.underlying34 ty9 rfl rfl (by omega)) ?_ | refine WL.val rfl (run_ixSl Tryd.underlying34 ty9 rfl rfl (by omega)) ?_
                  refine WL.val rfl (run_load1 ty9 rfl ((hcp hs))) ?_
                  refine WL.val rfl (run_move) ?_
                  refine WL.val rfl (run_sub (c := (k' : Int)) rfl rfl (by omega) (by omega)) ?_
                  refine WL.val rfl (run_strIdx Tryd.underlying9 rfl rfl (ha1)) ?_
                  refine WL.val rfl (run_bT (run_eql rfl rfl) (by exact u8_42.2 e1)) ?_
                  refine WL.val rfl (run_move) ?_
                  refine WL.yes rfl rfl rfl ?_
                  refine WL.val rfl (run_move) ?_
                  refine WL.yes rfl rfl rfl ?_
                  refine WL.val rfl (run_move) ?_
                  refine WL.yes rfl rfl rfl ?_
                  first | refine WL.val rfl (run_ixSlN Tryd.underlying34 ty9 rfl rfl (by omega)) ?_ | refine WL.val rfl (run_ixSl Tryd.underlying34 ty9 rfl rfl (by omega)) ?_
                  refine WL.yes rfl rfl rfl ?_
                  refine WL.val rfl (run_load1 ty9 rfl ((hcp hs))) ?_
                  refine WL.yes rfl rfl rfl ?_
                  refine WL.val rfl (run_move) ?_
                  refine WL.yes rfl rfl rfl ?_
                  refine WL.val rfl (run_strIdx Tryd.underlying9 rfl rfl (ha2)) ?_
                  refine WL.yes rfl rfl rfl ?_
                  refine WL.val rfl (run_bT (run_eql rfl rfl) (by exact u8_42.2 e2)) ?_
                  first | refine WL.val rfl (run_pickT rfl) ?_ | refine WL.val rfl (run_pickF rfl) ?_
                  refine WL.nil ?_
                  repeat (first | refine CW.seq ?_ | refine CW.block ?_ | refine CW.skip ?_ | refine CW.label ?_ | refine CW.exit ?_ | refine CW.condT rfl ?_ | refine CW.condF rfl ?_)
                  refine CW.reg ?_
                  refine WL.val rfl (run_assign) ?_
                  refine WL.nil ?_
                  repeat (first | refine CW.seq ?_ | refine CW.block ?_ | refine CW.skip ?_ | refine CW.label ?_ | refine CW.exit ?_ | refine CW.condT rfl ?_ | refine CW.condF rfl ?_)
                  refine CW.ret ?_
                  refine fin_ret1 rfl ?_
                  exact ⟨congrArg (fun b => Ending.returned (.bool b)) hgo.symm, hs00.callE hs⟩
                · have hnot : ¬ (p[k']? = some 42 ∧ p[k' + 1]? = some 42) := fun h => e2 (by have := h.2; rw [ha2] at this; exact Option.some.inj this)
                  repeat (first | refine CW.seq ?_ | refine CW.block ?_ | refine CW.skip ?_ | refine CW.label ?_ | refine CW.exit ?_ | refine CW.condT rfl ?_ | refine CW.condF rfl ?_)
                  refine CW.reg ?_
                  refine WL.val rfl (run_move) ?_
                  refine WL.val rfl (run_move) ?_
                  refine WL.val rfl (run_move) ?_
                  first | refine WL.val rfl (run_ixSlN Tryd.underlying34 ty9 rfl rfl (by omega)) ?_ | refine WL.val rfl (run_ixSl Tryd.underlying34 ty9 rfl rfl (by omega)) ?_
                  refine WL.val rfl (run_load1 ty9 rfl ((hcp hs))) ?_
                  refine WL.val rfl (run_lenStr Tryd.underlying9 rfl) ?_
                  refine WL.val rfl (run_bT (run_lss rfl rfl) (by omega)) ?_
                  refine WL.val rfl (run_move) ?_
                  refine WL.yes rfl rfl rfl ?_
                  refine WL.val rfl (run_move) ?_
                  refine WL.yes rfl rfl rfl ?_
                  refine WL.val rfl (run_move) ?_
                  refine WL.yes rfl rfl rfl ?_
                  first | refine WL.val rfl (run_ixSlN Tryd.underlying34 ty9 rfl rfl (by omega)) ?_ | refine WL.val rfl (run_ixSl Tryd.underlying34 ty9 rfl rfl (by omega)) ?_
                  refine WL.yes rfl rfl rfl ?_
                  refine WL.val rfl (run_load1 ty9 rfl ((hcp hs))) ?_
                  refine WL.yes rfl rfl rfl ?_
                  refine WL.val rfl (run_bT (run_strNe rfl rfl) (by exact h2)) ?_
                  first | refine WL.val rfl (run_pickT rfl) ?_ | refine WL.val rfl (run_pickF rfl) ?_
                  refine WL.nil ?_
                  repeat (first | refine CW.seq ?_ | refine CW.block ?_ | refine CW.skip ?_ | refine CW.label ?_ | refine CW.exit ?_ | refine CW.condT rfl ?_ | refine CW.condF rfl ?_)
                  refine CW.reg ?_
                  refine WL.val rfl (run_move) ?_
                  refine WL.val rfl (run_move) ?_
                  first | refine WL.val rfl (run_ixSlN Tryd.underlying34 ty9 rfl rfl (by omega)) ?_ | refine WL.val rfl (run_ixSl Tryd.underlying34 ty9 rfl rfl (by omega)) ?_
                  refine WL.val rfl (run_load1 ty9 rfl ((hcp hs))) ?_
                  refine WL.val rfl (run_move) ?_
                  refine WL.val rfl (run_sub (c := (k' : Int)) rfl rfl (by omega) (by omega)) ?_
                  refine WL.val rfl (run_strIdx Tryd.underlying9 rfl rfl (ha1)) ?_
                  refine WL.val rfl (run_bT (run_eql rfl rfl) (by exact u8_42.2 e1)) ?_
                  refine WL.val rfl (run_move) ?_
                  refine WL.yes rfl rfl rfl ?_
                  refine WL.val rfl (run_move) ?_
                  refine WL.yes rfl rfl rfl ?_
                  refine WL.val rfl (run_move) ?_
                  refine WL.yes rfl rfl rfl ?_
                  first | refine WL.val rfl (run_ixSlN Tryd.underlying34 ty9 rfl rfl (by omega)) ?_ | refine WL.val rfl (run_ixSl Tryd.underlying34 ty9 rfl rfl (by omega)) ?_
                  refine WL.yes rfl rfl rfl ?_
                  refine WL.val rfl (run_load1 ty9 rfl ((hcp hs))) ?_
                  refine WL.yes rfl rfl rfl ?_
                  refine WL.val rfl (run_move) ?_
                  refine WL.yes rfl rfl rfl ?_
                  refine WL.val rfl (run_strIdx Tryd.underlying9 rfl rfl (ha2)) ?_
                  refine WL.yes rfl rfl rfl ?_
                  refine WL.val rfl (run_bF (run_eql rfl rfl) (by (exact fun h => e2 (u8_42.1 h)))) ?_
                  first | refine WL.val rfl (run_pickT rfl) ?_ | refine WL.val rfl (run_pickF rfl) ?_
                  refine WL.nil ?_
                  repeat (first | refine CW.seq ?_ | refine CW.block ?_ | refine CW.skip ?_ | refine CW.label ?_ | refine CW.exit ?_ | refine CW.condT rfl ?_ | refine CW.condF rfl ?_)
                  refine CW.reg ?_
                  refine WL.val rfl (run_move) ?_
                  refine WL.val rfl (run_add (c := ((k' + 1 + 1 : Nat) : Int)) rfl rfl (by omega) (by omega)) ?_
                  refine WL.val rfl (run_assign) ?_
                  refine WL.nil ?_
                  repeat (first | refine CW.seq ?_ | refine CW.block ?_ | refine CW.skip ?_ | refine CW.label ?_ | refine CW.exit ?_)
                  refine (show _ ∧ _ from ⟨rfl, _, ?_, k' + 1 + 1, by omega, by omega, rfl, fun j hj => ?_, hs, rfl, rfl, rfl, trivial⟩)
                  · omega
                  · by_cases hjk : j = k'
                    · subst hjk; exact hnot
                    · exact hno j (by omega)
              · have hnot : ¬ (p[k']? = some 42 ∧ p[k' + 1]? = some 42) := fun h => e1 (by have := h.1; rw [ha1] at this; exact Option.some.inj this)
                repeat (first | refine CW.seq ?_ | refine CW.block ?_ | refine CW.skip ?_ | refine CW.label ?_ | refine CW.exit ?_ | refine CW.condT rfl ?_ | refine CW.condF rfl ?_)
                refine CW.reg ?_
                refine WL.val rfl (run_move) ?_
                refine WL.val rfl (run_move) ?_
                refine WL.val rfl (run_move) ?_
                first | refine WL.val rfl (run_ixSlN Tryd.underlying34 ty9 rfl rfl (by omega)) ?_ | refine WL.val rfl (run_ixSl Tryd.underlying34 ty9 rfl rfl (by omega)) ?_
                refine WL.val rfl (run_load1 ty9 rfl ((hcp hs))) ?_
                refine WL.val rfl (run_lenStr Tryd.underlying9 rfl) ?_
                refine WL.val rfl (run_bT (run_lss rfl rfl) (by omega)) ?_
                refine WL.val rfl (run_move) ?_
                refine WL.yes rfl rfl rfl ?_
                refine WL.val rfl (run_move) ?_
                refine WL.yes rfl rfl rfl ?_
                refine WL.val rfl (run_move) ?_
                refine WL.yes rfl rfl rfl ?_
                first | refine WL.val rfl (run_ixSlN Tryd.underlying34 ty9 rfl rfl (by omega)) ?_ | refine WL.val rfl (run_ixSl Tryd.underlying34 ty9 rfl rfl (by omega)) ?_
                refine WL.yes rfl rfl rfl ?_
                refine WL.val rfl (run_load1 ty9 rfl ((hcp hs))) ?_
                refine WL.yes rfl rfl rfl ?_
                refine WL.val rfl (run_bT (run_strNe rfl rfl) (by exact h2)) ?_
                first | refine WL.val rfl (run_pickT rfl) ?_ | refine WL.val rfl (run_pickF rfl) ?_
                refine WL.nil ?_
                repeat (first | refine CW.seq ?_ | refine CW.block ?_ | refine CW.skip ?_ | refine CW.label ?_ | refine CW.exit ?_ | refine CW.condT rfl ?_ | refine CW.condF rfl ?_)
                refine CW.reg ?_
                refine WL.val rfl (run_move) ?_
                refine WL.val rfl (run_move) ?_
                first | refine WL.val rfl (run_ixSlN Tryd.underlying34 ty9 rfl rfl (by omega)) ?_ | refine WL.val rfl (run_ixSl Tryd.underlying34 ty9 rfl rfl (by omega)) ?_
                refine WL.val rfl (run_load1 ty9 rfl ((hcp hs))) ?_
                refine WL.val rfl (run_move) ?_
                refine WL.val rfl (run_sub (c := (k' : Int)) rfl rfl (by omega) (by omega)) ?_
                refine WL.val rfl (run_strIdx Tryd.underlying9 rfl rfl (ha1)) ?_
                refine WL.val rfl (run_bF (run_eql rfl rfl) (by (exact fun h => e1 (u8_42.1 h)))) ?_
                refine WL.val rfl (run_move) ?_
                first | refine WL.no rfl rfl rfl (.inl rfl) ?_ | refine WL.no rfl rfl rfl (.inr rfl) ?_
                first | refine WL.no rfl rfl rfl (.inl rfl) ?_ | refine WL.no rfl rfl rfl (.inr rfl) ?_
                first | refine WL.no rfl rfl rfl (.inl rfl) ?_ | refine WL.no rfl rfl rfl (.inr rfl) ?_
                first | refine WL.no rfl rfl rfl (.inl rfl) ?_ | refine WL.no rfl rfl rfl (.inr rfl) ?_
                first | refine WL.no rfl rfl rfl (.inl rfl) ?_ | refine WL.no rfl rfl rfl (.inr rfl) ?_
                first | refine WL.no rfl rfl rfl (.inl rfl) ?_ | refine WL.no rfl rfl rfl (.inr rfl) ?_
                first | refine WL.no rfl rfl rfl (.inl rfl) ?_ | refine WL.no rfl rfl rfl (.inr rfl) ?_
                first | refine WL.val rfl (run_pickT rfl) ?_ | refine WL.val rfl (run_pickF rfl) ?_
                refine WL.nil ?_
                repeat (first | refine CW.seq ?_ | refine CW.block ?_ | refine CW.skip ?_ | refine CW.label ?_ | refine CW.exit ?_ | refine CW.condT rfl ?_ | refine CW.condF rfl ?_)
                refine CW.reg ?_
                refine WL.val rfl (run_move) ?_
                refine WL.val rfl (run_add (c := ((k' + 1 + 1 : Nat) : Int)) rfl rfl (by omega) (by omega)) ?_
                refine WL.val rfl (run_assign) ?_
                refine WL.nil ?_
                repeat (first | refine CW.seq ?_ | refine CW.block ?_ | refine CW.skip ?_ | refine CW.label ?_ | refine CW.exit ?_)
                refine (show _ ∧ _ from ⟨rfl, _, ?_, k' + 1 + 1, by omega, by omega, rfl, fun j hj => ?_, hs, rfl, rfl, rfl, trivial⟩)
                · omega
                · by_cases hjk : j = k'
                  · subst hjk; exact hnot
                  · exact hno j (by omega)
            · obtain rfl : k = p.length := by omega
              have hk : okPat p = true := by
                have := contains_no (p := p) fun j h => by
                  have hj := (List.getElem?_eq_some_iff.1 h.2).1
                  exact hno j hj h
                simp [okPat, h1, this]
              rw [hk, Bool.true_and] at hgo
              repeat (first | refine CW.seq ?_ | refine CW.block ?_ | refine CW.skip ?_ | refine CW.label ?_ | refine CW.exit ?_ | refine CW.condT rfl ?_ | refine CW.condF rfl ?_)
              refine CW.reg ?_
              refine WL.val rfl (run_move) ?_
              refine WL.val rfl (run_move) ?_
              refine WL.val rfl (run_move) ?_
              first | refine WL.val rfl (run_ixSlN Tryd.underlying34 ty9 rfl rfl (by omega)) ?_ | refine WL.val rfl (run_ixSl Tryd.underlying34 ty9 rfl rfl (by omega)) ?_
              refine WL.val rfl (run_load1 ty9 rfl ((hcp hs))) ?_
              refine WL.val rfl (run_lenStr Tryd.underlying9 rfl) ?_
              refine WL.val rfl (run_bF (run_lss rfl rfl) (by omega)) ?_
              refine WL.val rfl (run_move) ?_
              first | refine WL.no rfl rfl rfl (.inl rfl) ?_ | refine WL.no rfl rfl rfl (.inr rfl) ?_
              first | refine WL.no rfl rfl rfl (.inl rfl) ?_ | refine WL.no rfl rfl rfl (.inr rfl) ?_
              first | refine WL.no rfl rfl rfl (.inl rfl) ?_ | refine WL.no rfl rfl rfl (.inr rfl) ?_
              first | refine WL.no rfl rfl rfl (.inl rfl) ?_ | refine WL.no rfl rfl rfl (.inr rfl) ?_
              first | refine WL.no rfl rfl rfl (.inl rfl) ?_ | refine WL.no rfl rfl rfl (.inr rfl) ?_
              first | refine WL.val rfl (run_pickT rfl) ?_ | refine WL.val rfl (run_pickF rfl) ?_
              refine WL.nil ?_
              repeat (first | refine CW.seq ?_ | refine CW.block ?_ | refine CW.skip ?_ | refine CW.label ?_ | refine CW.exit ?_ | refine CW.condT rfl ?_ | refine CW.condF rfl ?_)
              refine CW.reg ?_
              refine WL.val rfl (run_move) ?_
              refine WL.val rfl (run_add (c := ((i + 1 : Nat) : Int)) rfl rfl (by omega) (by omega)) ?_
              refine WL.val rfl (run_assign) ?_
              refine WL.nil ?_
              repeat (first | refine CW.seq ?_ | refine CW.block ?_ | refine CW.skip ?_ | refine CW.label ?_ | refine CW.exit ?_)
              refine (show _ ∧ _ from ⟨rfl, _, ?_, i + 1, by omega, rfl, hgo, hs, rfl, rfl, trivial⟩)
              omega
    · rw [List.drop_eq_nil_of_le (by omega : x.length ≤ i), List.all_nil] at hgo
      repeat (first | refine CW.seq ?_ | refine CW.block ?_ | refine CW.skip ?_ | refine CW.label ?_ | refine CW.exit ?_ | refine CW.condT rfl ?_ | refine CW.condF rfl ?_)
      refine CW.reg ?_
      refine WL.val rfl (run_move) ?_
      refine WL.val rfl (run_move) ?_
      refine WL.val rfl (run_lenSl Tryd.underlying34 rfl) ?_
      refine WL.val rfl (run_bF (run_lss rfl rfl) (by omega)) ?_
      refine WL.nil ?_
      repeat (first | refine CW.seq ?_ | refine CW.block ?_ | refine CW.skip ?_ | refine CW.label ?_ | refine CW.exit ?_ | refine CW.condT rfl ?_ | refine CW.condF rfl ?_)
      refine CW.reg ?_
      refine WL.val rfl (run_assign) ?_
      refine WL.nil ?_
      repeat (first | refine CW.seq ?_ | refine CW.block ?_ | refine CW.skip ?_ | refine CW.label ?_ | refine CW.exit ?_ | refine CW.condT rfl ?_ | refine CW.condF rfl ?_)
      refine CW.ret ?_
      refine fin_ret1 rfl ?_
      exact ⟨congrArg (fun b => Ending.returned (.bool b)) hgo.symm, hs00.callE hs⟩
end Go.Gx
