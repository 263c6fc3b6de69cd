/- The document's Path and Clean. -/
import Derived.Test.YtepaojbhjgefiaaDoorPClean2
namespace Go.Gx
open Go.Proofs Go.RowKit
set_option linter.unusedVariables false
set_option linter.unusedSimpArgs false
set_option maxRecDepth 100000

theorem joinL_snoc (l : List (List UInt8)) (p : List UInt8) : joinL (l ++ [p]) = (if 0 < l.length then joinL l ++ [47] else joinL l) ++ p := by
  induction l with
  | nil => simp [joinL, List.intercalate]
  | cons x l ih =>
    rw [if_pos (by simp)]
    cases l with
    | nil => simp [joinL, List.intercalate]
    | cons y l =>
      rw [if_pos (by simp)] at ih
      have e1 : joinL (x :: y :: l) = x ++ 47 :: joinL (y :: l) := by simp [joinL, List.intercalate, List.intersperse]
      have e2 : joinL (x :: y :: l ++ [p]) = x ++ 47 :: joinL (y :: l ++ [p]) := by simp [joinL, List.intercalate, List.intersperse]
      rw [e2, ih, e1]
      simp
theorem joinL_take {l : List (List UInt8)} {i : Nat} {p : List UInt8} (h : l[i]? = some p) : joinL (l.take (i + 1)) = (if 0 < i then joinL (l.take i) ++ [47] else joinL (l.take i)) ++ p := by
  have hi := (List.getElem?_eq_some_iff.1 h).1
  rw [List.take_add_one, h]
  show joinL (l.take i ++ [p]) = _
  rw [joinL_snoc, List.length_take, Nat.min_eq_left (by omega)]

theorem joinTake_len {l : List (List UInt8)} (i : Nat) : (joinL (l.take i)).length ≤ (l.map fun x => x.length + 1).sum := by
  have h1 := join_len (l.take i)
  have h2 : ((l.take i).map fun x => x.length + 1).sum ≤ (l.map fun x => x.length + 1).sum := by
    conv => rhs; rw [← List.take_append_drop i l]
    rw [List.map_append, List.sum_append]
    omega
  omega

set_option maxHeartbeats 2000000 in
theorem refPath_spec {u : Value} {ps : List (List UInt8)} {S : List Nat} {Lp : List (Nat × Obj)} (w0 : World) (hu : OwnSl 9 1 u ps.length (strs ps) Lp) (hs : Step S Lp w0 w0) (hbd : (ps.map fun x => x.length + 1).sum ≤ 9000000) : Calls Tryd.prog 60 #[u] w0 (Ret0 (str (joinL ps)) w0) := by
  have hs0 : Step [] [] w0 w0 := Step.refl w0
  have hform := hu.form
  obtain ⟨a, c, hq2⟩ := hform
  subst hq2
  have hpl : ps.length ≤ (ps.map fun x => x.length + 1).sum := by
    clear hbd hu hs
    induction ps with
    | nil => simp
    | cons x ps ih => simp; omega
  have hbase : ps = [] ∨ ∃ bp, a = some ⟨bp, 0, none⟩ ∧ ∀ i p, ps[i]? = some p → w0.cell? ⟨bp, 0 + i * 1, none⟩ = some (str p) := by
    by_cases h0 : ps = []
    · exact .inl h0
    · right
      have hobt := hu.some1 (List.length_pos_iff.2 h0)
      obtain ⟨bp, cp, more, hq1, hqL, hcp⟩ := hobt
      cases hq1
      subst hqL
      refine ⟨bp, rfl, fun i p hpi => ?_⟩
      have hlt := (List.getElem?_eq_some_iff.1 hpi).1
      rw [cell_blk hs.hd, Nat.zero_add, Nat.mul_one, List.getElem?_append_left (by rw [strs_len]; exact hlt)]
      simp [strs, hpi]
  have hcl : ps.length ≤ c := by
    rcases hbase with h | ⟨bp, rfl, _⟩
    · rw [h]; simp
    · by_cases h0 : ps = []
      · rw [h0]; simp
      · have hobt := hu.some1 (List.length_pos_iff.2 h0)
        obtain ⟨bp, cp, more, hq1, hqL, hcp⟩ := hobt
        cases hq1
        rw [List.length_append, strs_len] at hcp
        omega
  refine calls (n := 22) Tryd.func60 rfl rfl rfl ?_
  repeat (first | refine CW.seq ?_ | refine CW.block ?_ | refine CW.skip ?_ | refine CW.label ?_ | refine CW.exit ?_ | refine CW.condT rfl ?_ | refine CW.condF rfl ?_)
  refine CW.reg ?_
  refine WL.val rfl (run_assign) ?_
  refine WL.nil ?_
  repeat (first | refine CW.seq ?_ | refine CW.block ?_ | refine CW.skip ?_ | refine CW.label ?_ | refine CW.exit ?_ | refine CW.condT rfl ?_ | refine CW.condF rfl ?_)
  refine CW.reg ?_
  refine WL.val rfl (run_assign) ?_
  refine WL.nil ?_
  repeat (first | refine CW.seq ?_ | refine CW.block ?_ | refine CW.skip ?_ | refine CW.label ?_ | refine CW.exit ?_ | refine CW.condT rfl ?_ | refine CW.condF rfl ?_)
  refine CW.reg ?_
  refine WL.val rfl (run_assign) ?_
  refine WL.nil ?_
  repeat (first | refine CW.seq ?_ | refine CW.block ?_ | refine CW.skip ?_ | refine CW.label ?_ | refine CW.exit ?_ | refine CW.condT rfl ?_ | refine CW.condF rfl ?_)
  refine CW.loop (fun m f w' => ∃ i, i ≤ ps.length ∧ m = ps.length - i ∧ w' = w0 ∧ Holds f [(0, .slice a ps.length c), (3, str (joinL (ps.take i))), (4, .int .i64 i)]) (m := ps.length) ?_ ?_
  · exact ⟨0, by omega, by omega, rfl, rfl, rfl, rfl, trivial⟩
  · rintro m f w ⟨i, hi, rfl, rfl, hf⟩
    have hs : Step [] [] w w := Step.refl w
    have hobt := hf.chain
    obtain ⟨g, rfl⟩ := hobt
    by_cases hlt : i < ps.length
    · rcases hbase with h | ⟨bp, rfl, hcells⟩
      · rw [h] at hlt; cases hlt
      have hobt : ∃ p, ps[i]? = some p := ⟨_, List.getElem?_eq_getElem hlt⟩
      obtain ⟨p, hpi⟩ := hobt
      have hcell := hcells i p hpi
      have hjt := joinL_take hpi
      have hl1 := joinTake_len (l := ps) i
      have hl2 := joinTake_len (l := ps) (i + 1)
      repeat (first | refine CW.seq ?_ | refine CW.block ?_ | refine CW.skip ?_ | refine CW.label ?_ | refine CW.exit ?_ | refine CW.condT rfl ?_ | refine CW.condF rfl ?_)
      refine CW.reg ?_
      refine WL.val rfl (run_move) ?_
      refine WL.val rfl (run_move) ?_
      refine WL.val rfl (run_lenSl Tryd.underlying51 rfl) ?_
      refine WL.val rfl (run_bT (run_lss rfl rfl) (by omega)) ?_
      refine WL.nil ?_
      by_cases h0 : 0 < i
      · rw [if_pos h0] at hjt
        have hl3 := congrArg List.length hjt
        rw [List.length_append, List.length_append] at hl3
        simp only [List.length_cons, List.length_nil] at hl3
        repeat (first | refine CW.seq ?_ | refine CW.block ?_ | refine CW.skip ?_ | refine CW.label ?_ | refine CW.exit ?_ | refine CW.condT rfl ?_ | refine CW.condF rfl ?_)
        refine CW.reg ?_
        refine WL.val rfl (run_move) ?_
        refine WL.val rfl (run_bT (run_gtr rfl rfl) (by omega)) ?_
        refine WL.nil ?_
        repeat (first | refine CW.seq ?_ | refine CW.block ?_ | refine CW.skip ?_ | refine CW.label ?_ | refine CW.exit ?_ | refine CW.condT rfl ?_ | refine CW.condF rfl ?_)
        refine CW.reg ?_
        refine WL.val rfl (run_move) ?_
        refine WL.val rfl (run_strAdd rfl rfl ((by simp only [List.length_cons, List.length_nil]; omega))) ?_
        refine WL.val rfl (run_assign) ?_
        refine WL.nil ?_
        repeat (first | refine CW.seq ?_ | refine CW.block ?_ | refine CW.skip ?_ | refine CW.label ?_ | refine CW.exit ?_ | refine CW.condT rfl ?_ | refine CW.condF rfl ?_)
        refine CW.reg ?_
        refine WL.val rfl (run_move) ?_
        refine WL.val rfl (run_move) ?_
        refine WL.val rfl (run_move) ?_
        first | refine WL.val rfl (run_ixSlN Tryd.underlying51 ty9 rfl rfl (by omega)) ?_ | refine WL.val rfl (run_ixSl Tryd.underlying51 ty9 rfl rfl (by omega)) ?_
        refine WL.val rfl (run_load1 ty9 rfl (hcell)) ?_
        refine WL.val rfl (run_strAdd rfl rfl ((by simp only [List.length_append, List.length_cons, List.length_nil]; omega))) ?_
        refine WL.val rfl (run_assign) ?_
        refine WL.nil ?_
        repeat (first | refine CW.seq ?_ | refine CW.block ?_ | refine CW.skip ?_ | refine CW.label ?_ | refine CW.exit ?_ | refine CW.condT rfl ?_ | refine CW.condF rfl ?_)
        refine CW.reg ?_
        refine WL.val rfl (run_move) ?_
        refine WL.val rfl (run_add (c := ((i + 1 : Nat) : Int)) rfl rfl (by omega) (by omega)) ?_
        refine WL.val rfl (run_assign) ?_
        refine WL.nil ?_
        rw [hjt.symm]
        repeat (first | refine CW.seq ?_ | refine CW.block ?_ | refine CW.skip ?_ | refine CW.label ?_ | refine CW.exit ?_)
        refine (show _ ∧ _ from ⟨rfl, _, ?_, i + 1, by omega, rfl, rfl, rfl, rfl, rfl, trivial⟩)
        omega
      · rw [if_neg h0] at hjt
        have hl3 := congrArg List.length hjt
        rw [List.length_append] at hl3
        repeat (first | refine CW.seq ?_ | refine CW.block ?_ | refine CW.skip ?_ | refine CW.label ?_ | refine CW.exit ?_ | refine CW.condT rfl ?_ | refine CW.condF rfl ?_)
        refine CW.reg ?_
        refine WL.val rfl (run_move) ?_
        refine WL.val rfl (run_bF (run_gtr rfl rfl) (by omega)) ?_
        refine WL.nil ?_
        repeat (first | refine CW.seq ?_ | refine CW.block ?_ | refine CW.skip ?_ | refine CW.label ?_ | refine CW.exit ?_ | refine CW.condT rfl ?_ | refine CW.condF rfl ?_)
        refine CW.reg ?_
        refine WL.val rfl (run_move) ?_
        refine WL.val rfl (run_move) ?_
        refine WL.val rfl (run_move) ?_
        first | refine WL.val rfl (run_ixSlN Tryd.underlying51 ty9 rfl rfl (by omega)) ?_ | refine WL.val rfl (run_ixSl Tryd.underlying51 ty9 rfl rfl (by omega)) ?_
        refine WL.val rfl (run_load1 ty9 rfl (hcell)) ?_
        refine WL.val rfl (run_strAdd rfl rfl ((by omega))) ?_
        refine WL.val rfl (run_assign) ?_
        refine WL.nil ?_
        repeat (first | refine CW.seq ?_ | refine CW.block ?_ | refine CW.skip ?_ | refine CW.label ?_ | refine CW.exit ?_ | refine CW.condT rfl ?_ | refine CW.condF rfl ?_)
        refine CW.reg ?_
        refine WL.val rfl (run_move) ?_
        refine WL.val rfl (run_add (c := ((i + 1 : Nat) : Int)) rfl rfl (by omega) (by omega)) ?_
        refine WL.val rfl (run_assign) ?_
        refine WL.nil ?_
        repeat (first | refine CW.seq ?_ | refine CW.block ?_ | refine CW.skip ?_ | refine CW.label ?_ | refine CW.exit ?_)
        refine (show _ ∧ _ from ⟨rfl, _, ?_, i + 1, by omega, rfl, rfl, rfl, by rw [hjt]; rfl, rfl, trivial⟩)
        omega
    · have hii : i = ps.length := by omega
      repeat (first | refine CW.seq ?_ | refine CW.block ?_ | refine CW.skip ?_ | refine CW.label ?_ | refine CW.exit ?_ | refine CW.condT rfl ?_ | refine CW.condF rfl ?_)
      refine CW.reg ?_
      refine WL.val rfl (run_move) ?_
      refine WL.val rfl (run_move) ?_
      refine WL.val rfl (run_lenSl Tryd.underlying51 rfl) ?_
      refine WL.val rfl (run_bF (run_lss rfl rfl) (by omega)) ?_
      refine WL.nil ?_
      repeat (first | refine CW.seq ?_ | refine CW.block ?_ | refine CW.skip ?_ | refine CW.label ?_ | refine CW.exit ?_ | refine CW.condT rfl ?_ | refine CW.condF rfl ?_)
      refine CW.reg ?_
      refine WL.val rfl (run_move) ?_
      refine WL.val rfl (run_assign) ?_
      refine WL.nil ?_
      repeat (first | refine CW.seq ?_ | refine CW.block ?_ | refine CW.skip ?_ | refine CW.label ?_ | refine CW.exit ?_ | refine CW.condT rfl ?_ | refine CW.condF rfl ?_)
      refine CW.ret ?_
      refine fin_ret1 rfl ?_
      rw [hii, List.take_length]
      exact ⟨rfl, hs⟩
end Go.Gx
