/- The program's Clean, IsClean. -/
import Derived.Test.YtepaojbhjgefiaaDoorPClean
namespace Go.Gx
open Go.Proofs Go.RowKit
set_option linter.unusedVariables false
set_option linter.unusedSimpArgs false
set_option maxRecDepth 100000

theorem splitL_len : ∀ s, (splitL s).length ≤ s.length + 1
  | [] => by simp [splitL]
  | c :: s => by
    have ih := splitL_len s
    rw [splitL]
    split
    · simp; omega
    · split
      · simp
      · rename_i p ps h
        rw [h] at ih
        simp at ih ⊢
        omega
theorem partsL_len (s : List UInt8) : (partsL s).length ≤ s.length + 1 := by
  unfold partsL
  split
  · simp
  · exact splitL_len s
def Named (row : List (List UInt8)) : Prop := ∀ p ∈ row, isName p = true
theorem isName_le {s : List UInt8} (h : isName s = true) : s.length ≤ 64 := by
  simp only [isName, Bool.and_eq_true, decide_eq_true_eq] at h
  exact h.1.2.1
theorem named_join : ∀ {row : List (List UInt8)}, Named row → (row.map fun x => x.length + 1).sum ≤ 65 * row.length
  | [], _ => by simp
  | x :: row, h => by
    have h1 := isName_le (h x (by simp))
    have h2 := named_join (row := row) (fun p hp => h p (by simp [hp]))
    simp only [List.map_cons, List.sum_cons, List.length_cons]
    omega

theorem splitL_le : ∀ (s p : List UInt8), p ∈ splitL s → p.length ≤ s.length
  | [], p, h => by
    simp [splitL] at h
    simp [h]
  | c :: s, p, h => by
    have ih := splitL_le s
    rw [splitL] at h
    split at h
    · rcases List.mem_cons.1 h with rfl | h
      · simp
      · have := ih p h; simp; omega
    · split at h
      · rcases List.mem_cons.1 h with rfl | h
        · simp
        · cases h
      · rename_i q qs hq
        rw [hq] at ih
        rcases List.mem_cons.1 h with rfl | h
        · have := ih q (by simp); simp; omega
        · have := ih p (by simp [h]); simp; omega
theorem partsL_le {s p : List UInt8} (h : p ∈ partsL s) : p.length ≤ s.length := by
  unfold partsL at h
  split at h
  · cases h
  · exact splitL_le s p h

theorem Step.dropX {S : List Nat} {p : Nat × Obj} {A B : List (Nat × Obj)} {w0 w : World} (h : Step S (A ++ p :: B) w0 w) : Step S (A ++ B) w0 w := (h.perm List.perm_middle).tail

set_option maxHeartbeats 2000000 in
theorem clean_spec {s : List UInt8} (w0 : World) (hg : Gl w0) (hs1 : s.length ≤ 9223372036854775807) : Calls Tryd.prog 29 #[str s] w0 (Ret0 (.tuple #[str (cleanS s), .int .i64 (cleanE s)]) w0) := by
  have hs : Step [] [] w0 w0 := Step.refl w0
  by_cases hbig : 4096 < s.length
  · have hc := clean_err (s := s) (e := 2) (by unfold cleanR; rw [if_pos hbig])
    refine calls (n := 54) Tryd.func29 rfl rfl rfl ?_
    repeat (first | refine CW.seq ?_ | refine CW.block ?_ | refine CW.skip ?_ | refine CW.label ?_ | refine CW.exit ?_ | refine CW.condT rfl ?_ | refine CW.condF rfl ?_)
    refine CW.reg ?_
    refine WL.val rfl (run_assign) ?_
    refine WL.val rfl (run_assign) ?_
    refine WL.nil ?_
    repeat (first | refine CW.seq ?_ | refine CW.block ?_ | refine CW.skip ?_ | refine CW.label ?_ | refine CW.exit ?_ | refine CW.condT rfl ?_ | refine CW.condF rfl ?_)
    refine CW.reg ?_
    refine WL.val rfl (run_move) ?_
    refine WL.val rfl (run_lenStr Tryd.underlying9 rfl) ?_
    refine WL.val rfl (run_bT (run_gtr rfl rfl) (by omega)) ?_
    refine WL.nil ?_
    repeat (first | refine CW.seq ?_ | refine CW.block ?_ | refine CW.skip ?_ | refine CW.label ?_ | refine CW.exit ?_ | refine CW.condT rfl ?_ | refine CW.condF rfl ?_)
    refine CW.reg ?_
    refine WL.val rfl (run_assign) ?_
    refine WL.val rfl (run_assign) ?_
    refine WL.nil ?_
    repeat (first | refine CW.seq ?_ | refine CW.block ?_ | refine CW.skip ?_ | refine CW.label ?_ | refine CW.exit ?_ | refine CW.condT rfl ?_ | refine CW.condF rfl ?_)
    refine CW.ret ?_
    refine fin_ret2 rfl ?_
    exact ⟨by rw [hc.1, hc.2]; kernel_rfl, hs⟩
  · have hcE : ∀ e, cleanGo (partsL s) [] = .error e → cleanS s = [] ∧ cleanE s = e := fun e h => clean_err (by unfold cleanR; rw [if_neg hbig, h])
    have hcO : ∀ row, cleanGo (partsL s) [] = .ok row → 32 < row.length → cleanS s = [] ∧ cleanE s = 33 := fun row h h2 => clean_err (by unfold cleanR; rw [if_neg hbig, h]; exact if_pos h2)
    have hcK : ∀ row, cleanGo (partsL s) [] = .ok row → ¬ 32 < row.length → cleanS s = joinL row ∧ cleanE s = 0 := fun row h h2 => clean_ok (by unfold cleanR; rw [if_neg hbig, h]; exact if_neg h2)
    have hpl := partsL_len s
    have hple : ∀ p ∈ partsL s, p.length ≤ s.length := fun p h => partsL_le h
    refine calls (n := 54) Tryd.func29 rfl rfl rfl ?_
    repeat (first | refine CW.seq ?_ | refine CW.block ?_ | refine CW.skip ?_ | refine CW.label ?_ | refine CW.exit ?_ | refine CW.condT rfl ?_ | refine CW.condF rfl ?_)
    refine CW.reg ?_
    refine WL.val rfl (run_assign) ?_
    refine WL.val rfl (run_assign) ?_
    refine WL.nil ?_
    repeat (first | refine CW.seq ?_ | refine CW.block ?_ | refine CW.skip ?_ | refine CW.label ?_ | refine CW.exit ?_ | refine CW.condT rfl ?_ | refine CW.condF rfl ?_)
    refine CW.reg ?_
    refine WL.val rfl (run_move) ?_
    refine WL.val rfl (run_lenStr Tryd.underlying9 rfl) ?_
    refine WL.val rfl (run_bF (run_gtr rfl rfl) (by omega)) ?_
    refine WL.nil ?_
    repeat (first | refine CW.seq ?_ | refine CW.block ?_ | refine CW.skip ?_ | refine CW.label ?_ | refine CW.exit ?_ | refine CW.condT rfl ?_ | refine CW.condF rfl ?_)
    refine CW.reg ?_
    refine WL.val rfl (run_assign) ?_
    refine WL.nil ?_
    repeat (first | refine CW.seq ?_ | refine CW.block ?_ | refine CW.skip ?_ | refine CW.label ?_ | refine CW.exit ?_ | refine CW.condT rfl ?_ | refine CW.condF rfl ?_)
    refine CW.reg ?_
    refine WL.val rfl (run_move) ?_
    refine WL.enter rfl (run_call en50 rfl rfl) (parts_spec _ hg (by omega)) ?_
    rintro e w ⟨u, Lp, rfl, hu, hq⟩
    refine ⟨_, rfl, ?_⟩
    have hs := hq
    have hform := hu.form
    obtain ⟨a, c, hq2⟩ := hform
    subst hq2
    refine WL.val rfl (run_lenSl Tryd.underlying51 rfl) ?_
    refine WL.val rfl (run_move) ?_
    refine WL.nil ?_
    have hobt : ∃ ps, partsL s = ps := ⟨_, rfl⟩
    obtain ⟨ps, hps⟩ := hobt
    rw [hps] at hcE hcO hcK hpl hu hple
    repeat (first | refine CW.seq ?_ | refine CW.block ?_ | refine CW.skip ?_ | refine CW.label ?_ | refine CW.exit ?_ | refine CW.condT rfl ?_ | refine CW.condF rfl ?_)
    refine CW.loop (fun m f w' => ∃ i row v Lv, i ≤ ps.length ∧ m = ps.length - i ∧ cleanGo ps [] = cleanGo (ps.drop i) row ∧ row.length ≤ i ∧ Named row ∧ OwnSl 9 1 v row.length (strs row) Lv ∧ Step [] (Lv ++ Lp) w0 w' ∧ Holds f [(4, v), (11, .slice a ps.length c), (12, .int .i64 ps.length), (13, .int .i64 i)]) (m := ps.length) ?_ ?_
    · exact ⟨0, [], _, [], by omega, by omega, rfl, by simp, (fun p hp => by cases hp), .nil _ _, hs, rfl, by rw [← hps]; rfl, by rw [← hps]; rfl, rfl, trivial⟩
    · clear hs hq
      rintro m f w ⟨i, row, v, Lv, hi, rfl, hgo, hrl, hnm, hv, hs, hf⟩
      have hobt := hf.chain
      obtain ⟨g, rfl⟩ := hobt
      have hvf := hv.form
      obtain ⟨va, vc, rfl⟩ := hvf
      by_cases hlt : i < ps.length
      · have hobt : ∃ p, ps[i] = p := ⟨_, rfl⟩
        obtain ⟨p, hp⟩ := hobt
        rw [List.drop_eq_getElem_cons hlt, hp, cleanGo] at hgo
        have hpi : ps[i]? = some p := by rw [List.getElem?_eq_getElem hlt, hp]
        have hpl1 := hple p (List.mem_of_getElem? hpi)
        have hsm := hu.some1 (by omega)
        obtain ⟨bp, cp, more, hq1, hqL, hcp⟩ := hsm
        cases hq1
        subst hqL
        have hcl : ps.length ≤ c := by
          rw [List.length_append, strs_len] at hcp
          omega
        have hcell : w.cell? ⟨bp, 0 + i * 1, none⟩ = some (str p) := by
          rw [cell_blk (hs.at Lv), Nat.zero_add, Nat.mul_one, List.getElem?_append_left (by rw [strs_len]; exact hlt)]
          simp [strs, hpi]
        repeat (first | refine CW.seq ?_ | refine CW.block ?_ | refine CW.skip ?_ | refine CW.label ?_ | refine CW.exit ?_ | refine CW.condT rfl ?_ | refine CW.condF rfl ?_)
        refine CW.reg ?_
        refine WL.val rfl (run_bT (run_lss rfl rfl) (by omega)) ?_
        refine WL.nil ?_
        repeat (first | refine CW.seq ?_ | refine CW.block ?_ | refine CW.skip ?_ | refine CW.label ?_ | refine CW.exit ?_ | refine CW.condT rfl ?_ | refine CW.condF rfl ?_)
        refine CW.reg ?_
        first | refine WL.val rfl (run_ixSlN Tryd.underlying51 ty9 rfl rfl (by omega)) ?_ | refine WL.val rfl (run_ixSl Tryd.underlying51 ty9 rfl rfl (by omega)) ?_
        refine WL.val rfl (run_load1 ty9 rfl (hcell)) ?_
        refine WL.val rfl (run_assign) ?_
        refine WL.nil ?_
        by_cases h1 : p = []
        · rw [if_pos (.inl h1)] at hgo
          repeat (first | refine CW.seq ?_ | refine CW.block ?_ | refine CW.skip ?_ | refine CW.label ?_ | refine CW.exit ?_ | refine CW.condT rfl ?_ | refine CW.condF rfl ?_)
          refine CW.reg ?_
          refine WL.val rfl (run_move) ?_
          refine WL.val rfl (run_bT (run_strEq rfl rfl) (by exact h1)) ?_
          refine WL.val rfl (run_move) ?_
          first | refine WL.no rfl rfl rfl (.inl rfl) ?_ | refine WL.no rfl rfl rfl (.inr rfl) ?_
          first | refine WL.no rfl rfl rfl (.inl rfl) ?_ | refine WL.no rfl rfl rfl (.inr rfl) ?_
          first | refine WL.val rfl (run_pickT rfl) ?_ | refine WL.val rfl (run_pickF rfl) ?_
          refine WL.val rfl (run_assign) ?_
          refine WL.nil ?_
          repeat (first | refine CW.seq ?_ | refine CW.block ?_ | refine CW.skip ?_ | refine CW.label ?_ | refine CW.exit ?_ | refine CW.condT rfl ?_ | refine CW.condF rfl ?_)
          refine CW.reg ?_
          refine WL.val rfl (run_add (c := ((i + 1 : Nat) : Int)) rfl rfl (by omega) (by omega)) ?_
          refine WL.val rfl (run_move) ?_
          refine WL.nil ?_
          repeat (first | refine CW.seq ?_ | refine CW.block ?_ | refine CW.skip ?_ | refine CW.label ?_ | refine CW.exit ?_)
          refine (show _ ∧ _ from ⟨rfl, _, ?_, i + 1, row, _, _, by omega, rfl, hgo, by omega, hnm, hv, hs, rfl, rfl, rfl, rfl, trivial⟩)
          omega
        · by_cases h2 : p = [46]
          · rw [if_pos (.inr h2)] at hgo
            repeat (first | refine CW.seq ?_ | refine CW.block ?_ | refine CW.skip ?_ | refine CW.label ?_ | refine CW.exit ?_ | refine CW.condT rfl ?_ | refine CW.condF rfl ?_)
            refine CW.reg ?_
            refine WL.val rfl (run_move) ?_
            refine WL.val rfl (run_bF (run_strEq rfl rfl) (by exact h1)) ?_
            refine WL.val rfl (run_move) ?_
            refine WL.yes rfl rfl rfl ?_
            refine WL.val rfl (run_move) ?_
            refine WL.yes rfl rfl rfl ?_
            refine WL.val rfl (run_bT (run_strEq rfl rfl) (by exact h2)) ?_
            first | refine WL.val rfl (run_pickT rfl) ?_ | refine WL.val rfl (run_pickF rfl) ?_
            refine WL.val rfl (run_assign) ?_
            refine WL.nil ?_
            repeat (first | refine CW.seq ?_ | refine CW.block ?_ | refine CW.skip ?_ | refine CW.label ?_ | refine CW.exit ?_ | refine CW.condT rfl ?_ | refine CW.condF rfl ?_)
            refine CW.reg ?_
            refine WL.val rfl (run_add (c := ((i + 1 : Nat) : Int)) rfl rfl (by omega) (by omega)) ?_
            refine WL.val rfl (run_move) ?_
            refine WL.nil ?_
            repeat (first | refine CW.seq ?_ | refine CW.block ?_ | refine CW.skip ?_ | refine CW.label ?_ | refine CW.exit ?_)
            refine (show _ ∧ _ from ⟨rfl, _, ?_, i + 1, row, _, _, by omega, rfl, hgo, by omega, hnm, hv, hs, rfl, rfl, rfl, rfl, trivial⟩)
            omega
          · rw [if_neg (fun h => h.elim h1 h2)] at hgo
            repeat (first | refine CW.seq ?_ | refine CW.block ?_ | refine CW.skip ?_ | refine CW.label ?_ | refine CW.exit ?_ | refine CW.condT rfl ?_ | refine CW.condF rfl ?_)
            refine CW.reg ?_
            refine WL.val rfl (run_move) ?_
            refine WL.val rfl (run_bF (run_strEq rfl rfl) (by exact h1)) ?_
            refine WL.val rfl (run_move) ?_
            refine WL.yes rfl rfl rfl ?_
            refine WL.val rfl (run_move) ?_
            refine WL.yes rfl rfl rfl ?_
            refine WL.val rfl (run_bF (run_strEq rfl rfl) (by exact h2)) ?_
            first | refine WL.val rfl (run_pickT rfl) ?_ | refine WL.val rfl (run_pickF rfl) ?_
            refine WL.val rfl (run_assign) ?_
            refine WL.nil ?_
            by_cases h3 : p = [46, 46]
            · rw [if_pos h3] at hgo
              by_cases h4 : row = []
              · rw [if_pos h4] at hgo
                have hc := hcE 32 hgo
                subst h4
                repeat (first | refine CW.seq ?_ | refine CW.block ?_ | refine CW.skip ?_ | refine CW.label ?_ | refine CW.exit ?_ | refine CW.condT rfl ?_ | refine CW.condF rfl ?_)
                refine CW.reg ?_
                refine WL.val rfl (run_move) ?_
                refine WL.val rfl (run_bT (run_strEq rfl rfl) (by exact h3)) ?_
                refine WL.val rfl (run_move) ?_
                refine WL.yes rfl rfl rfl ?_
                refine WL.val rfl (run_move) ?_
                refine WL.yes rfl rfl rfl ?_
                refine WL.val rfl (run_lenSl Tryd.underlying51 rfl) ?_
                refine WL.yes rfl rfl rfl ?_
                refine WL.val rfl (run_bT (run_eql rfl rfl) (by rfl)) ?_
                first | refine WL.val rfl (run_pickT rfl) ?_ | refine WL.val rfl (run_pickF rfl) ?_
                refine WL.val rfl (run_assign) ?_
                refine WL.nil ?_
                repeat (first | refine CW.seq ?_ | refine CW.block ?_ | refine CW.skip ?_ | refine CW.label ?_ | refine CW.exit ?_ | refine CW.condT rfl ?_ | refine CW.condF rfl ?_)
                refine CW.reg ?_
                refine WL.val rfl (run_assign) ?_
                refine WL.val rfl (run_assign) ?_
                refine WL.nil ?_
                repeat (first | refine CW.seq ?_ | refine CW.block ?_ | refine CW.skip ?_ | refine CW.label ?_ | refine CW.exit ?_ | refine CW.condT rfl ?_ | refine CW.condF rfl ?_)
                refine CW.ret ?_
                refine fin_ret2 rfl ?_
                exact ⟨by rw [hc.1, hc.2]; kernel_rfl, Step.dropR (L1 := []) hs⟩
              · rw [if_neg h4] at hgo
                have hr0 : 0 < row.length := List.length_pos_iff.2 h4
                have hsm := hv.some1 hr0
                obtain ⟨bv, cv, mv, hq1, hqL, hcv⟩ := hsm
                cases hq1
                subst hqL
                have hv2 := hv.cut1 hr0
                have hcr : row.length ≤ vc := by
                  rw [List.length_append, strs_len] at hcv
                  omega
                have hdl : row.dropLast.length = row.length - 1 := List.length_dropLast
                have hnm2 : Named row.dropLast := fun q hq => hnm q (List.dropLast_subset _ hq)
                repeat (first | refine CW.seq ?_ | refine CW.block ?_ | refine CW.skip ?_ | refine CW.label ?_ | refine CW.exit ?_ | refine CW.condT rfl ?_ | refine CW.condF rfl ?_)
                refine CW.reg ?_
                refine WL.val rfl (run_move) ?_
                refine WL.val rfl (run_bT (run_strEq rfl rfl) (by exact h3)) ?_
                refine WL.val rfl (run_move) ?_
                refine WL.yes rfl rfl rfl ?_
                refine WL.val rfl (run_move) ?_
                refine WL.yes rfl rfl rfl ?_
                refine WL.val rfl (run_lenSl Tryd.underlying51 rfl) ?_
                refine WL.yes rfl rfl rfl ?_
                refine WL.val rfl (run_bF (run_eql rfl rfl) (by omega)) ?_
                first | refine WL.val rfl (run_pickT rfl) ?_ | refine WL.val rfl (run_pickF rfl) ?_
                refine WL.val rfl (run_assign) ?_
                refine WL.nil ?_
                repeat (first | refine CW.seq ?_ | refine CW.block ?_ | refine CW.skip ?_ | refine CW.label ?_ | refine CW.exit ?_ | refine CW.condT rfl ?_ | refine CW.condF rfl ?_)
                refine CW.reg ?_
                refine WL.val rfl (run_move) ?_
                refine WL.val rfl (run_bT (run_strEq rfl rfl) (by exact h3)) ?_
                refine WL.val rfl (run_assign) ?_
                refine WL.nil ?_
                repeat (first | refine CW.seq ?_ | refine CW.block ?_ | refine CW.skip ?_ | refine CW.label ?_ | refine CW.exit ?_ | refine CW.condT rfl ?_ | refine CW.condF rfl ?_)
                refine CW.reg ?_
                refine WL.val rfl (run_move) ?_
                refine WL.val rfl (run_move) ?_
                refine WL.val rfl (run_lenSl Tryd.underlying51 rfl) ?_
                refine WL.val rfl (run_sub (c := ((row.length - 1 : Nat) : Int)) rfl rfl (by omega) (by omega)) ?_
                refine WL.val rfl (run_sliceSl0 (hi := row.length - 1) Tryd.underlying51 ty9 rfl rfl rfl (by simp) (by omega) (by omega)) ?_
                refine WL.val rfl (run_assign) ?_
                refine WL.nil ?_
                repeat (first | refine CW.seq ?_ | refine CW.block ?_ | refine CW.skip ?_ | refine CW.label ?_ | refine CW.exit ?_ | refine CW.condT rfl ?_ | refine CW.condF rfl ?_)
                refine CW.reg ?_
                refine WL.val rfl (run_add (c := ((i + 1 : Nat) : Int)) rfl rfl (by omega) (by omega)) ?_
                refine WL.val rfl (run_move) ?_
                refine WL.nil ?_
                repeat (first | refine CW.seq ?_ | refine CW.block ?_ | refine CW.skip ?_ | refine CW.label ?_ | refine CW.exit ?_)
                refine (show _ ∧ _ from ⟨rfl, _, ?_, i + 1, row.dropLast, _, _, by omega, rfl, hgo, by omega, hnm2, hv2, hs, rfl, rfl, rfl, rfl, trivial⟩)
                omega
            · rw [if_neg h3] at hgo
              by_cases h4 : isName p = false
              · rw [if_pos h4] at hgo
                have hc := hcE 31 hgo
                repeat (first | refine CW.seq ?_ | refine CW.block ?_ | refine CW.skip ?_ | refine CW.label ?_ | refine CW.exit ?_ | refine CW.condT rfl ?_ | refine CW.condF rfl ?_)
                refine CW.reg ?_
                refine WL.val rfl (run_move) ?_
                refine WL.val rfl (run_bF (run_strEq rfl rfl) (by exact h3)) ?_
                refine WL.val rfl (run_move) ?_
                first | refine WL.no rfl rfl rfl (.inl rfl) ?_ | refine WL.no rfl rfl rfl (.inr rfl) ?_
                first | refine WL.no rfl rfl rfl (.inl rfl) ?_ | refine WL.no rfl rfl rfl (.inr rfl) ?_
                first | refine WL.no rfl rfl rfl (.inl rfl) ?_ | refine WL.no rfl rfl rfl (.inr rfl) ?_
                first | refine WL.val rfl (run_pickT rfl) ?_ | refine WL.val rfl (run_pickF rfl) ?_
                refine WL.val rfl (run_assign) ?_
                refine WL.nil ?_
                repeat (first | refine CW.seq ?_ | refine CW.block ?_ | refine CW.skip ?_ | refine CW.label ?_ | refine CW.exit ?_ | refine CW.condT rfl ?_ | refine CW.condF rfl ?_)
                refine CW.reg ?_
                refine WL.val rfl (run_move) ?_
                refine WL.val rfl (run_bF (run_strEq rfl rfl) (by exact h3)) ?_
                refine WL.val rfl (run_assign) ?_
                refine WL.nil ?_
                repeat (first | refine CW.seq ?_ | refine CW.block ?_ | refine CW.skip ?_ | refine CW.label ?_ | refine CW.exit ?_ | refine CW.condT rfl ?_ | refine CW.condF rfl ?_)
                refine CW.reg ?_
                refine WL.val rfl (run_move) ?_
                refine WL.enter rfl (run_call en51 rfl rfl) (isName_spec h4 _ (by omega)) ?_
                rintro e w ⟨rfl, hq⟩
                refine ⟨_, rfl, ?_⟩
                replace hs := hs.callE hq
                first | refine WL.val rfl (run_notB rfl) ?_ | refine WL.val rfl (run_not rfl) ?_
                refine WL.val rfl (run_assign) ?_
                refine WL.nil ?_
                repeat (first | refine CW.seq ?_ | refine CW.block ?_ | refine CW.skip ?_ | refine CW.label ?_ | refine CW.exit ?_ | refine CW.condT rfl ?_ | refine CW.condF rfl ?_)
                refine CW.reg ?_
                refine WL.val rfl (run_assign) ?_
                refine WL.val rfl (run_assign) ?_
                refine WL.nil ?_
                repeat (first | refine CW.seq ?_ | refine CW.block ?_ | refine CW.skip ?_ | refine CW.label ?_ | refine CW.exit ?_ | refine CW.condT rfl ?_ | refine CW.condF rfl ?_)
                refine CW.ret ?_
                refine fin_ret2 rfl ?_
                exact ⟨by rw [hc.1, hc.2]; kernel_rfl, Step.dropR (L1 := []) hs⟩
              · rw [if_neg h4] at hgo
                have h5 : isName p = true := by simpa using h4
                have hnm2 : Named (row ++ [p]) := fun q hq => by
                  rcases List.mem_append.1 hq with h | h
                  · exact hnm q h
                  · rw [List.mem_singleton.1 h]; exact h5
                have hla : (row ++ [p]).length = row.length + 1 := by simp
                repeat (first | refine CW.seq ?_ | refine CW.block ?_ | refine CW.skip ?_ | refine CW.label ?_ | refine CW.exit ?_ | refine CW.condT rfl ?_ | refine CW.condF rfl ?_)
                refine CW.reg ?_
                refine WL.val rfl (run_move) ?_
                refine WL.val rfl (run_bF (run_strEq rfl rfl) (by exact h3)) ?_
                refine WL.val rfl (run_move) ?_
                first | refine WL.no rfl rfl rfl (.inl rfl) ?_ | refine WL.no rfl rfl rfl (.inr rfl) ?_
                first | refine WL.no rfl rfl rfl (.inl rfl) ?_ | refine WL.no rfl rfl rfl (.inr rfl) ?_
                first | refine WL.no rfl rfl rfl (.inl rfl) ?_ | refine WL.no rfl rfl rfl (.inr rfl) ?_
                first | refine WL.val rfl (run_pickT rfl) ?_ | refine WL.val rfl (run_pickF rfl) ?_
                refine WL.val rfl (run_assign) ?_
                refine WL.nil ?_
                repeat (first | refine CW.seq ?_ | refine CW.block ?_ | refine CW.skip ?_ | refine CW.label ?_ | refine CW.exit ?_ | refine CW.condT rfl ?_ | refine CW.condF rfl ?_)
                refine CW.reg ?_
                refine WL.val rfl (run_move) ?_
                refine WL.val rfl (run_bF (run_strEq rfl rfl) (by exact h3)) ?_
                refine WL.val rfl (run_assign) ?_
                refine WL.nil ?_
                repeat (first | refine CW.seq ?_ | refine CW.block ?_ | refine CW.skip ?_ | refine CW.label ?_ | refine CW.exit ?_ | refine CW.condT rfl ?_ | refine CW.condF rfl ?_)
                refine CW.reg ?_
                refine WL.val rfl (run_move) ?_
                refine WL.enter rfl (run_call en51 rfl rfl) (isName_spec h5 _ (by omega)) ?_
                rintro e w ⟨rfl, hq⟩
                refine ⟨_, rfl, ?_⟩
                replace hs := hs.callE hq
                first | refine WL.val rfl (run_notB rfl) ?_ | refine WL.val rfl (run_not rfl) ?_
                refine WL.val rfl (run_assign) ?_
                refine WL.nil ?_
                have hfin : ∀ v L, OwnSl 9 1 v (row.length + 1) (strs row ++ [str p]) L → OwnSl 9 1 v (row ++ [p]).length (strs (row ++ [p])) L := fun v L h => by rw [hla, strs_append]; exact h
                repeat (first | refine CW.seq ?_ | refine CW.block ?_ | refine CW.skip ?_ | refine CW.label ?_ | refine CW.exit ?_ | refine CW.condT rfl ?_ | refine CW.condF rfl ?_)
                refine CW.reg ?_
                refine WL.val rfl (run_move) ?_
                refine WL.val rfl (run_move) ?_
                refine WL.buildSlice (cs := [str p]) Tryd.underlying51 ty9 rfl (by decide) rfl (by rfl) rfl hs (fun b19 w hs => ?_)
                refine WL.append Tryd.underlying51 Tryd.underlying51 ty9 rfl (by decide) rfl rfl (hv) (Step.perm hs List.perm_middle.symm) (Sl.mk (cs := [str p]) rfl (At.of_blk hs.hd)) (Cells1.of_all rfl) (by first | omega | (simp only [List.length_append, List.length_cons, List.length_nil]; omega)) rfl (fun v20 Lv20 w hv20 hs => ?_)
                refine WL.val rfl (run_assign) ?_
                refine WL.nil ?_
                repeat (first | refine CW.seq ?_ | refine CW.block ?_ | refine CW.skip ?_ | refine CW.label ?_ | refine CW.exit ?_ | refine CW.condT rfl ?_ | refine CW.condF rfl ?_)
                refine CW.reg ?_
                refine WL.val rfl (run_add (c := ((i + 1 : Nat) : Int)) rfl rfl (by omega) (by omega)) ?_
                refine WL.val rfl (run_move) ?_
                refine WL.nil ?_
                repeat (first | refine CW.seq ?_ | refine CW.block ?_ | refine CW.skip ?_ | refine CW.label ?_ | refine CW.exit ?_)
                refine (show _ ∧ _ from ⟨rfl, _, ?_, i + 1, row ++ [p], _, _, by omega, rfl, hgo, by omega, hnm2, hfin _ _ hv20, Step.dropX hs, rfl, rfl, rfl, rfl, trivial⟩)
                omega
      · have hii : i = ps.length := by omega
        rw [hii, List.drop_length, cleanGo] at hgo
        by_cases hb : 32 < row.length
        · have hc := hcO row hgo hb
          repeat (first | refine CW.seq ?_ | refine CW.block ?_ | refine CW.skip ?_ | refine CW.label ?_ | refine CW.exit ?_ | refine CW.condT rfl ?_ | refine CW.condF rfl ?_)
          refine CW.reg ?_
          refine WL.val rfl (run_bF (run_lss rfl rfl) (by omega)) ?_
          refine WL.nil ?_
          repeat (first | refine CW.seq ?_ | refine CW.block ?_ | refine CW.skip ?_ | refine CW.label ?_ | refine CW.exit ?_ | refine CW.condT rfl ?_ | refine CW.condF rfl ?_)
          refine CW.reg ?_
          refine WL.val rfl (run_move) ?_
          refine WL.val rfl (run_lenSl Tryd.underlying51 rfl) ?_
          refine WL.val rfl (run_bT (run_gtr rfl rfl) (by omega)) ?_
          refine WL.nil ?_
          repeat (first | refine CW.seq ?_ | refine CW.block ?_ | refine CW.skip ?_ | refine CW.label ?_ | refine CW.exit ?_ | refine CW.condT rfl ?_ | refine CW.condF rfl ?_)
          refine CW.reg ?_
          refine WL.val rfl (run_assign) ?_
          refine WL.val rfl (run_assign) ?_
          refine WL.nil ?_
          repeat (first | refine CW.seq ?_ | refine CW.block ?_ | refine CW.skip ?_ | refine CW.label ?_ | refine CW.exit ?_ | refine CW.condT rfl ?_ | refine CW.condF rfl ?_)
          refine CW.ret ?_
          refine fin_ret2 rfl ?_
          exact ⟨by rw [hc.1, hc.2]; kernel_rfl, Step.dropR (L1 := []) hs⟩
        · have hc := hcK row hgo hb
          have hjl := join_len row
          have hnj := named_join hnm
          repeat (first | refine CW.seq ?_ | refine CW.block ?_ | refine CW.skip ?_ | refine CW.label ?_ | refine CW.exit ?_ | refine CW.condT rfl ?_ | refine CW.condF rfl ?_)
          refine CW.reg ?_
          refine WL.val rfl (run_bF (run_lss rfl rfl) (by omega)) ?_
          refine WL.nil ?_
          repeat (first | refine CW.seq ?_ | refine CW.block ?_ | refine CW.skip ?_ | refine CW.label ?_ | refine CW.exit ?_ | refine CW.condT rfl ?_ | refine CW.condF rfl ?_)
          refine CW.reg ?_
          refine WL.val rfl (run_move) ?_
          refine WL.val rfl (run_lenSl Tryd.underlying51 rfl) ?_
          refine WL.val rfl (run_bF (run_gtr rfl rfl) (by omega)) ?_
          refine WL.nil ?_
          repeat (first | refine CW.seq ?_ | refine CW.block ?_ | refine CW.skip ?_ | refine CW.label ?_ | refine CW.exit ?_ | refine CW.condT rfl ?_ | refine CW.condF rfl ?_)
          refine CW.reg ?_
          refine WL.val rfl (run_move) ?_
          refine WL.enter rfl (run_call en52 rfl rfl) (join_spec _ hv (Step.start hs.dropR.nodup hs.dropR.has) (by omega) (by omega)) ?_
          rintro e w ⟨rfl, hq⟩
          refine ⟨_, rfl, ?_⟩
          refine WL.val rfl (run_assign) ?_
          refine WL.val rfl (run_assign) ?_
          refine WL.nil ?_
          repeat (first | refine CW.seq ?_ | refine CW.block ?_ | refine CW.skip ?_ | refine CW.label ?_ | refine CW.exit ?_ | refine CW.condT rfl ?_ | refine CW.condF rfl ?_)
          refine CW.ret ?_
          refine fin_ret2 rfl ?_
          exact ⟨by rw [hc.1, hc.2]; kernel_rfl, Step.dropR (L1 := []) (hs.callE hq)⟩
end Go.Gx
