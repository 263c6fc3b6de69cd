/- The program's pieces of a text: its runes' bytes. -/
import Derived.Test.YtnoamfcnamlbhaaDoorGoes
namespace Go.Gx
open Go.Proofs Go.RowKit
set_option linter.unusedVariables false
set_option linter.unusedSimpArgs false
set_option maxRecDepth 100000

theorem piecesL_len : ∀ (n : Nat) (s : List UInt8), s.length ≤ n → (piecesL s).length ≤ s.length
  | n, s, hn => by
    by_cases h : s = []
    · rw [h, piecesL_nil]; exact Nat.le_refl _
    · have h1 := widthL_pos s
      have h2 := List.length_pos_iff.2 h
      rw [piecesL_some h, List.length_cons]
      have ih := piecesL_len (n - 1) (s.drop (widthL s)) (by rw [List.length_drop]; omega)
      rw [List.length_drop] at ih
      omega
  termination_by n s => s.length
  decreasing_by
    simp only [List.length_drop]
    omega

set_option maxHeartbeats 2000000 in
theorem pieces_spec {s : List UInt8} (w0 : World) (hs1 : s.length < 4294967281) : Calls Tryd.prog 55 #[str s] w0 fun e w' => ∃ u Lu, e = .returned u ∧ OwnSl 9 1 u (piecesL s).length (strs (piecesL s)) Lu ∧ Step [] Lu w0 w' := by
  have hs : Step [] [] w0 w0 := Step.refl w0
  refine calls (n := 33) Tryd.func55 rfl rfl rfl ?_
  repeat (first | refine CW.seq ?_ | refine CW.block ?_ | refine CW.skip ?_ | refine CW.label ?_ | refine CW.exit ?_ | refine CW.condT rfl ?_ | refine CW.condF rfl ?_)
  refine CW.reg ?_
  refine WL.val rfl (run_assign) ?_
  refine WL.nil ?_
  repeat (first | refine CW.seq ?_ | refine CW.block ?_ | refine CW.skip ?_ | refine CW.label ?_ | refine CW.exit ?_ | refine CW.condT rfl ?_ | refine CW.condF rfl ?_)
  refine CW.reg ?_
  refine WL.val rfl (run_assign) ?_
  refine WL.nil ?_
  repeat (first | refine CW.seq ?_ | refine CW.block ?_ | refine CW.skip ?_ | refine CW.label ?_ | refine CW.exit ?_ | refine CW.condT rfl ?_ | refine CW.condF rfl ?_)
  refine CW.reg ?_
  refine WL.val rfl (run_assign) ?_
  refine WL.nil ?_
  repeat (first | refine CW.seq ?_ | refine CW.block ?_ | refine CW.skip ?_ | refine CW.label ?_ | refine CW.exit ?_ | refine CW.condT rfl ?_ | refine CW.condF rfl ?_)
  refine CW.reg ?_
  refine WL.val rfl (run_move) ?_
  refine WL.rangeS Tryd.underlying9 rfl rfl hs (fun b8 w hs => ?_)
  refine WL.nil ?_
  repeat (first | refine CW.seq ?_ | refine CW.block ?_ | refine CW.skip ?_ | refine CW.label ?_ | refine CW.exit ?_ | refine CW.condT rfl ?_ | refine CW.condF rfl ?_)
  refine CW.loop (fun m f w' => ∃ p la Q u Lu, p ≤ s.length ∧ m = s.length - p ∧ Q.length ≤ p ∧ (p = 0 → la = 0 ∧ Q = []) ∧ (0 < p → la < p ∧ p = la + widthL (s.drop la) ∧ piecesL s = Q ++ piecesL (s.drop la)) ∧ OwnSl 9 1 u Q.length (strs Q) Lu ∧ Step [] ((b8, .stringIter ⟨⟨s⟩⟩ p) :: Lu) w0 w' ∧ Holds f [(0, str s), (3, u), (4, .int .i64 la), (8, .pointer (some ⟨b8, 0, none⟩))]) (m := s.length) ?_ ?_
  · exact ⟨0, 0, [], _, [], by omega, by omega, by simp, fun _ => ⟨rfl, rfl⟩, fun h => by omega, .nil _ _, hs, rfl, rfl, rfl, rfl, trivial⟩
  · clear hs
    rintro m f w ⟨p, la, Q, u, Lu, hp, rfl, hQ, hz, hnz, hu, hs, hf⟩
    have hobt := hf.chain
    obtain ⟨g, rfl⟩ := hobt
    by_cases hlt : p < s.length
    · have hwd := dec_width hlt
      have hw1 := widthL_pos (s.drop p)
      have hw2 := widthL_le (s := s.drop p) (fun e => by have := congrArg List.length e; rw [List.length_drop, List.length_nil] at this; omega)
      rw [List.length_drop] at hw2
      have hobt : ∃ c wd, Utf8.decode ⟨⟨s⟩⟩ p = (c, wd) := ⟨_, _, rfl⟩
      obtain ⟨c, wd, hd⟩ := hobt
      rw [hd] at hwd
      replace hwd : wd = widthL (s.drop p) := hwd
      subst hwd
      by_cases hp0 : p = 0
      · have hobt := hz hp0
        obtain ⟨hla, hQ0⟩ := hobt
        repeat (first | refine CW.seq ?_ | refine CW.block ?_ | refine CW.skip ?_ | refine CW.label ?_ | refine CW.exit ?_ | refine CW.condT rfl ?_ | refine CW.condF rfl ?_)
        refine CW.reg ?_
        refine WL.nextS rfl rfl hs (by omega) (hd) (fun w hs => ?_)
        refine WL.val rfl (run_extract rfl rfl) ?_
        refine WL.nil ?_
        repeat (first | refine CW.seq ?_ | refine CW.block ?_ | refine CW.skip ?_ | refine CW.label ?_ | refine CW.exit ?_ | refine CW.condT rfl ?_ | refine CW.condF rfl ?_)
        refine CW.reg ?_
        refine WL.val rfl (run_extract rfl rfl) ?_
        refine WL.val rfl (run_extract rfl rfl) ?_
        refine WL.val rfl (run_assign) ?_
        refine WL.val rfl (run_assign) ?_
        refine WL.nil ?_
        repeat (first | refine CW.seq ?_ | refine CW.block ?_ | refine CW.skip ?_ | refine CW.label ?_ | refine CW.exit ?_ | refine CW.condT rfl ?_ | refine CW.condF rfl ?_)
        refine CW.reg ?_
        refine WL.val rfl (run_move) ?_
        refine WL.val rfl (run_bF (run_gtr rfl rfl) (by omega)) ?_
        refine WL.nil ?_
        repeat (first | refine CW.seq ?_ | refine CW.block ?_ | refine CW.skip ?_ | refine CW.label ?_ | refine CW.exit ?_ | refine CW.condT rfl ?_ | refine CW.condF rfl ?_)
        refine CW.reg ?_
        refine WL.val rfl (run_move) ?_
        refine WL.val rfl (run_assign) ?_
        refine WL.nil ?_
        repeat (first | refine CW.seq ?_ | refine CW.block ?_ | refine CW.skip ?_ | refine CW.label ?_ | refine CW.exit ?_ | refine CW.condT rfl ?_ | refine CW.condF rfl ?_)
        refine CW.reg ?_
        refine WL.val rfl (run_move) ?_
        refine WL.nil ?_
        repeat (first | refine CW.seq ?_ | refine CW.block ?_ | refine CW.skip ?_ | refine CW.label ?_ | refine CW.exit ?_)
        refine (show _ ∧ _ from ⟨rfl, _, ?_, p + widthL (s.drop p), p, Q, u, Lu, by omega, rfl, by omega, fun h => by omega, fun _ => ⟨by omega, rfl, by rw [hQ0, hp0]; rfl⟩, hu, hs, rfl, rfl, rfl, rfl, trivial⟩)
        omega
      · have hobt := hnz (by omega)
        obtain ⟨hla, hpe, hcut⟩ := hobt
        have hne : s.drop la ≠ [] := fun e => by have := congrArg List.length e; rw [List.length_drop, List.length_nil] at this; omega
        have hstep : piecesL s = Q ++ [(s.take p).drop la] ++ piecesL (s.drop p) := by
          rw [hcut, piecesL_some hne, List.drop_drop, ← hpe, List.append_assoc, List.drop_take, show p - la = widthL (s.drop la) by omega]
          rfl
        repeat (first | refine CW.seq ?_ | refine CW.block ?_ | refine CW.skip ?_ | refine CW.label ?_ | refine CW.exit ?_ | refine CW.condT rfl ?_ | refine CW.condF rfl ?_)
        refine CW.reg ?_
        refine WL.nextS rfl rfl hs (by omega) (hd) (fun w hs => ?_)
        refine WL.val rfl (run_extract rfl rfl) ?_
        refine WL.nil ?_
        repeat (first | refine CW.seq ?_ | refine CW.block ?_ | refine CW.skip ?_ | refine CW.label ?_ | refine CW.exit ?_ | refine CW.condT rfl ?_ | refine CW.condF rfl ?_)
        refine CW.reg ?_
        refine WL.val rfl (run_extract rfl rfl) ?_
        refine WL.val rfl (run_extract rfl rfl) ?_
        refine WL.val rfl (run_assign) ?_
        refine WL.val rfl (run_assign) ?_
        refine WL.nil ?_
        repeat (first | refine CW.seq ?_ | refine CW.block ?_ | refine CW.skip ?_ | refine CW.label ?_ | refine CW.exit ?_ | refine CW.condT rfl ?_ | refine CW.condF rfl ?_)
        refine CW.reg ?_
        refine WL.val rfl (run_move) ?_
        refine WL.val rfl (run_bT (run_gtr rfl rfl) (by omega)) ?_
        refine WL.nil ?_
        repeat (first | refine CW.seq ?_ | refine CW.block ?_ | refine CW.skip ?_ | refine CW.label ?_ | refine CW.exit ?_ | refine CW.condT rfl ?_ | refine CW.condF rfl ?_)
        refine CW.reg ?_
        refine WL.val rfl (run_move) ?_
        refine WL.val rfl (run_move) ?_
        refine WL.val rfl (run_move) ?_
        refine WL.val rfl (run_move) ?_
        refine WL.val rfl (run_sliceStr Tryd.underlying9 rfl rfl rfl (by omega) (by omega)) ?_
        refine WL.buildSlice (cs := [str ((s.take p).drop la)]) Tryd.underlying34 ty9 rfl (by decide) rfl (filled_s _ _ rfl) rfl hs (fun b20 w hs => ?_)
        have hsl : Sl w 1 (.slice (some ⟨b20, 0, none⟩) 1 1) 1 [str ((s.take p).drop la)] := .own1 hs rfl
        refine WL.append Tryd.underlying34 Tryd.underlying34 ty9 rfl (by decide) rfl rfl (hu) ((hs.perm (show List.Perm _ (Lu ++ [(b20, blk 9 [str ((s.take p).drop la)]), (b8, .stringIter ⟨⟨s⟩⟩ (p + widthL (s.drop p)))]) from List.perm_append_comm (l₁ := [_, _])))) (hsl) ((fun v hv => by rw [List.mem_singleton.1 hv]; rfl)) (by first | omega | (simp only [List.length_append, List.length_cons, List.length_nil]; omega)) rfl (fun v21 Lv21 w hv21 hs => ?_)
        refine WL.val rfl (run_assign) ?_
        refine WL.nil ?_
        have eP : strs Q ++ [str ((s.take p).drop la)] = strs (Q ++ [(s.take p).drop la]) := by simp [strs]
        rw [eP] at hv21
        replace hs := Step.dropX hs
        replace hs := hs.append_comm
        repeat (first | refine CW.seq ?_ | refine CW.block ?_ | refine CW.skip ?_ | refine CW.label ?_ | refine CW.exit ?_ | refine CW.condT rfl ?_ | refine CW.condF rfl ?_)
        refine CW.reg ?_
        refine WL.val rfl (run_move) ?_
        refine WL.val rfl (run_assign) ?_
        refine WL.nil ?_
        repeat (first | refine CW.seq ?_ | refine CW.block ?_ | refine CW.skip ?_ | refine CW.label ?_ | refine CW.exit ?_ | refine CW.condT rfl ?_ | refine CW.condF rfl ?_)
        refine CW.reg ?_
        refine WL.val rfl (run_move) ?_
        refine WL.nil ?_
        repeat (first | refine CW.seq ?_ | refine CW.block ?_ | refine CW.skip ?_ | refine CW.label ?_ | refine CW.exit ?_)
        refine (show _ ∧ _ from ⟨rfl, _, ?_, p + widthL (s.drop p), p, Q ++ [(s.take p).drop la], _, _, by omega, rfl, by rw [List.length_append]; simp; omega, fun h => by omega, fun _ => ⟨by omega, rfl, hstep⟩, ?_, hs, rfl, rfl, rfl, rfl, trivial⟩)
        · omega
        · rw [List.length_append]
          exact hv21
    · obtain rfl : p = s.length := by omega
      by_cases h0 : s = []
      · have hobt := hz (by rw [h0]; rfl)
        obtain ⟨hla, hQ0⟩ := hobt
        have e : piecesL s = [] := by rw [h0, piecesL_nil]
        rw [e]
        subst hQ0
        repeat (first | refine CW.seq ?_ | refine CW.block ?_ | refine CW.skip ?_ | refine CW.label ?_ | refine CW.exit ?_ | refine CW.condT rfl ?_ | refine CW.condF rfl ?_)
        refine CW.reg ?_
        refine WL.nextEnd rfl rfl hs (by omega) ?_
        refine WL.val rfl (run_extract rfl rfl) ?_
        refine WL.nil ?_
        repeat (first | refine CW.seq ?_ | refine CW.block ?_ | refine CW.skip ?_ | refine CW.label ?_ | refine CW.exit ?_ | refine CW.condT rfl ?_ | refine CW.condF rfl ?_)
        refine CW.reg ?_
        refine WL.val rfl (run_move) ?_
        refine WL.val rfl (run_bF (run_strNe rfl rfl) (by (exact fun h => h h0))) ?_
        refine WL.nil ?_
        repeat (first | refine CW.seq ?_ | refine CW.block ?_ | refine CW.skip ?_ | refine CW.label ?_ | refine CW.exit ?_ | refine CW.condT rfl ?_ | refine CW.condF rfl ?_)
        refine CW.reg ?_
        refine WL.val rfl (run_move) ?_
        refine WL.val rfl (run_assign) ?_
        refine WL.nil ?_
        repeat (first | refine CW.seq ?_ | refine CW.block ?_ | refine CW.skip ?_ | refine CW.label ?_ | refine CW.exit ?_ | refine CW.condT rfl ?_ | refine CW.condF rfl ?_)
        refine CW.ret ?_
        refine fin_ret1 rfl ?_
        exact ⟨u, Lu, rfl, hu, hs.tail⟩
      · have hobt := hnz (List.length_pos_iff.2 h0)
        obtain ⟨hla, hpe, hcut⟩ := hobt
        have hne : s.drop la ≠ [] := fun e => by have := congrArg List.length e; rw [List.length_drop, List.length_nil] at this; omega
        have hstep : piecesL s = Q ++ [(s.take s.length).drop la] := by
          rw [hcut, piecesL_some hne, List.drop_drop, ← hpe, List.take_length, List.drop_length, piecesL_nil, List.take_of_length_le (by rw [List.length_drop]; omega)]
        repeat (first | refine CW.seq ?_ | refine CW.block ?_ | refine CW.skip ?_ | refine CW.label ?_ | refine CW.exit ?_ | refine CW.condT rfl ?_ | refine CW.condF rfl ?_)
        refine CW.reg ?_
        refine WL.nextEnd rfl rfl hs (by omega) ?_
        refine WL.val rfl (run_extract rfl rfl) ?_
        refine WL.nil ?_
        repeat (first | refine CW.seq ?_ | refine CW.block ?_ | refine CW.skip ?_ | refine CW.label ?_ | refine CW.exit ?_ | refine CW.condT rfl ?_ | refine CW.condF rfl ?_)
        refine CW.reg ?_
        refine WL.val rfl (run_move) ?_
        refine WL.val rfl (run_bT (run_strNe rfl rfl) (by exact h0)) ?_
        refine WL.nil ?_
        repeat (first | refine CW.seq ?_ | refine CW.block ?_ | refine CW.skip ?_ | refine CW.label ?_ | refine CW.exit ?_ | refine CW.condT rfl ?_ | refine CW.condF rfl ?_)
        refine CW.reg ?_
        refine WL.val rfl (run_move) ?_
        refine WL.val rfl (run_move) ?_
        refine WL.val rfl (run_move) ?_
        refine WL.val rfl (run_sliceStr Tryd.underlying9 rfl rfl rfl (by omega) (by omega)) ?_
        refine WL.buildSlice (cs := [str ((s.take s.length).drop la)]) Tryd.underlying34 ty9 rfl (by decide) rfl (filled_s _ _ rfl) rfl hs (fun b30 w hs => ?_)
        have hsl : Sl w 1 (.slice (some ⟨b30, 0, none⟩) 1 1) 1 [str ((s.take s.length).drop la)] := .own1 hs rfl
        refine WL.append Tryd.underlying34 Tryd.underlying34 ty9 rfl (by decide) rfl rfl (hu) ((hs.perm (show List.Perm _ (Lu ++ [(b30, blk 9 [str ((s.take s.length).drop la)]), (b8, .stringIter ⟨⟨s⟩⟩ s.length)]) from List.perm_append_comm (l₁ := [_, _])))) (hsl) ((fun v hv => by rw [List.mem_singleton.1 hv]; rfl)) (by first | omega | (simp only [List.length_append, List.length_cons, List.length_nil]; omega)) rfl (fun v31 Lv31 w hv31 hs => ?_)
        refine WL.val rfl (run_assign) ?_
        refine WL.nil ?_
        have eP : strs Q ++ [str ((s.take s.length).drop la)] = strs (Q ++ [(s.take s.length).drop la]) := by simp [strs]
        rw [eP, ← hstep] at hv31
        repeat (first | refine CW.seq ?_ | refine CW.block ?_ | refine CW.skip ?_ | refine CW.label ?_ | refine CW.exit ?_ | refine CW.condT rfl ?_ | refine CW.condF rfl ?_)
        refine CW.reg ?_
        refine WL.val rfl (run_move) ?_
        refine WL.val rfl (run_assign) ?_
        refine WL.nil ?_
        repeat (first | refine CW.seq ?_ | refine CW.block ?_ | refine CW.skip ?_ | refine CW.label ?_ | refine CW.exit ?_ | refine CW.condT rfl ?_ | refine CW.condF rfl ?_)
        refine CW.ret ?_
        refine fin_ret1 rfl ?_
        refine ⟨_, _, rfl, ?_, hs.dropR⟩
        rw [hstep, List.length_append]
        rw [hstep] at hv31
        exact hv31
end Go.Gx
