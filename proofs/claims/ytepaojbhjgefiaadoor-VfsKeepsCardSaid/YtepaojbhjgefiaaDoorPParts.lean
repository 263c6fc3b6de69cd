/- The parts of a text: the program's and the document's. -/
import Derived.Test.YtepaojbhjgefiaaDoorPSplit
import Derived.Test.YtepaojbhjgefiaaDoorPrimB
namespace Go.Gx
open Go.Proofs
set_option linter.unusedVariables false
set_option linter.unusedSimpArgs false
set_option maxRecDepth 100000

/-- The library's one int variable that a road reads holds an int. -/
def Gl (w : World) : Prop := ∃ m : Int, w.cell? ⟨0, 0, none⟩ = some (.int .i64 m)
theorem Gl.step {L : List (Nat × Obj)} {w w' : World} (h : Gl w) (hs : Step [] L w w') : Gl w' := by
  obtain ⟨m, hm⟩ := h
  refine ⟨m, ?_⟩
  have hlt : 0 < w.heap.size := by
    unfold World.cell? at hm
    split at hm
    · rename_i hb; exact lt_of_get hb
    · cases hm
  rw [cell_of_heap (hs.chg.block 0 hlt (by simp))]
  exact hm

theorem split_spec {s : List UInt8} (w0 : World) (hg : Gl w0) (hs1 : s.length < 4294967281) : Calls Tryd.prog 62 #[str s, str [47]] w0 fun e w' => ∃ u Lu, e = .returned u ∧ OwnSl 9 1 u (splitL s).length (strs (splitL s)) Lu ∧ Step [] Lu w0 w' := by
  obtain ⟨m, hm⟩ := hg
  have h := Tryd.strings_Split ⟨⟨s⟩⟩ slashB m w0 hs1 hm (Nat.le_refl 1)
  have hobt := split_eq s.length s (Nat.le_refl _)
  obtain ⟨e1, e2⟩ := hobt
  rw [e1, e2] at h
  refine h.mono fun e w' ⟨h1, h2⟩ => ?_
  have hst := (Step.refl w0).alloc (blk 9 (strs (splitL s)))
  have he : (List.map (fun l => ByteArray.mk ⟨l⟩) (splitL s)).map Value.string = strs (splitL s) := by simp [strs, str]
  rw [he] at h2
  subst h2
  exact ⟨_, _, h1, OwnSl.mk (by rw [strs_len, Nat.mul_one]), hst⟩

theorem parts_spec {s : List UInt8} (w0 : World) (hg : Gl w0) (hs1 : s.length < 4294967281) : Calls Tryd.prog 50 #[str s] w0 fun e w' => ∃ u Lu, e = .returned u ∧ OwnSl 9 1 u (partsL s).length (strs (partsL s)) Lu ∧ Step [] Lu w0 w' := by
  have hs : Step [] [] w0 w0 := Step.refl w0
  by_cases h0 : s = []
  · have e : partsL s = [] := if_pos h0
    rw [e]
    refine calls (n := 7) Tryd.func50 rfl rfl rfl ?_
    repeat (first | refine CW.seq ?_ | refine CW.block ?_ | refine CW.skip ?_ | refine CW.label ?_ | refine CW.exit ?_ | refine CW.condT rfl ?_ | refine CW.condF rfl ?_)
    refine CW.reg ?_
    refine WL.val rfl (run_assign) ?_
    refine WL.nil ?_
    repeat (first | refine CW.seq ?_ | refine CW.block ?_ | refine CW.skip ?_ | refine CW.label ?_ | refine CW.exit ?_ | refine CW.condT rfl ?_ | refine CW.condF rfl ?_)
    refine CW.reg ?_
    refine WL.val rfl (run_move) ?_
    refine WL.val rfl (run_bT (run_strEq rfl rfl) (by exact h0)) ?_
    refine WL.nil ?_
    repeat (first | refine CW.seq ?_ | refine CW.block ?_ | refine CW.skip ?_ | refine CW.label ?_ | refine CW.exit ?_ | refine CW.condT rfl ?_ | refine CW.condF rfl ?_)
    refine CW.reg ?_
    refine WL.val rfl (run_assign) ?_
    refine WL.nil ?_
    repeat (first | refine CW.seq ?_ | refine CW.block ?_ | refine CW.skip ?_ | refine CW.label ?_ | refine CW.exit ?_ | refine CW.condT rfl ?_ | refine CW.condF rfl ?_)
    refine CW.ret ?_
    refine fin_ret1 rfl ?_
    exact ⟨_, _, rfl, .nil _ _, hs⟩
  · have e : partsL s = splitL s := if_neg h0
    rw [e]
    refine calls (n := 7) Tryd.func50 rfl rfl rfl ?_
    repeat (first | refine CW.seq ?_ | refine CW.block ?_ | refine CW.skip ?_ | refine CW.label ?_ | refine CW.exit ?_ | refine CW.condT rfl ?_ | refine CW.condF rfl ?_)
    refine CW.reg ?_
    refine WL.val rfl (run_assign) ?_
    refine WL.nil ?_
    repeat (first | refine CW.seq ?_ | refine CW.block ?_ | refine CW.skip ?_ | refine CW.label ?_ | refine CW.exit ?_ | refine CW.condT rfl ?_ | refine CW.condF rfl ?_)
    refine CW.reg ?_
    refine WL.val rfl (run_move) ?_
    refine WL.val rfl (run_bF (run_strEq rfl rfl) (by exact h0)) ?_
    refine WL.nil ?_
    repeat (first | refine CW.seq ?_ | refine CW.block ?_ | refine CW.skip ?_ | refine CW.label ?_ | refine CW.exit ?_ | refine CW.condT rfl ?_ | refine CW.condF rfl ?_)
    refine CW.reg ?_
    refine WL.val rfl (run_move) ?_
    refine WL.enter rfl (run_call en62 rfl rfl) (split_spec _ hg hs1) ?_
    rintro e w ⟨u, Lu, rfl, hu, hq⟩
    refine ⟨_, rfl, ?_⟩
    refine WL.val rfl (run_assign) ?_
    refine WL.nil ?_
    repeat (first | refine CW.seq ?_ | refine CW.block ?_ | refine CW.skip ?_ | refine CW.label ?_ | refine CW.exit ?_ | refine CW.condT rfl ?_ | refine CW.condF rfl ?_)
    refine CW.ret ?_
    refine fin_ret1 rfl ?_
    exact ⟨u, Lu, rfl, hu, hq⟩

theorem refParts_spec {s : List UInt8} (w0 : World) (hs1 : s.length < 4294967281) : Calls Tryd.prog 58 #[str s] w0 fun e w' => ∃ u Lu, e = .returned u ∧ OwnSl 9 1 u (partsL s).length (strs (partsL s)) Lu ∧ Step [] Lu w0 w' := by
  have hs : Step [] [] w0 w0 := Step.refl w0
  by_cases h0 : s = []
  · have e : partsL s = [] := if_pos h0
    rw [e]
    refine calls (n := 34) Tryd.func58 rfl rfl rfl ?_
    repeat (first | refine CW.seq ?_ | refine CW.block ?_ | refine CW.skip ?_ | refine CW.label ?_ | refine CW.exit ?_ | refine CW.condT rfl ?_ | refine CW.condF rfl ?_)
    refine CW.reg ?_
    refine WL.val rfl (run_assign) ?_
    refine WL.nil ?_
    repeat (first | refine CW.seq ?_ | refine CW.block ?_ | refine CW.skip ?_ | refine CW.label ?_ | refine CW.exit ?_ | refine CW.condT rfl ?_ | refine CW.condF rfl ?_)
    refine CW.reg ?_
    refine WL.val rfl (run_move) ?_
    refine WL.val rfl (run_bT (run_strEq rfl rfl) (by exact h0)) ?_
    refine WL.nil ?_
    repeat (first | refine CW.seq ?_ | refine CW.block ?_ | refine CW.skip ?_ | refine CW.label ?_ | refine CW.exit ?_ | refine CW.condT rfl ?_ | refine CW.condF rfl ?_)
    refine CW.reg ?_
    refine WL.val rfl (run_assign) ?_
    refine WL.nil ?_
    repeat (first | refine CW.seq ?_ | refine CW.block ?_ | refine CW.skip ?_ | refine CW.label ?_ | refine CW.exit ?_ | refine CW.condT rfl ?_ | refine CW.condF rfl ?_)
    refine CW.ret ?_
    refine fin_ret1 rfl ?_
    exact ⟨_, _, rfl, .nil _ _, hs⟩
  · have e : partsL s = splitL s := if_neg h0
    rw [e]
    refine calls (n := 34) Tryd.func58 rfl rfl rfl ?_
    repeat (first | refine CW.seq ?_ | refine CW.block ?_ | refine CW.skip ?_ | refine CW.label ?_ | refine CW.exit ?_ | refine CW.condT rfl ?_ | refine CW.condF rfl ?_)
    refine CW.reg ?_
    refine WL.val rfl (run_assign) ?_
    refine WL.nil ?_
    repeat (first | refine CW.seq ?_ | refine CW.block ?_ | refine CW.skip ?_ | refine CW.label ?_ | refine CW.exit ?_ | refine CW.condT rfl ?_ | refine CW.condF rfl ?_)
    refine CW.reg ?_
    refine WL.val rfl (run_move) ?_
    refine WL.val rfl (run_bF (run_strEq rfl rfl) (by exact h0)) ?_
    refine WL.nil ?_
    repeat (first | refine CW.seq ?_ | refine CW.block ?_ | refine CW.skip ?_ | refine CW.label ?_ | refine CW.exit ?_ | refine CW.condT rfl ?_ | refine CW.condF rfl ?_)
    refine CW.reg ?_
    refine WL.val rfl (run_assign) ?_
    refine WL.nil ?_
    repeat (first | refine CW.seq ?_ | refine CW.block ?_ | refine CW.skip ?_ | refine CW.label ?_ | refine CW.exit ?_ | refine CW.condT rfl ?_ | refine CW.condF rfl ?_)
    refine CW.reg ?_
    refine WL.val rfl (run_assign) ?_
    refine WL.nil ?_
    repeat (first | refine CW.seq ?_ | refine CW.block ?_ | refine CW.skip ?_ | refine CW.label ?_ | refine CW.exit ?_ | refine CW.condT rfl ?_ | refine CW.condF rfl ?_)
    refine CW.reg ?_
    refine WL.val rfl (run_assign) ?_
    refine WL.nil ?_
    repeat (first | refine CW.seq ?_ | refine CW.block ?_ | refine CW.skip ?_ | refine CW.label ?_ | refine CW.exit ?_ | refine CW.condT rfl ?_ | refine CW.condF rfl ?_)
    refine CW.loop (fun m f w' => ∃ i fr P u Lu, i ≤ s.length + 1 ∧ m = s.length + 1 - i ∧ P.length ≤ i ∧ (i ≤ s.length → fr ≤ i ∧ splitL s = P ++ splitL (s.drop fr) ∧ 47 ∉ (s.drop fr).take (i - fr)) ∧ (i = s.length + 1 → splitL s = P) ∧ OwnSl 9 1 u P.length (strs P) Lu ∧ Step [] Lu w0 w' ∧ Holds f [(0, str s), (3, u), (4, .int .i64 fr), (5, .int .i64 i)]) (m := s.length + 1) ?_ ?_
    · exact ⟨0, 0, [], _, [], by omega, by omega, by simp, fun _ => ⟨by omega, rfl, by simp⟩, fun h => by omega, .nil _ _, hs, rfl, rfl, rfl, rfl, trivial⟩
    · clear hs
      rintro m f w ⟨i, fr, P, u, Lu, hi, rfl, hPl, hin, hout, hu, hs, hf⟩
      have hobt := hf.chain
      obtain ⟨g, rfl⟩ := hobt
      by_cases hle : i ≤ s.length
      · have hobt := hin hle
        obtain ⟨hfr, hsp, hno⟩ := hobt
        have hdt : (s.drop fr).take (i - fr) = (s.take i).drop fr := by rw [List.drop_take]
        by_cases hend : i = s.length
        · have hlast : splitL s = P ++ [(s.take i).drop fr] := by
            rw [hsp, splitL_none (by rw [hdt, hend, List.take_length] at hno; exact hno), hend, List.take_length]
          repeat (first | refine CW.seq ?_ | refine CW.block ?_ | refine CW.skip ?_ | refine CW.label ?_ | refine CW.exit ?_ | refine CW.condT rfl ?_ | refine CW.condF rfl ?_)
          refine CW.reg ?_
          refine WL.val rfl (run_move) ?_
          refine WL.val rfl (run_move) ?_
          refine WL.val rfl (run_lenStr Tryd.underlying9 rfl) ?_
          refine WL.val rfl (run_bT (run_leq rfl rfl) (by omega)) ?_
          refine WL.nil ?_
          repeat (first | refine CW.seq ?_ | refine CW.block ?_ | refine CW.skip ?_ | refine CW.label ?_ | refine CW.exit ?_ | refine CW.condT rfl ?_ | refine CW.condF rfl ?_)
          refine CW.reg ?_
          refine WL.val rfl (run_move) ?_
          refine WL.val rfl (run_move) ?_
          refine WL.val rfl (run_lenStr Tryd.underlying9 rfl) ?_
          refine WL.val rfl (run_bT (run_eql rfl rfl) (by omega)) ?_
          refine WL.val rfl (run_move) ?_
          first | refine WL.no rfl rfl rfl (.inl rfl) ?_ | refine WL.no rfl rfl rfl (.inr rfl) ?_
          first | refine WL.no rfl rfl rfl (.inl rfl) ?_ | refine WL.no rfl rfl rfl (.inr rfl) ?_
          first | refine WL.no rfl rfl rfl (.inl rfl) ?_ | refine WL.no rfl rfl rfl (.inr rfl) ?_
          first | refine WL.no rfl rfl rfl (.inl rfl) ?_ | refine WL.no rfl rfl rfl (.inr rfl) ?_
          first | refine WL.val rfl (run_pickT rfl) ?_ | refine WL.val rfl (run_pickF rfl) ?_
          refine WL.nil ?_
          repeat (first | refine CW.seq ?_ | refine CW.block ?_ | refine CW.skip ?_ | refine CW.label ?_ | refine CW.exit ?_ | refine CW.condT rfl ?_ | refine CW.condF rfl ?_)
          refine CW.reg ?_
          refine WL.val rfl (run_move) ?_
          refine WL.val rfl (run_move) ?_
          refine WL.val rfl (run_move) ?_
          refine WL.val rfl (run_move) ?_
          refine WL.val rfl (run_sliceStr Tryd.underlying9 rfl rfl rfl (by omega) (by omega)) ?_
          refine WL.buildSlice (cs := [str ((s.take i).drop fr)]) Tryd.underlying51 ty9 rfl (by decide) rfl (filled_s _ _ rfl) rfl hs (fun b29 w hs => ?_)
          have hsl : Sl w 1 (.slice (some ⟨b29, 0, none⟩) 1 1) 1 [str ((s.take i).drop fr)] := .own1 hs rfl
          refine WL.append Tryd.underlying51 Tryd.underlying51 ty9 rfl (by decide) rfl rfl (hu) ((Step.append_comm (L1 := [_]) hs)) (hsl) ((fun v hv => by rw [List.mem_singleton.1 hv]; rfl)) (by first | omega | (simp only [List.length_append, List.length_cons, List.length_nil]; omega)) rfl (fun v30 Lv30 w hv30 hs => ?_)
          refine WL.val rfl (run_assign) ?_
          refine WL.nil ?_
          repeat (first | refine CW.seq ?_ | refine CW.block ?_ | refine CW.skip ?_ | refine CW.label ?_ | refine CW.exit ?_ | refine CW.condT rfl ?_ | refine CW.condF rfl ?_)
          refine CW.reg ?_
          refine WL.val rfl (run_move) ?_
          refine WL.val rfl (run_add (c := ((i + 1 : Nat) : Int)) rfl rfl (by omega) (by omega)) ?_
          refine WL.val rfl (run_assign) ?_
          refine WL.nil ?_
          repeat (first | refine CW.seq ?_ | refine CW.block ?_ | refine CW.skip ?_ | refine CW.label ?_ | refine CW.exit ?_ | refine CW.condT rfl ?_ | refine CW.condF rfl ?_)
          refine CW.reg ?_
          refine WL.val rfl (run_move) ?_
          refine WL.val rfl (run_add (c := ((i + 1 : Nat) : Int)) rfl rfl (by omega) (by omega)) ?_
          refine WL.val rfl (run_assign) ?_
          refine WL.nil ?_
          have eP : strs P ++ [str ((s.take i).drop fr)] = strs (P ++ [(s.take i).drop fr]) := by simp [strs]
          rw [eP] at hv30
          repeat (first | refine CW.seq ?_ | refine CW.block ?_ | refine CW.skip ?_ | refine CW.label ?_ | refine CW.exit ?_)
          refine (show _ ∧ _ from ⟨rfl, _, ?_, i + 1, i + 1, P ++ [(s.take i).drop fr], _, _, by omega, rfl, by simp; omega, fun h => by omega, fun _ => hlast, ?_, Step.dropR hs, rfl, rfl, rfl, rfl, trivial⟩)
          · omega
          · rw [List.length_append]
            exact hv30
        · have hlt : i < s.length := by omega
          have hc : s[i]? = some s[i] := List.getElem?_eq_getElem hlt
          have hdi : s.drop fr = (s.take i).drop fr ++ s[i] :: s.drop (i + 1) := by
            rw [← hdt, ← List.drop_eq_getElem_cons hlt]
            have : s.drop i = (s.drop fr).drop (i - fr) := by rw [List.drop_drop]; congr 1; omega
            rw [this, List.take_append_drop]
          by_cases hsl : s[i] = 47
          · have hcut : splitL s = P ++ [(s.take i).drop fr] ++ splitL (s.drop (i + 1)) := by
              rw [hdt] at hno
              rw [hsp, hdi, hsl, splitL_hit hno, List.append_assoc]
              rfl
            repeat (first | refine CW.seq ?_ | refine CW.block ?_ | refine CW.skip ?_ | refine CW.label ?_ | refine CW.exit ?_ | refine CW.condT rfl ?_ | refine CW.condF rfl ?_)
            refine CW.reg ?_
            refine WL.val rfl (run_move) ?_
            refine WL.val rfl (run_move) ?_
            refine WL.val rfl (run_lenStr Tryd.underlying9 rfl) ?_
            refine WL.val rfl (run_bT (run_leq rfl rfl) (by omega)) ?_
            refine WL.nil ?_
            repeat (first | refine CW.seq ?_ | refine CW.block ?_ | refine CW.skip ?_ | refine CW.label ?_ | refine CW.exit ?_ | refine CW.condT rfl ?_ | refine CW.condF rfl ?_)
            refine CW.reg ?_
            refine WL.val rfl (run_move) ?_
            refine WL.val rfl (run_move) ?_
            refine WL.val rfl (run_lenStr Tryd.underlying9 rfl) ?_
            refine WL.val rfl (run_bF (run_eql rfl rfl) (by omega)) ?_
            refine WL.val rfl (run_move) ?_
            refine WL.yes rfl rfl rfl ?_
            refine WL.val rfl (run_move) ?_
            refine WL.yes rfl rfl rfl ?_
            refine WL.val rfl (run_move) ?_
            refine WL.yes rfl rfl rfl ?_
            refine WL.val rfl (run_strIdx Tryd.underlying9 rfl rfl (hc)) ?_
            refine WL.yes rfl rfl rfl ?_
            refine WL.val rfl (run_bT (run_eql rfl rfl) (by rw [hsl]; rfl)) ?_
            first | refine WL.val rfl (run_pickT rfl) ?_ | refine WL.val rfl (run_pickF rfl) ?_
            refine WL.nil ?_
            repeat (first | refine CW.seq ?_ | refine CW.block ?_ | refine CW.skip ?_ | refine CW.label ?_ | refine CW.exit ?_ | refine CW.condT rfl ?_ | refine CW.condF rfl ?_)
            refine CW.reg ?_
            refine WL.val rfl (run_move) ?_
            refine WL.val rfl (run_move) ?_
            refine WL.val rfl (run_move) ?_
            refine WL.val rfl (run_move) ?_
            refine WL.val rfl (run_sliceStr Tryd.underlying9 rfl rfl rfl (by omega) (by omega)) ?_
            refine WL.buildSlice (cs := [str ((s.take i).drop fr)]) Tryd.underlying51 ty9 rfl (by decide) rfl (filled_s _ _ rfl) rfl hs (fun b29 w hs => ?_)
            have hsl : Sl w 1 (.slice (some ⟨b29, 0, none⟩) 1 1) 1 [str ((s.take i).drop fr)] := .own1 hs rfl
            refine WL.append Tryd.underlying51 Tryd.underlying51 ty9 rfl (by decide) rfl rfl (hu) ((Step.append_comm (L1 := [_]) hs)) (hsl) ((fun v hv => by rw [List.mem_singleton.1 hv]; rfl)) (by first | omega | (simp only [List.length_append, List.length_cons, List.length_nil]; omega)) rfl (fun v30 Lv30 w hv30 hs => ?_)
            refine WL.val rfl (run_assign) ?_
            refine WL.nil ?_
            repeat (first | refine CW.seq ?_ | refine CW.block ?_ | refine CW.skip ?_ | refine CW.label ?_ | refine CW.exit ?_ | refine CW.condT rfl ?_ | refine CW.condF rfl ?_)
            refine CW.reg ?_
            refine WL.val rfl (run_move) ?_
            refine WL.val rfl (run_add (c := ((i + 1 : Nat) : Int)) rfl rfl (by omega) (by omega)) ?_
            refine WL.val rfl (run_assign) ?_
            refine WL.nil ?_
            repeat (first | refine CW.seq ?_ | refine CW.block ?_ | refine CW.skip ?_ | refine CW.label ?_ | refine CW.exit ?_ | refine CW.condT rfl ?_ | refine CW.condF rfl ?_)
            refine CW.reg ?_
            refine WL.val rfl (run_move) ?_
            refine WL.val rfl (run_add (c := ((i + 1 : Nat) : Int)) rfl rfl (by omega) (by omega)) ?_
            refine WL.val rfl (run_assign) ?_
            refine WL.nil ?_
            have eP : strs P ++ [str ((s.take i).drop fr)] = strs (P ++ [(s.take i).drop fr]) := by simp [strs]
            rw [eP] at hv30
            repeat (first | refine CW.seq ?_ | refine CW.block ?_ | refine CW.skip ?_ | refine CW.label ?_ | refine CW.exit ?_)
            refine (show _ ∧ _ from ⟨rfl, _, ?_, i + 1, i + 1, P ++ [(s.take i).drop fr], _, _, by omega, rfl, by simp; omega, fun h => ⟨Nat.le_refl _, hcut, by simp⟩, fun h => by omega, ?_, Step.dropR hs, rfl, rfl, rfl, rfl, trivial⟩)
            · omega
            · rw [List.length_append]
              exact hv30
          · have hnz : ¬ ((s[i].toNat : Int) = 47) := fun h => hsl (UInt8.toNat_inj.1 (by simpa using (show s[i].toNat = 47 by omega)))
            repeat (first | refine CW.seq ?_ | refine CW.block ?_ | refine CW.skip ?_ | refine CW.label ?_ | refine CW.exit ?_ | refine CW.condT rfl ?_ | refine CW.condF rfl ?_)
            refine CW.reg ?_
            refine WL.val rfl (run_move) ?_
            refine WL.val rfl (run_move) ?_
            refine WL.val rfl (run_lenStr Tryd.underlying9 rfl) ?_
            refine WL.val rfl (run_bT (run_leq rfl rfl) (by omega)) ?_
            refine WL.nil ?_
            repeat (first | refine CW.seq ?_ | refine CW.block ?_ | refine CW.skip ?_ | refine CW.label ?_ | refine CW.exit ?_ | refine CW.condT rfl ?_ | refine CW.condF rfl ?_)
            refine CW.reg ?_
            refine WL.val rfl (run_move) ?_
            refine WL.val rfl (run_move) ?_
            refine WL.val rfl (run_lenStr Tryd.underlying9 rfl) ?_
            refine WL.val rfl (run_bF (run_eql rfl rfl) (by omega)) ?_
            refine WL.val rfl (run_move) ?_
            refine WL.yes rfl rfl rfl ?_
            refine WL.val rfl (run_move) ?_
            refine WL.yes rfl rfl rfl ?_
            refine WL.val rfl (run_move) ?_
            refine WL.yes rfl rfl rfl ?_
            refine WL.val rfl (run_strIdx Tryd.underlying9 rfl rfl (hc)) ?_
            refine WL.yes rfl rfl rfl ?_
            refine WL.val rfl (run_bF (run_eql rfl rfl) (by exact hnz)) ?_
            first | refine WL.val rfl (run_pickT rfl) ?_ | refine WL.val rfl (run_pickF rfl) ?_
            refine WL.nil ?_
            repeat (first | refine CW.seq ?_ | refine CW.block ?_ | refine CW.skip ?_ | refine CW.label ?_ | refine CW.exit ?_ | refine CW.condT rfl ?_ | refine CW.condF rfl ?_)
            refine CW.reg ?_
            refine WL.val rfl (run_move) ?_
            refine WL.val rfl (run_add (c := ((i + 1 : Nat) : Int)) rfl rfl (by omega) (by omega)) ?_
            refine WL.val rfl (run_assign) ?_
            refine WL.nil ?_
            repeat (first | refine CW.seq ?_ | refine CW.block ?_ | refine CW.skip ?_ | refine CW.label ?_ | refine CW.exit ?_)
            refine (show _ ∧ _ from ⟨rfl, _, ?_, i + 1, fr, P, u, Lu, by omega, rfl, by omega, fun h => ⟨by omega, hsp, ?_⟩, fun h => by omega, hu, hs, rfl, rfl, rfl, rfl, trivial⟩)
            · omega
            · rw [show i + 1 - fr = (i - fr) + 1 by omega, List.take_succ_eq_append_getElem (by rw [List.length_drop]; omega), List.mem_append]
              rintro (h | h)
              · exact hno h
              · rw [List.mem_singleton, List.getElem_drop] at h
                apply hsl
                rw [h]
                congr 1
                omega
      · obtain rfl : i = s.length + 1 := by omega
        repeat (first | refine CW.seq ?_ | refine CW.block ?_ | refine CW.skip ?_ | refine CW.label ?_ | refine CW.exit ?_ | refine CW.condT rfl ?_ | refine CW.condF rfl ?_)
        refine CW.reg ?_
        refine WL.val rfl (run_move) ?_
        refine WL.val rfl (run_move) ?_
        refine WL.val rfl (run_lenStr Tryd.underlying9 rfl) ?_
        refine WL.val rfl (run_bF (run_leq rfl rfl) (by omega)) ?_
        refine WL.nil ?_
        repeat (first | refine CW.seq ?_ | refine CW.block ?_ | refine CW.skip ?_ | refine CW.label ?_ | refine CW.exit ?_ | refine CW.condT rfl ?_ | refine CW.condF rfl ?_)
        refine CW.reg ?_
        refine WL.val rfl (run_move) ?_
        refine WL.val rfl (run_assign) ?_
        refine WL.nil ?_
        repeat (first | refine CW.seq ?_ | refine CW.block ?_ | refine CW.skip ?_ | refine CW.label ?_ | refine CW.exit ?_ | refine CW.condT rfl ?_ | refine CW.condF rfl ?_)
        refine CW.ret ?_
        refine fin_ret1 rfl ?_
        rw [hout rfl]
        exact ⟨u, Lu, rfl, hu, hs⟩
end Go.Gx
