/- Match: the document's answer. -/
import Derived.Test.YtnoamfcnamlbhaaDoorRPat
namespace Go.Gx
open Go.Proofs Go.RowKit
set_option linter.unusedVariables false
set_option linter.unusedSimpArgs false
set_option maxRecDepth 100000

set_option maxHeartbeats 4000000 in
theorem refMatch_spec {s t : List UInt8} (w0 : World) (hs1 : s.length ≤ 9223372036854775807) (ht1 : t.length ≤ 9223372036854775807) : Calls Tryd.prog 19 #[str s, str t] w0 (Ret0 (.tuple #[.bool (matchR s t).1, .int .i64 (matchR s t).2]) w0) := by
  have hs : Step [] [] w0 w0 := Step.refl w0
  by_cases hb1 : 4096 < s.length
  · have e : matchR s t = (false, 2) := by rw [matchR, if_pos (.inl hb1)]
    rw [e]
    refine calls (n := 82) Tryd.func19 rfl rfl rfl ?_
    repeat (first | refine CW.seq ?_ | refine CW.block ?_ | refine CW.skip ?_ | refine CW.label ?_ | refine CW.exit ?_ | refine CW.condT rfl ?_ | refine CW.condF rfl ?_)
    refine CW.reg ?_
    refine WL.val rfl (run_assign) ?_
    refine WL.val rfl (run_assign) ?_
    refine WL.nil ?_
    repeat (first | refine CW.seq ?_ | refine CW.block ?_ | refine CW.skip ?_ | refine CW.label ?_ | refine CW.exit ?_ | refine CW.condT rfl ?_ | refine CW.condF rfl ?_)
    refine CW.reg ?_
    refine WL.val rfl (run_move) ?_
    refine WL.val rfl (run_lenStr Tryd.underlying9 rfl) ?_
    refine WL.val rfl (run_bT (run_gtr rfl rfl) (by omega)) ?_
    refine WL.val rfl (run_move) ?_
    first | refine WL.no rfl rfl rfl (.inl rfl) ?_ | refine WL.no rfl rfl rfl (.inr rfl) ?_
    first | refine WL.no rfl rfl rfl (.inl rfl) ?_ | refine WL.no rfl rfl rfl (.inr rfl) ?_
    first | refine WL.no rfl rfl rfl (.inl rfl) ?_ | refine WL.no rfl rfl rfl (.inr rfl) ?_
    first | refine WL.val rfl (run_pickT rfl) ?_ | refine WL.val rfl (run_pickF rfl) ?_
    refine WL.nil ?_
    repeat (first | refine CW.seq ?_ | refine CW.block ?_ | refine CW.skip ?_ | refine CW.label ?_ | refine CW.exit ?_ | refine CW.condT rfl ?_ | refine CW.condF rfl ?_)
    refine CW.reg ?_
    refine WL.val rfl (run_assign) ?_
    refine WL.val rfl (run_assign) ?_
    refine WL.nil ?_
    repeat (first | refine CW.seq ?_ | refine CW.block ?_ | refine CW.skip ?_ | refine CW.label ?_ | refine CW.exit ?_ | refine CW.condT rfl ?_ | refine CW.condF rfl ?_)
    refine CW.ret ?_
    refine fin_ret2 rfl ?_
    exact ⟨rfl, hs⟩
  by_cases hb2 : 4096 < t.length
  · have e : matchR s t = (false, 2) := by rw [matchR, if_pos (.inr hb2)]
    rw [e]
    refine calls (n := 82) Tryd.func19 rfl rfl rfl ?_
    repeat (first | refine CW.seq ?_ | refine CW.block ?_ | refine CW.skip ?_ | refine CW.label ?_ | refine CW.exit ?_ | refine CW.condT rfl ?_ | refine CW.condF rfl ?_)
    refine CW.reg ?_
    refine WL.val rfl (run_assign) ?_
    refine WL.val rfl (run_assign) ?_
    refine WL.nil ?_
    repeat (first | refine CW.seq ?_ | refine CW.block ?_ | refine CW.skip ?_ | refine CW.label ?_ | refine CW.exit ?_ | refine CW.condT rfl ?_ | refine CW.condF rfl ?_)
    refine CW.reg ?_
    refine WL.val rfl (run_move) ?_
    refine WL.val rfl (run_lenStr Tryd.underlying9 rfl) ?_
    refine WL.val rfl (run_bF (run_gtr rfl rfl) (by omega)) ?_
    refine WL.val rfl (run_move) ?_
    refine WL.yes rfl rfl rfl ?_
    refine WL.val rfl (run_move) ?_
    refine WL.yes rfl rfl rfl ?_
    refine WL.val rfl (run_lenStr Tryd.underlying9 rfl) ?_
    refine WL.yes rfl rfl rfl ?_
    refine WL.val rfl (run_bT (run_gtr rfl rfl) (by omega)) ?_
    first | refine WL.val rfl (run_pickT rfl) ?_ | refine WL.val rfl (run_pickF rfl) ?_
    refine WL.nil ?_
    repeat (first | refine CW.seq ?_ | refine CW.block ?_ | refine CW.skip ?_ | refine CW.label ?_ | refine CW.exit ?_ | refine CW.condT rfl ?_ | refine CW.condF rfl ?_)
    refine CW.reg ?_
    refine WL.val rfl (run_assign) ?_
    refine WL.val rfl (run_assign) ?_
    refine WL.nil ?_
    repeat (first | refine CW.seq ?_ | refine CW.block ?_ | refine CW.skip ?_ | refine CW.label ?_ | refine CW.exit ?_ | refine CW.condT rfl ?_ | refine CW.condF rfl ?_)
    refine CW.ret ?_
    refine fin_ret2 rfl ?_
    exact ⟨rfl, hs⟩
  have hbig : ¬ (4096 < s.length ∨ 4096 < t.length) := by omega
  have cpat := fun w => refIsPattern_spec (s := s) w (by omega)
  have ccln := fun w => refIsClean_spec (s := t) w (by omega)
  by_cases hpat : (partsL s).all okPat = false
  · have e : matchR s t = (false, 34) := by rw [matchR, if_neg hbig, if_pos hpat]
    rw [e]
    simp only [hpat] at cpat
    refine calls (n := 82) Tryd.func19 rfl rfl rfl ?_
    repeat (first | refine CW.seq ?_ | refine CW.block ?_ | refine CW.skip ?_ | refine CW.label ?_ | refine CW.exit ?_ | refine CW.condT rfl ?_ | refine CW.condF rfl ?_)
    refine CW.reg ?_
    refine WL.val rfl (run_assign) ?_
    refine WL.val rfl (run_assign) ?_
    refine WL.nil ?_
    repeat (first | refine CW.seq ?_ | refine CW.block ?_ | refine CW.skip ?_ | refine CW.label ?_ | refine CW.exit ?_ | refine CW.condT rfl ?_ | refine CW.condF rfl ?_)
    refine CW.reg ?_
    refine WL.val rfl (run_move) ?_
    refine WL.val rfl (run_lenStr Tryd.underlying9 rfl) ?_
    refine WL.val rfl (run_bF (run_gtr rfl rfl) (by omega)) ?_
    refine WL.val rfl (run_move) ?_
    refine WL.yes rfl rfl rfl ?_
    refine WL.val rfl (run_move) ?_
    refine WL.yes rfl rfl rfl ?_
    refine WL.val rfl (run_lenStr Tryd.underlying9 rfl) ?_
    refine WL.yes rfl rfl rfl ?_
    refine WL.val rfl (run_bF (run_gtr rfl rfl) (by omega)) ?_
    first | refine WL.val rfl (run_pickT rfl) ?_ | refine WL.val rfl (run_pickF rfl) ?_
    refine WL.nil ?_
    repeat (first | refine CW.seq ?_ | refine CW.block ?_ | refine CW.skip ?_ | refine CW.label ?_ | refine CW.exit ?_ | refine CW.condT rfl ?_ | refine CW.condF rfl ?_)
    refine CW.reg ?_
    refine WL.val rfl (run_move) ?_
    refine WL.enter rfl (run_call en41 rfl rfl) (cpat _) ?_
    rintro e w ⟨rfl, hq⟩
    refine ⟨_, rfl, ?_⟩
    replace hs := hs.callE hq
    first | refine WL.val rfl (run_notB rfl) ?_ | refine WL.val rfl (run_not rfl) ?_
    refine WL.nil ?_
    repeat (first | refine CW.seq ?_ | refine CW.block ?_ | refine CW.skip ?_ | refine CW.label ?_ | refine CW.exit ?_ | refine CW.condT rfl ?_ | refine CW.condF rfl ?_)
    refine CW.reg ?_
    refine WL.val rfl (run_assign) ?_
    refine WL.val rfl (run_assign) ?_
    refine WL.nil ?_
    repeat (first | refine CW.seq ?_ | refine CW.block ?_ | refine CW.skip ?_ | refine CW.label ?_ | refine CW.exit ?_ | refine CW.condT rfl ?_ | refine CW.condF rfl ?_)
    refine CW.ret ?_
    refine fin_ret2 rfl ?_
    exact ⟨rfl, hs⟩
  have hpat' : (partsL s).all okPat = true := by simpa using hpat
  simp only [hpat'] at cpat
  by_cases hcln : isCleanL t = false
  · have e : matchR s t = (false, 31) := by rw [matchR, if_neg hbig, if_neg hpat, if_pos hcln]
    rw [e]
    simp only [hcln] at ccln
    refine calls (n := 82) Tryd.func19 rfl rfl rfl ?_
    repeat (first | refine CW.seq ?_ | refine CW.block ?_ | refine CW.skip ?_ | refine CW.label ?_ | refine CW.exit ?_ | refine CW.condT rfl ?_ | refine CW.condF rfl ?_)
    refine CW.reg ?_
    refine WL.val rfl (run_assign) ?_
    refine WL.val rfl (run_assign) ?_
    refine WL.nil ?_
    repeat (first | refine CW.seq ?_ | refine CW.block ?_ | refine CW.skip ?_ | refine CW.label ?_ | refine CW.exit ?_ | refine CW.condT rfl ?_ | refine CW.condF rfl ?_)
    refine CW.reg ?_
    refine WL.val rfl (run_move) ?_
    refine WL.val rfl (run_lenStr Tryd.underlying9 rfl) ?_
    refine WL.val rfl (run_bF (run_gtr rfl rfl) (by omega)) ?_
    refine WL.val rfl (run_move) ?_
    refine WL.yes rfl rfl rfl ?_
    refine WL.val rfl (run_move) ?_
    refine WL.yes rfl rfl rfl ?_
    refine WL.val rfl (run_lenStr Tryd.underlying9 rfl) ?_
    refine WL.yes rfl rfl rfl ?_
    refine WL.val rfl (run_bF (run_gtr rfl rfl) (by omega)) ?_
    first | refine WL.val rfl (run_pickT rfl) ?_ | refine WL.val rfl (run_pickF rfl) ?_
    refine WL.nil ?_
    repeat (first | refine CW.seq ?_ | refine CW.block ?_ | refine CW.skip ?_ | refine CW.label ?_ | refine CW.exit ?_ | refine CW.condT rfl ?_ | refine CW.condF rfl ?_)
    refine CW.reg ?_
    refine WL.val rfl (run_move) ?_
    refine WL.enter rfl (run_call en41 rfl rfl) (cpat _) ?_
    rintro e w ⟨rfl, hq⟩
    refine ⟨_, rfl, ?_⟩
    replace hs := hs.callE hq
    first | refine WL.val rfl (run_notB rfl) ?_ | refine WL.val rfl (run_not rfl) ?_
    refine WL.nil ?_
    repeat (first | refine CW.seq ?_ | refine CW.block ?_ | refine CW.skip ?_ | refine CW.label ?_ | refine CW.exit ?_ | refine CW.condT rfl ?_ | refine CW.condF rfl ?_)
    refine CW.reg ?_
    refine WL.val rfl (run_move) ?_
    refine WL.enter rfl (run_call en17 rfl rfl) (ccln _) ?_
    rintro e w ⟨rfl, hq⟩
    refine ⟨_, rfl, ?_⟩
    replace hs := hs.callE hq
    first | refine WL.val rfl (run_notB rfl) ?_ | refine WL.val rfl (run_not rfl) ?_
    refine WL.nil ?_
    repeat (first | refine CW.seq ?_ | refine CW.block ?_ | refine CW.skip ?_ | refine CW.label ?_ | refine CW.exit ?_ | refine CW.condT rfl ?_ | refine CW.condF rfl ?_)
    refine CW.reg ?_
    refine WL.val rfl (run_assign) ?_
    refine WL.val rfl (run_assign) ?_
    refine WL.nil ?_
    repeat (first | refine CW.seq ?_ | refine CW.block ?_ | refine CW.skip ?_ | refine CW.label ?_ | refine CW.exit ?_ | refine CW.condT rfl ?_ | refine CW.condF rfl ?_)
    refine CW.ret ?_
    refine fin_ret2 rfl ?_
    exact ⟨rfl, hs⟩
  have hcln' : isCleanL t = true := by simpa using hcln
  simp only [hcln'] at ccln
  have hpl := partsL_len s
  have hql := partsL_len t
  have hple : ∀ p ∈ partsL s, p.length < 4294967281 := fun p hp => Nat.lt_of_le_of_lt (partsL_le hp) (by omega)
  have hqle : ∀ p ∈ partsL t, p.length < 4294967281 := fun p hp => Nat.lt_of_le_of_lt (partsL_le hp) (by omega)
  have hobt : ∃ x, partsL s = x := ⟨_, rfl⟩
  obtain ⟨x, hx⟩ := hobt
  have hobt : ∃ y, partsL t = y := ⟨_, rfl⟩
  obtain ⟨y, hy⟩ := hobt
  have eof : matchR s t = (goesM (fun x => decide (x = [42, 42])) ofPart x y, 0) := by rw [matchR, if_neg hbig, if_neg hpat, if_neg hcln, matchM, hx, hy]
  rw [eof]
  clear eof
  have c1 := fun w => refParts_spec (s := s) w (by omega)
  have c2 := fun w => refParts_spec (s := t) w (by omega)
  simp only [hx] at c1 hpl hple
  simp only [hy] at c2 hql hqle
  refine calls (n := 82) Tryd.func19 rfl rfl rfl ?_
  repeat (first | refine CW.seq ?_ | refine CW.block ?_ | refine CW.skip ?_ | refine CW.label ?_ | refine CW.exit ?_ | refine CW.condT rfl ?_ | refine CW.condF rfl ?_)
  refine CW.reg ?_
  refine WL.val rfl (run_assign) ?_
  refine WL.val rfl (run_assign) ?_
  refine WL.nil ?_
  repeat (first | refine CW.seq ?_ | refine CW.block ?_ | refine CW.skip ?_ | refine CW.label ?_ | refine CW.exit ?_ | refine CW.condT rfl ?_ | refine CW.condF rfl ?_)
  refine CW.reg ?_
  refine WL.val rfl (run_move) ?_
  refine WL.val rfl (run_lenStr Tryd.underlying9 rfl) ?_
  refine WL.val rfl (run_bF (run_gtr rfl rfl) (by omega)) ?_
  refine WL.val rfl (run_move) ?_
  refine WL.yes rfl rfl rfl ?_
  refine WL.val rfl (run_move) ?_
  refine WL.yes rfl rfl rfl ?_
  refine WL.val rfl (run_lenStr Tryd.underlying9 rfl) ?_
  refine WL.yes rfl rfl rfl ?_
  refine WL.val rfl (run_bF (run_gtr rfl rfl) (by omega)) ?_
  first | refine WL.val rfl (run_pickT rfl) ?_ | refine WL.val rfl (run_pickF rfl) ?_
  refine WL.nil ?_
  repeat (first | refine CW.seq ?_ | refine CW.block ?_ | refine CW.skip ?_ | refine CW.label ?_ | refine CW.exit ?_ | refine CW.condT rfl ?_ | refine CW.condF rfl ?_)
  refine CW.reg ?_
  refine WL.val rfl (run_move) ?_
  refine WL.enter rfl (run_call en41 rfl rfl) (cpat _) ?_
  rintro e w ⟨rfl, hq⟩
  refine ⟨_, rfl, ?_⟩
  replace hs := hs.callE hq
  first | refine WL.val rfl (run_notB rfl) ?_ | refine WL.val rfl (run_not rfl) ?_
  refine WL.nil ?_
  repeat (first | refine CW.seq ?_ | refine CW.block ?_ | refine CW.skip ?_ | refine CW.label ?_ | refine CW.exit ?_ | refine CW.condT rfl ?_ | refine CW.condF rfl ?_)
  refine CW.reg ?_
  refine WL.val rfl (run_move) ?_
  refine WL.enter rfl (run_call en17 rfl rfl) (ccln _) ?_
  rintro e w ⟨rfl, hq⟩
  refine ⟨_, rfl, ?_⟩
  replace hs := hs.callE hq
  first | refine WL.val rfl (run_notB rfl) ?_ | refine WL.val rfl (run_not rfl) ?_
  refine WL.nil ?_
  repeat (first | refine CW.seq ?_ | refine CW.block ?_ | refine CW.skip ?_ | refine CW.label ?_ | refine CW.exit ?_ | refine CW.condT rfl ?_ | refine CW.condF rfl ?_)
  refine CW.reg ?_
  refine WL.val rfl (run_move) ?_
  refine WL.enter rfl (run_call en33 rfl rfl) (c1 _) ?_
  rintro e w ⟨u, Lu, rfl, hu, hqs⟩
  refine ⟨_, rfl, ?_⟩
  replace hs := (hs.call0 hqs).dropR
  refine WL.val rfl (run_assign) ?_
  refine WL.nil ?_
  repeat (first | refine CW.seq ?_ | refine CW.block ?_ | refine CW.skip ?_ | refine CW.label ?_ | refine CW.exit ?_ | refine CW.condT rfl ?_ | refine CW.condF rfl ?_)
  refine CW.reg ?_
  refine WL.val rfl (run_move) ?_
  refine WL.enter rfl (run_call en33 rfl rfl) (c2 _) ?_
  rintro e w ⟨u2, Lv, rfl, hv, hq2⟩
  refine ⟨_, rfl, ?_⟩
  have hxx := cellsOf hu hqs
  obtain ⟨a, c, hq3, hcl, hcx⟩ := hxx
  subst hq3
  have hyy := cellsOf hv hq2
  obtain ⟨a2, c2, hq4, hcl2, hcy⟩ := hyy
  subst hq4
  have hcx2 : Texts _ _ _ := Sl0.keep hcx hq2
  replace hcy : Texts _ _ _ := hcy
  replace hs := hs.dropR (L1 := [])
  replace hs := hs.call0 (hq2.dropR (L1 := []))
  refine WL.val rfl (run_assign) ?_
  refine WL.nil ?_
  have hobt : ∃ A : List UInt8 → Bool, A = fun x => decide (x = [42, 42]) := ⟨_, rfl⟩
  obtain ⟨A, hA⟩ := hobt
  rw [← hA]
  have hs00 := hs
  replace hs : Step [] [] w w := Step.refl w
  have w1eq : ∃ w1, w1 = w := ⟨w, rfl⟩
  obtain ⟨w1, hw1⟩ := w1eq
  rw [← hw1] at hs00 hcx2 hcy
  replace hs : Step [] [] w1 w := by rw [hw1]; exact hs
  clear hw1 hqs hq2
  repeat (first | refine CW.seq ?_ | refine CW.block ?_ | refine CW.skip ?_ | refine CW.label ?_ | refine CW.exit ?_ | refine CW.condT rfl ?_ | refine CW.condF rfl ?_)
  refine CW.reg ?_
  refine WL.val rfl (run_move) ?_
  refine WL.val rfl (run_lenSl Tryd.underlying34 rfl) ?_
  refine WL.makeSlice (k := x.length) Tryd.underlying55 ty4 rfl (by omega) (by omega) rfl rfl rfl hs (fun b32 w hs => ?_)
  refine WL.val rfl (run_assign) ?_
  refine WL.nil ?_
  rw [flat_rep] at hs
  repeat (first | refine CW.seq ?_ | refine CW.block ?_ | refine CW.skip ?_ | refine CW.label ?_ | refine CW.exit ?_ | refine CW.condT rfl ?_ | refine CW.condF rfl ?_)
  refine CW.reg ?_
  refine WL.val rfl (run_move) ?_
  refine WL.val rfl (run_lenSl Tryd.underlying34 rfl) ?_
  refine WL.makeSlice (k := x.length) Tryd.underlying56 ty55 rfl (by omega) (by omega) rfl rfl rfl hs (fun b35 w hs => ?_)
  refine WL.val rfl (run_assign) ?_
  refine WL.nil ?_
  rw [flat_rep] at hs
  repeat (first | refine CW.seq ?_ | refine CW.block ?_ | refine CW.skip ?_ | refine CW.label ?_ | refine CW.exit ?_ | refine CW.condT rfl ?_ | refine CW.condF rfl ?_)
  refine CW.reg ?_
  refine WL.val rfl (run_assign) ?_
  refine WL.nil ?_
  repeat (first | refine CW.seq ?_ | refine CW.block ?_ | refine CW.skip ?_ | refine CW.label ?_ | refine CW.exit ?_ | refine CW.condT rfl ?_ | refine CW.condF rfl ?_)
  refine CW.loop (fun m f w' => ∃ (i : Nat) (bs : List Nat) (R : List (Nat × Obj)), i ≤ x.length ∧ m = x.length - i ∧ bs.length = i ∧ (∀ j b, bs[j]? = some b → (b, blk 4 (bools ((x.map fun p => y.map (ofPart p)).getD j []))) ∈ R) ∧ Step [] ((b35, blk 55 (bs.map (slB y.length) ++ List.replicate (x.length - i) (Value.slice none 0 0))) :: (b32, blk 4 (bools ((x.map A).take i) ++ List.replicate (x.length - i) (Value.bool false))) :: R) w1 w' ∧ Holds f [(6, .slice a x.length c), (7, .slice a2 y.length c2), (8, .slice (some ⟨b32, 0, none⟩) x.length x.length), (9, .slice (some ⟨b35, 0, none⟩) x.length x.length), (10, .int .i64 i)]) (m := x.length) ?_ ?_
  · exact ⟨0, [], [], Nat.zero_le _, rfl, rfl, fun j b h => by simp at h, hs, rfl, rfl, rfl, rfl, rfl, trivial⟩
  · clear hs
    rintro m f w ⟨i, bs, R, hi, rfl, hbs, hR, hs, hf⟩
    have hobt := hf.chain
    obtain ⟨g, rfl⟩ := hobt
    have hl1 : (bools ((x.map A).take i)).length = i := by simp [bools]; omega
    have hl2 : (bs.map (slB y.length)).length = i := by rw [List.length_map, hbs]
    by_cases hlt : i < x.length
    · have hobt := Texts.get hcx2 hlt
      obtain ⟨bx, p', rfl, hpi, hpm, hcp⟩ := hobt
      have hf1 := fill_len (z := Value.bool false) hl1 hi
      have hf2 := fill_len (z := Value.slice none 0 0) hl2 hi
      have hset1 := fill_set (z := Value.bool false) (v := Value.bool (A p')) hl1 hlt
      have hAi : (x.map A).getD i false = A p' := by simp [List.getD_eq_getElem?_getD, hpi]
      rw [← hAi, ← take_bools (by simpa using hlt), hAi] at hset1
      repeat (first | refine CW.seq ?_ | refine CW.block ?_ | refine CW.skip ?_ | refine CW.label ?_ | refine CW.exit ?_ | refine CW.condT rfl ?_ | refine CW.condF rfl ?_)
      refine CW.reg ?_
      refine WL.val rfl (run_move) ?_
      refine WL.val rfl (run_move) ?_
      refine WL.val rfl (run_lenSl Tryd.underlying34 rfl) ?_
      refine WL.val rfl (run_bT (run_lss rfl rfl) (by omega)) ?_
      refine WL.nil ?_
      repeat (first | refine CW.seq ?_ | refine CW.block ?_ | refine CW.skip ?_ | refine CW.label ?_ | refine CW.exit ?_ | refine CW.condT rfl ?_ | refine CW.condF rfl ?_)
      refine CW.reg ?_
      refine WL.val rfl (run_move) ?_
      refine WL.val rfl (run_move) ?_
      refine WL.val rfl (run_move) ?_
      refine WL.val rfl (run_move) ?_
      first | refine WL.val rfl (run_ixSlN Tryd.underlying34 ty9 rfl rfl (by omega)) ?_ | refine WL.val rfl (run_ixSl Tryd.underlying34 ty9 rfl rfl (by omega)) ?_
      refine WL.val rfl (run_load1 ty9 rfl ((hcp hs))) ?_
      refine WL.val rfl (run_strEq rfl rfl) ?_
      first | refine WL.val rfl (run_ixSlN Tryd.underlying55 ty4 rfl rfl (by omega)) ?_ | refine WL.val rfl (run_ixSl Tryd.underlying55 ty4 rfl rfl (by omega)) ?_
      first | refine WL.store1 ty4 rfl rfl (rfl) hs (by first | (simp; done) | omega | (simp only [List.length_append, List.length_replicate, List.length_cons, List.length_nil, List.length_set]; omega) | (simp [Ent.cells, u8s]; done) | exact Nat.le_of_ble_eq_true rfl) (fun w hs => ?_) | refine WL.store1_1 ty4 rfl rfl (rfl) hs (by first | (simp; done) | omega | (simp only [List.length_append, List.length_replicate, List.length_cons, List.length_nil, List.length_set]; omega) | (simp [Ent.cells, u8s]; done) | exact Nat.le_of_ble_eq_true rfl) (fun w hs => ?_) | refine WL.store1_2 ty4 rfl rfl (rfl) hs (by first | (simp; done) | omega | (simp only [List.length_append, List.length_replicate, List.length_cons, List.length_nil, List.length_set]; omega) | (simp [Ent.cells, u8s]; done) | exact Nat.le_of_ble_eq_true rfl) (fun w hs => ?_) | refine WL.store1_3 ty4 rfl rfl (rfl) hs (by first | (simp; done) | omega | (simp only [List.length_append, List.length_replicate, List.length_cons, List.length_nil, List.length_set]; omega) | (simp [Ent.cells, u8s]; done) | exact Nat.le_of_ble_eq_true rfl) (fun w hs => ?_) | refine WL.store1_4 ty4 rfl rfl (rfl) hs (by first | (simp; done) | omega | (simp only [List.length_append, List.length_replicate, List.length_cons, List.length_nil, List.length_set]; omega) | (simp [Ent.cells, u8s]; done) | exact Nat.le_of_ble_eq_true rfl) (fun w hs => ?_) | refine WL.store1 ty4 rfl rfl (rfl) hs (by first | (simp; done) | omega | (simp only [List.length_append, List.length_replicate, List.length_cons, List.length_nil, List.length_set]; omega) | (simp [Ent.cells, u8s]; done) | exact Nat.le_of_ble_eq_true rfl) (fun w hs => ?_)
      refine WL.nil ?_
      replace hs : Step [] ((b35, blk 55 (bs.map (slB y.length) ++ List.replicate (x.length - i) (Value.slice none 0 0))) :: (b32, blk 4 ((bools ((x.map A).take i) ++ List.replicate (x.length - i) (Value.bool false)).set (0 + i * 1) (Value.bool (decide (p' = [42, 42]))))) :: R) w1 w := hs
      rw [← show A p' = decide (p' = [42, 42]) by rw [hA]] at hs
      rw [hset1] at hs
      repeat (first | refine CW.seq ?_ | refine CW.block ?_ | refine CW.skip ?_ | refine CW.label ?_ | refine CW.exit ?_ | refine CW.condT rfl ?_ | refine CW.condF rfl ?_)
      refine CW.reg ?_
      refine WL.val rfl (run_move) ?_
      refine WL.val rfl (run_move) ?_
      refine WL.val rfl (run_move) ?_
      refine WL.val rfl (run_lenSl Tryd.underlying34 rfl) ?_
      refine WL.makeSlice (k := y.length) Tryd.underlying55 ty4 rfl (by omega) (by omega) rfl rfl rfl hs (fun b54 w hs => ?_)
      first | refine WL.val rfl (run_ixSlN Tryd.underlying56 ty55 rfl rfl (by omega)) ?_ | refine WL.val rfl (run_ixSl Tryd.underlying56 ty55 rfl rfl (by omega)) ?_
      first | refine WL.store1 ty55 rfl rfl (rfl) hs (by first | (simp; done) | omega | (simp only [List.length_append, List.length_replicate, List.length_cons, List.length_nil, List.length_set]; omega) | (simp [Ent.cells, u8s]; done) | exact Nat.le_of_ble_eq_true rfl) (fun w hs => ?_) | refine WL.store1_1 ty55 rfl rfl (rfl) hs (by first | (simp; done) | omega | (simp only [List.length_append, List.length_replicate, List.length_cons, List.length_nil, List.length_set]; omega) | (simp [Ent.cells, u8s]; done) | exact Nat.le_of_ble_eq_true rfl) (fun w hs => ?_) | refine WL.store1_2 ty55 rfl rfl (rfl) hs (by first | (simp; done) | omega | (simp only [List.length_append, List.length_replicate, List.length_cons, List.length_nil, List.length_set]; omega) | (simp [Ent.cells, u8s]; done) | exact Nat.le_of_ble_eq_true rfl) (fun w hs => ?_) | refine WL.store1_3 ty55 rfl rfl (rfl) hs (by first | (simp; done) | omega | (simp only [List.length_append, List.length_replicate, List.length_cons, List.length_nil, List.length_set]; omega) | (simp [Ent.cells, u8s]; done) | exact Nat.le_of_ble_eq_true rfl) (fun w hs => ?_) | refine WL.store1_4 ty55 rfl rfl (rfl) hs (by first | (simp; done) | omega | (simp only [List.length_append, List.length_replicate, List.length_cons, List.length_nil, List.length_set]; omega) | (simp [Ent.cells, u8s]; done) | exact Nat.le_of_ble_eq_true rfl) (fun w hs => ?_) | refine WL.store1 ty55 rfl rfl (rfl) hs (by first | (simp; done) | omega | (simp only [List.length_append, List.length_replicate, List.length_cons, List.length_nil, List.length_set]; omega) | (simp [Ent.cells, u8s]; done) | exact Nat.le_of_ble_eq_true rfl) (fun w hs => ?_)
      refine WL.nil ?_
      rw [flat_rep] at hs
      have hset2 := fill_set (z := Value.slice none 0 0) (v := slB y.length b54) hl2 hlt
      have hbm : bs.map (slB y.length) ++ [slB y.length b54] = (bs ++ [b54]).map (slB y.length) := by simp
      rw [hbm] at hset2
      replace hs : Step [] ((b54, blk 4 (List.replicate y.length (Value.bool false))) :: (b35, blk 55 ((bs.map (slB y.length) ++ List.replicate (x.length - i) (Value.slice none 0 0)).set (0 + i * 1) (slB y.length b54))) :: (b32, blk 4 (bools ((x.map A).take (i + 1)) ++ List.replicate (x.length - (i + 1)) (Value.bool false))) :: R) w1 w := hs
      rw [hset2] at hs
      repeat (first | refine CW.seq ?_ | refine CW.block ?_ | refine CW.skip ?_ | refine CW.label ?_ | refine CW.exit ?_ | refine CW.condT rfl ?_ | refine CW.condF rfl ?_)
      refine CW.reg ?_
      refine WL.val rfl (run_assign) ?_
      refine WL.nil ?_
      have hobt : ∃ row, y.map (ofPart p') = row := ⟨_, rfl⟩
      obtain ⟨row, hrow⟩ := hobt
      have hrl : row.length = y.length := by rw [← hrow, List.length_map]
      have hobt : ∃ C1, (bs ++ [b54]).map (slB y.length) ++ List.replicate (x.length - (i + 1)) (Value.slice none 0 0) = C1 := ⟨_, rfl⟩
      obtain ⟨C1, hC1⟩ := hobt
      have hobt : ∃ C2, bools ((x.map A).take (i + 1)) ++ List.replicate (x.length - (i + 1)) (Value.bool false) = C2 := ⟨_, rfl⟩
      obtain ⟨C2, hC2⟩ := hobt
      rw [hC1, hC2] at hs
      have hC1i : C1[0 + i * 1]? = some (slB y.length b54) := by
        rw [← hC1, Nat.zero_add, Nat.mul_one, List.getElem?_append_left (by simp; omega)]
        simp [← hbs]
      repeat (first | refine CW.seq ?_ | refine CW.block ?_ | refine CW.skip ?_ | refine CW.label ?_ | refine CW.exit ?_ | refine CW.condT rfl ?_ | refine CW.condF rfl ?_)
      refine CW.loop (fun m f w' => ∃ k, k ≤ y.length ∧ m = y.length - k ∧ Step [] ((b54, blk 4 (bools (row.take k) ++ List.replicate (y.length - k) (Value.bool false))) :: (b35, blk 55 C1) :: (b32, blk 4 C2) :: R) w1 w' ∧ Holds f [(6, .slice (some ⟨bx, 0, none⟩) x.length c), (7, .slice a2 y.length c2), (8, .slice (some ⟨b32, 0, none⟩) x.length x.length), (9, .slice (some ⟨b35, 0, none⟩) x.length x.length), (10, .int .i64 i), (11, .int .i64 k)]) (m := y.length) ?_ ?_
      · exact ⟨0, Nat.zero_le _, rfl, hs, rfl, rfl, rfl, rfl, rfl, rfl, trivial⟩
      · clear hs
        rintro m f w ⟨k, hk, rfl, hs, hf⟩
        have hobt := hf.chain
        obtain ⟨g, rfl⟩ := hobt
        by_cases hlk : k < y.length
        · have hobt := Texts.get hcy hlk
          obtain ⟨bq, q', rfl, hqk, hqm, hcq⟩ := hobt
          have hl3 : (bools (row.take k)).length = k := by simp [bools]; omega
          have hf3 := fill_len (z := Value.bool false) hl3 hk
          have hgk : row.getD k false = ofPart p' q' := by rw [← hrow]; simp [List.getD_eq_getElem?_getD, hqk]
          have hset3 := fill_set (z := Value.bool false) (v := Value.bool (ofPart p' q')) hl3 hlk
          rw [← hgk, ← take_bools (by omega), hgk] at hset3
          have hcof := fun w => refOf_spec (p := p') (q := q') w (hple p' hpm) (hqle q' hqm)
          repeat (first | refine CW.seq ?_ | refine CW.block ?_ | refine CW.skip ?_ | refine CW.label ?_ | refine CW.exit ?_ | refine CW.condT rfl ?_ | refine CW.condF rfl ?_)
          refine CW.reg ?_
          refine WL.val rfl (run_move) ?_
          refine WL.val rfl (run_move) ?_
          refine WL.val rfl (run_lenSl Tryd.underlying34 rfl) ?_
          refine WL.val rfl (run_bT (run_lss rfl rfl) (by omega)) ?_
          refine WL.nil ?_
          repeat (first | refine CW.seq ?_ | refine CW.block ?_ | refine CW.skip ?_ | refine CW.label ?_ | refine CW.exit ?_ | refine CW.condT rfl ?_ | refine CW.condF rfl ?_)
          refine CW.any (A := fun w => Step [] ((b35, blk 55 C1) :: (b32, blk 4 C2) :: R) w1 w) (C := fun w => Step [] ((b35, blk 55 C1) :: (b32, blk 4 C2) :: R) w1 w) 1000000 16 mixedP rfl ?_
          replace hs := hs.drew
          refine AL.val 0 rfl (by kernel_rfl) rfl (fun w hs => run_move) ?_
          refine AL.val 1 rfl (by kernel_rfl) rfl (fun w hs => run_move) ?_
          first | refine AL.val 2 rfl (by kernel_rfl) rfl (fun w hs => run_ixSlN Tryd.underlying56 ty55 rfl rfl (by omega)) ?_ | refine AL.val 2 rfl (by kernel_rfl) rfl (fun w hs => run_ixSl Tryd.underlying56 ty55 rfl rfl (by omega)) ?_
          refine AL.val 3 rfl (by kernel_rfl) rfl (fun w hs => run_load1 ty55 rfl (hs.c0 hC1i)) ?_
          refine AL.val 4 rfl (by kernel_rfl) rfl (fun w hs => run_move) ?_
          refine AL.val 5 rfl (by kernel_rfl) rfl (fun w hs => run_move) ?_
          refine AL.val 6 rfl (by kernel_rfl) rfl (fun w hs => run_move) ?_
          first | refine AL.val 7 rfl (by kernel_rfl) rfl (fun w hs => run_ixSlN Tryd.underlying34 ty9 rfl rfl (by omega)) ?_ | refine AL.val 7 rfl (by kernel_rfl) rfl (fun w hs => run_ixSl Tryd.underlying34 ty9 rfl rfl (by omega)) ?_
          refine AL.val 8 rfl (by kernel_rfl) rfl (fun w hs => run_load1 ty9 rfl (hcp hs)) ?_
          refine AL.val 9 rfl (by kernel_rfl) rfl (fun w hs => run_move) ?_
          refine AL.val 10 rfl (by kernel_rfl) rfl (fun w hs => run_move) ?_
          first | refine AL.val 11 rfl (by kernel_rfl) rfl (fun w hs => run_ixSlN Tryd.underlying34 ty9 rfl rfl (by omega)) ?_ | refine AL.val 11 rfl (by kernel_rfl) rfl (fun w hs => run_ixSl Tryd.underlying34 ty9 rfl rfl (by omega)) ?_
          refine AL.val 12 rfl (by kernel_rfl) rfl (fun w hs => run_load1 ty9 rfl (hcq hs)) ?_
          refine AL.one 13 (by kernel_rfl) rfl (hs.tail) (hs.tail) ?_
          refine WL.enter rfl (run_call en42 rfl rfl) (hcof _) ?_
          rintro e w ⟨rfl, hq⟩
          refine ⟨_, rfl, ?_⟩
          replace hs := hs.callE hq
          refine WL.nil ?_
          refine ⟨rfl, ?_⟩
          first | refine AL.val 14 rfl (by kernel_rfl) rfl (fun w hs => run_ixSlN Tryd.underlying55 ty4 rfl rfl (by omega)) ?_ | refine AL.val 14 rfl (by kernel_rfl) rfl (fun w hs => run_ixSl Tryd.underlying55 ty4 rfl rfl (by omega)) ?_
          refine AL.one 15 (by kernel_rfl) rfl (hs.tail) (hs.tail) ?_
          first | refine WL.store1 ty4 rfl rfl (rfl) hs (by first | (simp; done) | omega | (simp only [List.length_append, List.length_replicate, List.length_cons, List.length_nil, List.length_set]; omega) | (simp [Ent.cells, u8s]; done) | exact Nat.le_of_ble_eq_true rfl) (fun w hs => ?_) | refine WL.store1_1 ty4 rfl rfl (rfl) hs (by first | (simp; done) | omega | (simp only [List.length_append, List.length_replicate, List.length_cons, List.length_nil, List.length_set]; omega) | (simp [Ent.cells, u8s]; done) | exact Nat.le_of_ble_eq_true rfl) (fun w hs => ?_) | refine WL.store1_2 ty4 rfl rfl (rfl) hs (by first | (simp; done) | omega | (simp only [List.length_append, List.length_replicate, List.length_cons, List.length_nil, List.length_set]; omega) | (simp [Ent.cells, u8s]; done) | exact Nat.le_of_ble_eq_true rfl) (fun w hs => ?_) | refine WL.store1_3 ty4 rfl rfl (rfl) hs (by first | (simp; done) | omega | (simp only [List.length_append, List.length_replicate, List.length_cons, List.length_nil, List.length_set]; omega) | (simp [Ent.cells, u8s]; done) | exact Nat.le_of_ble_eq_true rfl) (fun w hs => ?_) | refine WL.store1_4 ty4 rfl rfl (rfl) hs (by first | (simp; done) | omega | (simp only [List.length_append, List.length_replicate, List.length_cons, List.length_nil, List.length_set]; omega) | (simp [Ent.cells, u8s]; done) | exact Nat.le_of_ble_eq_true rfl) (fun w hs => ?_) | refine WL.store1 ty4 rfl rfl (rfl) hs (by first | (simp; done) | omega | (simp only [List.length_append, List.length_replicate, List.length_cons, List.length_nil, List.length_set]; omega) | (simp [Ent.cells, u8s]; done) | exact Nat.le_of_ble_eq_true rfl) (fun w hs => ?_)
          refine WL.nil ?_
          refine ⟨rfl, ?_⟩
          refine AL.end (by kernel_rfl) (hs.tail) (hs.tail) ?_
          repeat (first | refine CW.seq ?_ | refine CW.block ?_ | refine CW.skip ?_ | refine CW.label ?_ | refine CW.exit ?_ | refine CW.condT rfl ?_ | refine CW.condF rfl ?_)
          refine CW.reg ?_
          refine WL.val rfl (run_move) ?_
          refine WL.val rfl (run_add (c := ((k + 1 : Nat) : Int)) rfl rfl (by omega) (by omega)) ?_
          refine WL.val rfl (run_assign) ?_
          refine WL.nil ?_
          repeat (first | refine CW.seq ?_ | refine CW.block ?_ | refine CW.skip ?_ | refine CW.label ?_ | refine CW.exit ?_)
          refine (show _ ∧ _ from ⟨rfl, _, ?_, k + 1, by omega, rfl, ?_, rfl, rfl, rfl, rfl, rfl, rfl, trivial⟩)
          · omega
          · exact (congrArg (fun cs => Step [] ((b54, blk 4 cs) :: (b35, blk 55 C1) :: (b32, blk 4 C2) :: R) w1 w) hset3).mp hs
        · obtain rfl : k = y.length := by omega
          have hful : bools (row.take y.length) ++ List.replicate (y.length - y.length) (Value.bool false) = bools row := by rw [Nat.sub_self, List.replicate_zero, List.append_nil, ← hrl, List.take_length]
          rw [hful] at hs
          repeat (first | refine CW.seq ?_ | refine CW.block ?_ | refine CW.skip ?_ | refine CW.label ?_ | refine CW.exit ?_ | refine CW.condT rfl ?_ | refine CW.condF rfl ?_)
          refine CW.reg ?_
          refine WL.val rfl (run_move) ?_
          refine WL.val rfl (run_move) ?_
          refine WL.val rfl (run_lenSl Tryd.underlying34 rfl) ?_
          refine WL.val rfl (run_bF (run_lss rfl rfl) (by omega)) ?_
          refine WL.nil ?_
          repeat (first | refine CW.seq ?_ | refine CW.block ?_ | refine CW.skip ?_ | refine CW.label ?_ | refine CW.exit ?_ | refine CW.condT rfl ?_ | refine CW.condF rfl ?_)
          refine CW.reg ?_
          refine WL.val rfl (run_move) ?_
          refine WL.val rfl (run_add (c := ((i + 1 : Nat) : Int)) rfl rfl (by omega) (by omega)) ?_
          refine WL.val rfl (run_assign) ?_
          refine WL.nil ?_
          rw [← hC1, ← hC2] at hs
          repeat (first | refine CW.seq ?_ | refine CW.block ?_ | refine CW.skip ?_ | refine CW.label ?_ | refine CW.exit ?_)
          refine (show _ ∧ _ from ⟨rfl, _, ?_, i + 1, bs ++ [b54], (b54, blk 4 (bools row)) :: R, by omega, rfl, by simp [hbs], fun j b h => ?_, hs.rot3.rot3, rfl, rfl, rfl, rfl, rfl, trivial⟩)
          · omega
          · by_cases hj : j < bs.length
            · rw [List.getElem?_append_left hj] at h
              exact List.mem_cons_of_mem _ (hR j b h)
            · obtain rfl : j = i := by
                have := (List.getElem?_eq_some_iff.1 h).1
                simp at this
                omega
              rw [List.getElem?_append_right (by omega), hbs, Nat.sub_self] at h
              obtain rfl : b54 = b := by simpa using h
              have : (x.map fun p => y.map (ofPart p)).getD j [] = row := by rw [← hrow]; simp [List.getD_eq_getElem?_getD, hpi]
              rw [this]
              exact List.mem_cons_self
    · obtain rfl : i = x.length := by omega
      have e1 : bs.map (slB y.length) ++ List.replicate (x.length - x.length) (Value.slice none 0 0) = bs.map (slB y.length) := by rw [Nat.sub_self, List.replicate_zero, List.append_nil]
      have e2 : bools ((x.map A).take x.length) ++ List.replicate (x.length - x.length) (Value.bool false) = bools (x.map A) := by rw [Nat.sub_self, List.replicate_zero, List.append_nil, List.take_of_length_le (by simp)]
      rw [e1, e2] at hs
      have hlaw := dpI_law (any := A) (of := ofPart) x y x.length y.length (Nat.le_refl _) (Nat.le_refl _)
      rw [List.take_length, List.take_length] at hlaw
      have hcall := refGoes_spec (bm := b32) (bo := b35) (n := y.length) (K := x.length) (ms := x.map A) (os := x.map fun p => y.map (ofPart p)) (bs := bs) w (by simp) (by omega) (by simp; omega) (by simp [hbs]) hs.a1 hs.a0 (fun j b h => by
        have hjl := (List.getElem?_eq_some_iff.1 h).1
        refine ⟨by simp [List.getD_eq_getElem?_getD, List.getElem?_eq_getElem (show j < x.length by omega)], ?_⟩
        have := hs.has _ (List.mem_cons_of_mem _ (List.mem_cons_of_mem _ (hR j b h)))
        exact At.of_blk this)
      rw [hlaw] at hcall
      repeat (first | refine CW.seq ?_ | refine CW.block ?_ | refine CW.skip ?_ | refine CW.label ?_ | refine CW.exit ?_ | refine CW.condT rfl ?_ | refine CW.condF rfl ?_)
      refine CW.reg ?_
      refine WL.val rfl (run_move) ?_
      refine WL.val rfl (run_move) ?_
      refine WL.val rfl (run_lenSl Tryd.underlying34 rfl) ?_
      refine WL.val rfl (run_bF (run_lss rfl rfl) (by omega)) ?_
      refine WL.nil ?_
      repeat (first | refine CW.seq ?_ | refine CW.block ?_ | refine CW.skip ?_ | refine CW.label ?_ | refine CW.exit ?_ | refine CW.condT rfl ?_ | refine CW.condF rfl ?_)
      refine CW.reg ?_
      refine WL.val rfl (run_move) ?_
      refine WL.val rfl (run_move) ?_
      refine WL.val rfl (run_move) ?_
      refine WL.val rfl (run_lenSl Tryd.underlying34 rfl) ?_
      refine WL.enter rfl (run_call en43 rfl rfl) (hcall) ?_
      rintro e w ⟨rfl, hq⟩
      refine ⟨_, rfl, ?_⟩
      replace hs := hs.callE hq
      refine WL.val rfl (run_assign) ?_
      refine WL.val rfl (run_assign) ?_
      refine WL.nil ?_
      repeat (first | refine CW.seq ?_ | refine CW.block ?_ | refine CW.skip ?_ | refine CW.label ?_ | refine CW.exit ?_ | refine CW.condT rfl ?_ | refine CW.condF rfl ?_)
      refine CW.ret ?_
      refine fin_ret2 rfl ?_
      exact ⟨rfl, hs00.callE hs.clear⟩
end Go.Gx
