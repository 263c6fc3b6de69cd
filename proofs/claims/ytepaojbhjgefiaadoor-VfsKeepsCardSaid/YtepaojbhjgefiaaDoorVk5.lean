/- Files in memory: known, the walk. -/
import Derived.Test.YtepaojbhjgefiaaDoorVk4
namespace Go.Gx
open Go.Proofs
set_option linter.unusedVariables false
set_option linter.unusedSimpArgs false
set_option maxRecDepth 100000
set_option maxHeartbeats 4000000 in
theorem known_spec {w0 : World} (hg : Gl w0) : Calls Tryd.prog 7 #[] w0 (Ret0 (.bool true) w0) := by
  have hs : Step [] [] w0 w0 := Step.refl w0
  have hz : ∀ {L : List (Nat × Obj)} {w : World}, Step [] L w0 w → 0 ∉ L.map (·.1) := fun hs => hs.zero (by simp) hg
  have c1 := fun {w L bf} (hR : VRep bf w0V L) (hs : Step [] L w0 w) => open_spec (w0 := w) (p := [97, 47, 46, 47, 98]) (mode := 5) hR w0s (hg.stepS hs (by simp)) (hz hs) hs.own1 (by decide)
  simp only [w01] at c1
  have c2 := fun {w L bf v} (hR : VRep bf w1V L) (hw : Step (L.map (·.1)) L w w) (hv : ∀ {L' w'}, Step (L.map (·.1)) L' w w' → Sl w' 1 v 2 (u8s [7, 8])) => write_spec (w0 := w) (h := 0) (b := [7, 8]) hR w1k hw (by decide) hv
  simp only [w12] at c2
  have c3 := fun {w L R bf} (hR : VRep bf w2V L) (hs : Step [] (L ++ R) w0 w) => open_spec (w0 := w) (p := [97, 47, 98]) (mode := 0) hR w2s (hg.stepS hs (by simp)) (hz hs.dropR) hs.own (by decide)
  simp only [w23] at c3
  have c4 := fun {w L bf} (hR : VRep bf w3V L) (hw : Step (L.map (·.1)) L w w) => read_spec (w0 := w) (h := 1) (n := 9) hR w3k hw (by decide)
  simp only [w34] at c4
  have c5 : ∀ {w L bf}, VRep bf w4V L → (∀ p ∈ L, w.heap[p.1]? = some p.2) → Calls Tryd.prog 23 #[.pointer (some ⟨bf, 0, none⟩)] w (Ret0 (.agg (quoC 2 2 2).toArray) w) := fun ⟨mf, md, vh, Lh, Fs, Ds, Hs, o⟩ hw => used_spec o w4k (by decide) hw
  refine calls (n := 75) Tryd.func7 rfl rfl rfl ?_
  repeat (first | refine CW.seq ?_ | refine CW.block ?_ | refine CW.skip ?_ | refine CW.label ?_ | refine CW.exit ?_ | refine CW.condT rfl ?_ | refine CW.condF rfl ?_)
  refine CW.reg ?_
  refine WL.val rfl (run_assign) ?_
  refine WL.nil ?_
  repeat (first | refine CW.seq ?_ | refine CW.block ?_ | refine CW.skip ?_ | refine CW.label ?_ | refine CW.exit ?_ | refine CW.condT rfl ?_ | refine CW.condF rfl ?_)
  refine CW.reg ?_
  refine WL.val rfl (run_build rfl (bld_quo _ _ _ _)) ?_
  refine WL.enter rfl (run_call en8 rfl rfl) (new_nil (by decide) (by decide) _) ?_
  rintro e w ⟨bf, L0, rfl, hR0, hq⟩
  refine ⟨_, rfl, ?_⟩
  replace hs := hs.call1 hq
  refine WL.val rfl (run_move) ?_
  refine WL.val rfl (run_extract rfl rfl) ?_
  refine WL.val rfl (run_extract rfl rfl) ?_
  refine WL.val rfl (run_assign) ?_
  refine WL.val rfl (run_assign) ?_
  refine WL.nil ?_
  repeat (first | refine CW.seq ?_ | refine CW.block ?_ | refine CW.skip ?_ | refine CW.label ?_ | refine CW.exit ?_ | refine CW.condT rfl ?_ | refine CW.condF rfl ?_)
  refine CW.reg ?_
  refine WL.val rfl (run_move) ?_
  refine WL.val rfl (run_ptrNil Tryd.underlying25 rfl rfl) ?_
  refine WL.val rfl (run_move) ?_
  first | (refine WL.yes rfl rfl rfl ?_; refine WL.val rfl (run_move) ?_) | refine WL.no rfl rfl rfl (.inl rfl) ?_ | refine WL.no rfl rfl rfl (.inr rfl) ?_
  refine WL.yes rfl rfl rfl ?_
  refine WL.val rfl (run_bF (run_neq rfl rfl) (by decide)) ?_
  first | refine WL.val rfl (run_pickT rfl) ?_ | refine WL.val rfl (run_pickF rfl) ?_
  refine WL.nil ?_
  repeat (first | refine CW.seq ?_ | refine CW.block ?_ | refine CW.skip ?_ | refine CW.label ?_ | refine CW.exit ?_)
  first | refine CW.condP rfl (fun h => ?_) (fun h => ?_) | refine CW.cond rfl (fun h => ?_) (fun h => ?_)
  · cases h
  replace hR0 : VRep bf w0V L0 := hR0
  repeat (first | refine CW.seq ?_ | refine CW.block ?_ | refine CW.skip ?_ | refine CW.label ?_ | refine CW.exit ?_ | refine CW.condT rfl ?_ | refine CW.condF rfl ?_)
  refine CW.reg ?_
  refine WL.val rfl (run_move) ?_
  refine WL.enter rfl (run_call en9 rfl rfl) (c1 hR0 hs) ?_
  rintro e w ⟨L1, rfl, hR1, hq⟩
  refine ⟨_, rfl, ?_⟩
  replace hs := hs.call1 hq
  refine WL.val rfl (run_move) ?_
  refine WL.val rfl (run_extract rfl rfl) ?_
  refine WL.val rfl (run_extract rfl rfl) ?_
  refine WL.val rfl (run_assign) ?_
  refine WL.val rfl (run_assign) ?_
  refine WL.nil ?_
  repeat (first | refine CW.seq ?_ | refine CW.block ?_ | refine CW.skip ?_ | refine CW.label ?_ | refine CW.exit ?_ | refine CW.condT rfl ?_ | refine CW.condF rfl ?_)
  refine CW.reg ?_
  refine WL.val rfl (run_move) ?_
  refine WL.val rfl (run_move) ?_
  refine WL.buildSlice (cs := (u8s [7, 8])) Tryd.underlying34 ty5 rfl (by decide) rfl (by rfl) rfl hs (fun b27 w hs => ?_)
  refine WL.enter rfl (run_call en11 rfl rfl) (c2 hR1 hs.tail.own1 (fun h => Sl.step (.own1 hs rfl) h hs.fresh1)) ?_
  rintro e w ⟨L2, rfl, hR2, hq⟩
  refine ⟨_, rfl, ?_⟩
  replace hs := (hs.perm perm_k3).call hq
  refine WL.val rfl (run_assign) ?_
  refine WL.nil ?_
  repeat (first | refine CW.seq ?_ | refine CW.block ?_ | refine CW.skip ?_ | refine CW.label ?_ | refine CW.exit ?_ | refine CW.condT rfl ?_ | refine CW.condF rfl ?_)
  refine CW.reg ?_
  refine WL.val rfl (run_move) ?_
  refine WL.enter rfl (run_call en9 rfl rfl) (c3 hR2 hs) ?_
  rintro e w ⟨L3, rfl, hR3, hq⟩
  refine ⟨_, rfl, ?_⟩
  replace hs := hs.call hq
  refine WL.val rfl (run_move) ?_
  refine WL.val rfl (run_extract rfl rfl) ?_
  refine WL.val rfl (run_extract rfl rfl) ?_
  refine WL.val rfl (run_assign) ?_
  refine WL.val rfl (run_assign) ?_
  refine WL.nil ?_
  repeat (first | refine CW.seq ?_ | refine CW.block ?_ | refine CW.skip ?_ | refine CW.label ?_ | refine CW.exit ?_ | refine CW.condT rfl ?_ | refine CW.condF rfl ?_)
  refine CW.reg ?_
  refine WL.val rfl (run_move) ?_
  refine WL.val rfl (run_move) ?_
  refine WL.enter rfl (run_call en16 rfl rfl) (c4 hR3 hs.own) ?_
  rintro e w ⟨v4, Lv4, L4, rfl, hu4, hR4, hq⟩
  refine ⟨_, rfl, ?_⟩
  replace hs := hs.call hq
  refine WL.val rfl (run_move) ?_
  refine WL.val rfl (run_extract rfl rfl) ?_
  refine WL.val rfl (run_extract rfl rfl) ?_
  refine WL.val rfl (run_assign) ?_
  refine WL.val rfl (run_assign) ?_
  refine WL.nil ?_
  have hm4 : ∀ {w : World} {R}, Step [] (R ++ ((Lv4 ++ L4) ++ [(b27, blk 5 (u8s [7, 8]))])) w0 w → Sl w 1 v4 2 (u8s [7, 8]) := fun hs => hu4.slW fun p hp => hs.has p (by simp [hp])
  have hm5 : ∀ {w : World} {R}, Step [] (R ++ ((Lv4 ++ L4) ++ [(b27, blk 5 (u8s [7, 8]))])) w0 w → ∀ p ∈ L4, w.heap[p.1]? = some p.2 := fun hs p hp => hs.has p (by simp [hp])
  repeat (first | refine CW.seq ?_ | refine CW.block ?_ | refine CW.skip ?_ | refine CW.label ?_ | refine CW.exit ?_ | refine CW.condT rfl ?_ | refine CW.condF rfl ?_)
  refine CW.reg ?_
  refine WL.val rfl (run_move) ?_
  refine WL.val rfl (run_bT (run_eql rfl rfl) (by rfl)) ?_
  refine WL.val rfl (run_move) ?_
  first | (refine WL.yes rfl rfl rfl ?_; refine WL.val rfl (run_move) ?_) | refine WL.no rfl rfl rfl (.inl rfl) ?_ | refine WL.no rfl rfl rfl (.inr rfl) ?_
  refine WL.yes rfl rfl rfl ?_
  refine WL.val rfl (run_bT (run_eql rfl rfl) (by rfl)) ?_
  first | refine WL.val rfl (run_pickT rfl) ?_ | refine WL.val rfl (run_pickF rfl) ?_
  refine WL.val rfl (run_move) ?_
  first | (refine WL.yes rfl rfl rfl ?_; refine WL.val rfl (run_move) ?_) | refine WL.no rfl rfl rfl (.inl rfl) ?_ | refine WL.no rfl rfl rfl (.inr rfl) ?_
  refine WL.yes rfl rfl rfl ?_
  refine WL.val rfl (run_bT (run_eql rfl rfl) (by rfl)) ?_
  first | refine WL.val rfl (run_pickT rfl) ?_ | refine WL.val rfl (run_pickF rfl) ?_
  refine WL.val rfl (run_move) ?_
  first | (refine WL.yes rfl rfl rfl ?_; refine WL.val rfl (run_move) ?_) | refine WL.no rfl rfl rfl (.inl rfl) ?_ | refine WL.no rfl rfl rfl (.inr rfl) ?_
  refine WL.yes rfl rfl rfl ?_
  refine WL.val rfl (run_bT (run_eql rfl rfl) (by rfl)) ?_
  first | refine WL.val rfl (run_pickT rfl) ?_ | refine WL.val rfl (run_pickF rfl) ?_
  refine WL.val rfl (run_move) ?_
  first | (refine WL.yes rfl rfl rfl ?_; refine WL.val rfl (run_move) ?_) | refine WL.no rfl rfl rfl (.inl rfl) ?_ | refine WL.no rfl rfl rfl (.inr rfl) ?_
  refine WL.yes rfl rfl rfl ?_
  refine WL.val rfl (run_bT (run_eql rfl rfl) (by rfl)) ?_
  first | refine WL.val rfl (run_pickT rfl) ?_ | refine WL.val rfl (run_pickF rfl) ?_
  refine WL.val rfl (run_move) ?_
  first | (refine WL.yes rfl rfl rfl ?_; refine WL.val rfl (run_move) ?_) | refine WL.no rfl rfl rfl (.inl rfl) ?_ | refine WL.no rfl rfl rfl (.inr rfl) ?_
  refine WL.yes rfl rfl rfl ?_
  refine WL.val rfl (run_bT (run_eql rfl rfl) (by rfl)) ?_
  first | refine WL.val rfl (run_pickT rfl) ?_ | refine WL.val rfl (run_pickF rfl) ?_
  refine WL.val rfl (run_move) ?_
  first | (refine WL.yes rfl rfl rfl ?_; refine WL.val rfl (run_move) ?_) | refine WL.no rfl rfl rfl (.inl rfl) ?_ | refine WL.no rfl rfl rfl (.inr rfl) ?_
  refine WL.yes rfl rfl rfl ?_
  refine WL.val rfl (run_toString Tryd.underlying34 Tryd.underlying9 Tryd.underlying5 rfl (hm4 (R := []) hs)) ?_
  refine WL.yes rfl rfl rfl ?_
  refine WL.buildSlice (cs := (u8s [7, 8])) (vs := [(0, .int .u8 7), (1, .int .u8 8)]) Tryd.underlying34 ty5 rfl (by decide) rfl (by rfl) rfl hs (fun b65 w hs => ?_)
  refine WL.yes rfl rfl rfl ?_
  refine WL.val rfl (run_toString Tryd.underlying34 Tryd.underlying9 Tryd.underlying5 rfl (Sl.own1 (n := 2) (cs := u8s [7, 8]) hs rfl)) ?_
  refine WL.yes rfl rfl rfl ?_
  refine WL.val rfl (run_bT (run_strEq rfl rfl) (by rfl)) ?_
  first | refine WL.val rfl (run_pickT rfl) ?_ | refine WL.val rfl (run_pickF rfl) ?_
  refine WL.val rfl (run_move) ?_
  first | (refine WL.yes rfl rfl rfl ?_; refine WL.val rfl (run_move) ?_) | refine WL.no rfl rfl rfl (.inl rfl) ?_ | refine WL.no rfl rfl rfl (.inr rfl) ?_
  refine WL.yes rfl rfl rfl ?_
  refine WL.enter rfl (run_call en23 rfl rfl) (c5 hR4 (hm5 (R := [_]) hs)) ?_
  rintro e w ⟨rfl, hq⟩
  refine ⟨_, rfl, ?_⟩
  replace hs := hs.callE hq
  refine WL.yes rfl rfl rfl ?_
  refine WL.val rfl (run_build rfl (bld_quo _ _ _ _)) ?_
  refine WL.yes rfl rfl rfl ?_
  refine WL.val rfl (run_bT (run_eqQuo (by decide) (by decide) (by decide) (by decide) (by decide) (by decide) rfl rfl) (by decide)) ?_
  first | refine WL.val rfl (run_pickT rfl) ?_ | refine WL.val rfl (run_pickF rfl) ?_
  refine WL.val rfl (run_assign) ?_
  refine WL.nil ?_
  repeat (first | refine CW.seq ?_ | refine CW.block ?_ | refine CW.skip ?_ | refine CW.label ?_ | refine CW.exit ?_ | refine CW.condT rfl ?_ | refine CW.condF rfl ?_)
  refine CW.ret ?_
  refine fin_ret1 rfl ?_
  exact ⟨rfl, hs.clear⟩
end Go.Gx
