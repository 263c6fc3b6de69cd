/- VfsKeeps, walked. -/
import Derived.Test.YtepaojbhjgefiaaDoorVk7
namespace Go.Gx
open Go.Proofs
set_option linter.unusedVariables false
set_option linter.unusedSimpArgs false
set_option maxRecDepth 100000
set_option maxHeartbeats 2000000 in
theorem vfsKeeps_spec {v0 v1 : Value} {lm : List Int} {lc : List Cel} (w0 : World) (hg : Gl w0) (hm : Nums w0 v0 lm) (hc : Cels w0 v1 lc) : Calls Tryd.prog 3 #[v0, v1] w0 (Ret0 (.bool true) w0) := by
  have hs : Step [] [] w0 w0 := Step.refl w0
  have hobt := hm.sl.form
  obtain ⟨am, cm, rfl⟩ := hobt
  have hobt := hc.sl.form
  obtain ⟨ac, cc, rfl⟩ := hobt
  have hml := hm.len
  have hcl := hc.len
  have c2 := fun {w L bf} (hR : VRep bf fs0 L) (hs : Step [] L w0 w) => open_spec (w0 := w) (p := [120]) (mode := 2) hR fs0_sane (hg.stepS hs (by simp)) (hs.zero (by simp) hg) hs.own1 (by decide)
  simp only [open_first] at c2
  refine calls (n := 208) Tryd.func3 rfl rfl rfl ?_
  repeat (first | refine CW.seq ?_ | refine CW.block ?_ | refine CW.skip ?_ | refine CW.label ?_ | refine CW.exit ?_ | refine CW.condT rfl ?_ | refine CW.condF rfl ?_)
  refine CW.reg ?_
  refine WL.val rfl (run_assign) ?_
  refine WL.nil ?_
  repeat (first | refine CW.seq ?_ | refine CW.block ?_ | refine CW.skip ?_ | refine CW.label ?_ | refine CW.exit ?_ | refine CW.condT rfl ?_ | refine CW.condF rfl ?_)
  refine CW.reg ?_
  refine WL.enter rfl (run_call en7 rfl rfl) (known_spec (hg.stepS hs (by simp))) ?_
  rintro e w ⟨rfl, hq⟩
  refine ⟨_, rfl, ?_⟩
  replace hs := hs.callE hq
  first | refine WL.val rfl (run_notB rfl) ?_ | refine WL.val rfl (run_not rfl) ?_
  refine WL.nil ?_
  repeat (first | refine CW.seq ?_ | refine CW.block ?_ | refine CW.skip ?_ | refine CW.label ?_ | refine CW.exit ?_)
  first | refine CW.condP rfl (fun h => ?_) (fun h => ?_) | refine CW.cond rfl (fun h => ?_) (fun h => ?_)
  · cases h
  repeat (first | refine CW.seq ?_ | refine CW.block ?_ | refine CW.skip ?_ | refine CW.label ?_ | refine CW.exit ?_ | refine CW.condT rfl ?_ | refine CW.condF rfl ?_)
  refine CW.reg ?_
  refine WL.val rfl (run_build rfl (bld_quo _ _ _ _)) ?_
  refine WL.enter rfl (run_call en8 rfl rfl) (new_nil (by decide) (by decide) _) ?_
  rintro e w ⟨bf, L0, rfl, hR0, hq⟩
  refine ⟨_, rfl, ?_⟩
  replace hs := hs.call1 hq
  refine WL.val rfl (run_move) ?_
  refine WL.val rfl (run_extract rfl rfl) ?_
  refine WL.val rfl (run_extract rfl rfl) ?_
  refine WL.val rfl (run_assign) ?_
  refine WL.val rfl (run_assign) ?_
  refine WL.nil ?_
  repeat (first | refine CW.seq ?_ | refine CW.block ?_ | refine CW.skip ?_ | refine CW.label ?_ | refine CW.exit ?_ | refine CW.condT rfl ?_ | refine CW.condF rfl ?_)
  refine CW.reg ?_
  refine WL.val rfl (run_move) ?_
  refine WL.val rfl (run_bF (run_neq rfl rfl) (by decide)) ?_
  refine WL.val rfl (run_move) ?_
  first | (refine WL.yes rfl rfl rfl ?_; refine WL.val rfl (run_move) ?_) | refine WL.no rfl rfl rfl (.inl rfl) ?_ | refine WL.no rfl rfl rfl (.inr rfl) ?_
  refine WL.yes rfl rfl rfl ?_
  refine WL.val rfl (run_ptrNil Tryd.underlying25 rfl rfl) ?_
  first | refine WL.val rfl (run_pickT rfl) ?_ | refine WL.val rfl (run_pickF rfl) ?_
  refine WL.nil ?_
  repeat (first | refine CW.seq ?_ | refine CW.block ?_ | refine CW.skip ?_ | refine CW.label ?_ | refine CW.exit ?_)
  first | refine CW.condP rfl (fun h => ?_) (fun h => ?_) | refine CW.cond rfl (fun h => ?_) (fun h => ?_)
  · cases h
  rw [fs0_new] at hR0
  repeat (first | refine CW.seq ?_ | refine CW.block ?_ | refine CW.skip ?_ | refine CW.label ?_ | refine CW.exit ?_ | refine CW.condT rfl ?_ | refine CW.condF rfl ?_)
  refine CW.reg ?_
  refine WL.val rfl (run_move) ?_
  refine WL.enter rfl (run_call en9 rfl rfl) (c2 hR0 hs) ?_
  rintro e w ⟨L1, rfl, hR1, hq⟩
  refine ⟨_, rfl, ?_⟩
  replace hs := hs.call1 hq
  refine WL.val rfl (run_move) ?_
  refine WL.val rfl (run_extract rfl rfl) ?_
  refine WL.val rfl (run_extract rfl rfl) ?_
  refine WL.val rfl (run_assign) ?_
  refine WL.val rfl (run_assign) ?_
  refine WL.nil ?_
  have p0 : POk [] 0 := ⟨by simp, fun e he => by cases he⟩
  repeat (first | refine CW.seq ?_ | refine CW.block ?_ | refine CW.skip ?_ | refine CW.label ?_ | refine CW.exit ?_ | refine CW.condT rfl ?_ | refine CW.condF rfl ?_)
  refine CW.reg ?_
  refine WL.val rfl (run_move) ?_
  refine WL.val rfl (run_bF (run_neq rfl rfl) (by decide)) ?_
  refine WL.val rfl (run_move) ?_
  first | (refine WL.yes rfl rfl rfl ?_; refine WL.val rfl (run_move) ?_) | refine WL.no rfl rfl rfl (.inl rfl) ?_ | refine WL.no rfl rfl rfl (.inr rfl) ?_
  first | (refine WL.yes rfl rfl rfl ?_; refine WL.val rfl (run_move) ?_) | refine WL.no rfl rfl rfl (.inl rfl) ?_ | refine WL.no rfl rfl rfl (.inr rfl) ?_
  refine WL.yes rfl rfl rfl ?_
  refine WL.enter rfl (run_call en10 rfl rfl) (kclose_spec (hp := []) p0 (by omega) (by simp) (by omega) hR1 hs.own1) ?_
  rintro e w ⟨L2, rfl, hR2, hq⟩
  refine ⟨_, rfl, ?_⟩
  replace hs := hs.call1 hq
  refine WL.yes rfl rfl rfl ?_
  refine WL.val rfl (run_bF (run_neq rfl rfl) (by decide)) ?_
  first | refine WL.val rfl (run_pickT rfl) ?_ | refine WL.val rfl (run_pickF rfl) ?_
  refine WL.nil ?_
  repeat (first | refine CW.seq ?_ | refine CW.block ?_ | refine CW.skip ?_ | refine CW.label ?_ | refine CW.exit ?_)
  first | refine CW.condP rfl (fun h => ?_) (fun h => ?_) | refine CW.cond rfl (fun h => ?_) (fun h => ?_)
  · cases h
  repeat (first | refine CW.seq ?_ | refine CW.block ?_ | refine CW.skip ?_ | refine CW.label ?_ | refine CW.exit ?_ | refine CW.condT rfl ?_ | refine CW.condF rfl ?_)
  refine CW.reg ?_
  refine WL.val rfl (run_assign) ?_
  refine WL.nil ?_
  repeat (first | refine CW.seq ?_ | refine CW.block ?_ | refine CW.skip ?_ | refine CW.label ?_ | refine CW.exit ?_ | refine CW.condT rfl ?_ | refine CW.condF rfl ?_)
  refine CW.reg ?_
  refine WL.val rfl (run_assign) ?_
  refine WL.nil ?_
  repeat (first | refine CW.seq ?_ | refine CW.block ?_ | refine CW.skip ?_ | refine CW.label ?_ | refine CW.exit ?_ | refine CW.condT rfl ?_ | refine CW.condF rfl ?_)
  refine CW.reg ?_
  refine WL.val rfl (run_assign) ?_
  refine WL.nil ?_
  refine CW.seqM (fun f w => ∃ hp T L vh vp vk Lh Lp Lk, POk hp 0 ∧ Tail1 T ∧ VRep bf (ks [] (hA hp ++ T)) L ∧ OwnSl 3 1 vh hp.length (nC hp.length) Lh ∧ OwnSl 3 1 vp hp.length (pC hp) Lp ∧ OwnSl 3 1 vk hp.length (kC hp) Lk ∧ Step [] (L ++ (Lh ++ (Lp ++ Lk))) w0 w ∧ Holds f [(1, .slice ac lc.length cc), (5, .pointer (some ⟨bf, 0, none⟩)), (8, vh), (9, vp), (10, vk)]) ?_ ?_
  · repeat (first | refine CW.seq ?_ | refine CW.block ?_ | refine CW.skip ?_ | refine CW.label ?_ | refine CW.exit ?_ | refine CW.condT rfl ?_ | refine CW.condF rfl ?_)
    refine CW.reg ?_
    refine WL.val rfl (run_assign) ?_
    refine WL.nil ?_
    repeat (first | refine CW.seq ?_ | refine CW.block ?_ | refine CW.skip ?_ | refine CW.label ?_ | refine CW.exit ?_ | refine CW.condT rfl ?_ | refine CW.condF rfl ?_)
    refine CW.loop (fun z f w => ∃ hp T L vh vp vk Lh Lp Lk, hp.length ≤ lm.length ∧ z = lm.length - hp.length ∧ POk hp 0 ∧ Tail1 T ∧ VRep bf (ks [] (hA hp ++ T)) L ∧ OwnSl 3 1 vh hp.length (nC hp.length) Lh ∧ OwnSl 3 1 vp hp.length (pC hp) Lp ∧ OwnSl 3 1 vk hp.length (kC hp) Lk ∧ Step [] (L ++ (Lh ++ (Lp ++ Lk))) w0 w ∧ Holds f [(0, .slice am lm.length cm), (1, .slice ac lc.length cc), (5, .pointer (some ⟨bf, 0, none⟩)), (8, vh), (9, vp), (10, vk), (11, .int .i64 hp.length)]) (m := lm.length) ?_ ?_
    · exact ⟨[], [none], L2, _, _, _, [], [], [], by simp, rfl, p0, .inr rfl, hR2, OwnSl.nil _ _, OwnSl.nil _ _, OwnSl.nil _ _, by simpa using hs, rfl, rfl, rfl, rfl, rfl, rfl, rfl, trivial⟩
    · clear hs
      rintro z f w ⟨hp, T, L, vh, vp, vk, Lh, Lp, Lk, hi, rfl, pk, hT, hR, hvh, hvp, hvk, hs, hf⟩
      have hobt := hf.chain
      obtain ⟨g, rfl⟩ := hobt
      have hobt : ∃ n, hp.length = n := ⟨_, rfl⟩
      obtain ⟨n, hn⟩ := hobt
      have hpl := pk.len
      have hobt := hvh.form
      obtain ⟨ah, ch, rfl⟩ := hobt
      have hobt := hvp.form
      obtain ⟨ap, cp, rfl⟩ := hobt
      have hobt := hvk.form
      obtain ⟨ak, ck, rfl⟩ := hobt
      by_cases hlt : hp.length < lm.length
      · by_cases h20 : hp.length < 20
        · have hobt := hm.at hlt
          obtain ⟨b, off, c0, hc0, hat⟩ := hobt
          injection hc0 with hc0 hc1 hc2
          subst hc0
          have hobt : ∃ m, 1 + 2 * bit1 lm[hp.length] = m := ⟨_, rfl⟩
          obtain ⟨m, hmv⟩ := hobt
          have hb1 := bit1_lt lm[hp.length]
          have hm13 : m = 1 ∨ m = 3 := by omega
          repeat (first | refine CW.seq ?_ | refine CW.block ?_ | refine CW.skip ?_ | refine CW.label ?_ | refine CW.exit ?_ | refine CW.condT rfl ?_ | refine CW.condF rfl ?_)
          refine CW.reg ?_
          refine WL.val rfl (run_move) ?_
          refine WL.val rfl (run_move) ?_
          refine WL.val rfl (run_lenSl Tryd.underlying22 rfl) ?_
          refine WL.val rfl (run_bT (run_lss rfl rfl) (by omega)) ?_
          refine WL.val rfl (run_move) ?_
          first | (refine WL.yes rfl rfl rfl ?_; refine WL.val rfl (run_move) ?_) | refine WL.no rfl rfl rfl (.inl rfl) ?_ | refine WL.no rfl rfl rfl (.inr rfl) ?_
          refine WL.yes rfl rfl rfl ?_
          refine WL.val rfl (run_bT (run_lss rfl rfl) (by omega)) ?_
          first | refine WL.val rfl (run_pickT rfl) ?_ | refine WL.val rfl (run_pickF rfl) ?_
          refine WL.nil ?_
          repeat (first | refine CW.seq ?_ | refine CW.block ?_ | refine CW.skip ?_ | refine CW.label ?_ | refine CW.exit ?_)
          first | refine CW.condP rfl (fun h => ?_) (fun h => ?_) | refine CW.cond rfl (fun h => ?_) (fun h => ?_)
          · repeat (first | refine CW.seq ?_ | refine CW.block ?_ | refine CW.skip ?_ | refine CW.label ?_ | refine CW.exit ?_ | refine CW.condT rfl ?_ | refine CW.condF rfl ?_)
            refine CW.reg ?_
            refine WL.val rfl (run_move) ?_
            refine WL.val rfl (run_move) ?_
            first | refine WL.val rfl (run_ixSlN Tryd.underlying22 ty3 rfl rfl (by omega)) ?_ | refine WL.val rfl (run_ixSl Tryd.underlying22 ty3 rfl rfl (by omega)) ?_
            refine WL.val rfl (run_load1 ty3 rfl ((hat.step hs (by simp)).cell (j := 0) rfl)) ?_
            refine WL.val rfl (run_and1 rfl rfl) ?_
            refine WL.val rfl (run_mul (c := ((2 * bit1 lm[hp.length] : Nat) : Int)) rfl rfl (by omega) (by omega)) ?_
            refine WL.val rfl (run_add (c := ((m : Nat) : Int)) rfl rfl (by omega) (by omega)) ?_
            refine WL.val rfl (run_assign) ?_
            refine WL.nil ?_
            repeat (first | refine CW.seq ?_ | refine CW.block ?_ | refine CW.skip ?_ | refine CW.label ?_ | refine CW.exit ?_ | refine CW.condT rfl ?_ | refine CW.condF rfl ?_)
            refine CW.reg ?_
            refine WL.val rfl (run_move) ?_
            refine WL.val rfl (run_move) ?_
            refine WL.enter rfl (run_call en9 rfl rfl) (kopen_spec pk (by omega) hT (by simp) hR (hg.stepS hs (by simp)) (hs.dropR.zero (by simp) hg) hs.own hm13) ?_
            rintro e w ⟨L3, rfl, hR3, hq⟩
            refine ⟨_, rfl, ?_⟩
            replace hs := hs.call hq
            refine WL.val rfl (run_move) ?_
            refine WL.val rfl (run_extract rfl rfl) ?_
            refine WL.val rfl (run_extract rfl rfl) ?_
            refine WL.val rfl (run_assign) ?_
            refine WL.val rfl (run_assign) ?_
            refine WL.nil ?_
            repeat (first | refine CW.seq ?_ | refine CW.block ?_ | refine CW.skip ?_ | refine CW.label ?_ | refine CW.exit ?_ | refine CW.condT rfl ?_ | refine CW.condF rfl ?_)
            refine CW.reg ?_
            refine WL.val rfl (run_move) ?_
            refine WL.val rfl (run_bF (run_neq rfl rfl) (by decide)) ?_
            refine WL.nil ?_
            repeat (first | refine CW.seq ?_ | refine CW.block ?_ | refine CW.skip ?_ | refine CW.label ?_ | refine CW.exit ?_)
            first | refine CW.condP rfl (fun h => ?_) (fun h => ?_) | refine CW.cond rfl (fun h => ?_) (fun h => ?_)
            · cases h
            repeat (first | refine CW.seq ?_ | refine CW.block ?_ | refine CW.skip ?_ | refine CW.label ?_ | refine CW.exit ?_ | refine CW.condT rfl ?_ | refine CW.condF rfl ?_)
            refine CW.reg ?_
            refine WL.val rfl (run_move) ?_
            refine WL.val rfl (run_move) ?_
            refine WL.buildSlice (cs := [.int .i64 (hp.length : Nat)]) Tryd.underlying22 ty3 rfl (by decide) rfl (filled_s _ _ rfl) rfl hs (fun b75 w hs => ?_)
            have hsl1 : Sl w 1 (.slice (some ⟨b75, 0, none⟩) 1 1) 1 [.int .i64 (hp.length : Nat)] := .own1 hs rfl
            refine WL.append Tryd.underlying22 Tryd.underlying22 ty3 rfl (by decide) rfl rfl (hvh) ((hs.perm perm_p1)) (hsl1) (Cells1.of_all rfl) (by first | omega | (simp only [List.length_append, List.length_cons, List.length_nil]; omega)) rfl (fun v76 Lv76 w hv76 hs => ?_)
            refine WL.val rfl (run_assign) ?_
            refine WL.nil ?_
            replace hs := (hs.perm perm_p2).tail
            repeat (first | refine CW.seq ?_ | refine CW.block ?_ | refine CW.skip ?_ | refine CW.label ?_ | refine CW.exit ?_ | refine CW.condT rfl ?_ | refine CW.condF rfl ?_)
            refine CW.reg ?_
            refine WL.val rfl (run_move) ?_
            refine WL.buildSlice (cs := [.int .i64 0]) Tryd.underlying22 ty3 rfl (by decide) rfl (filled_s _ _ rfl) rfl hs (fun b78 w hs => ?_)
            have hsl1 : Sl w 1 (.slice (some ⟨b78, 0, none⟩) 1 1) 1 [.int .i64 0] := .own1 hs rfl
            refine WL.append Tryd.underlying22 Tryd.underlying22 ty3 rfl (by decide) rfl rfl (hvp) ((hs.perm perm_p3)) (hsl1) (Cells1.of_all rfl) (by first | omega | (simp only [List.length_append, List.length_cons, List.length_nil]; omega)) rfl (fun v79 Lv79 w hv79 hs => ?_)
            refine WL.val rfl (run_assign) ?_
            refine WL.nil ?_
            replace hs := (hs.perm perm_p3.symm).tail
            repeat (first | refine CW.seq ?_ | refine CW.block ?_ | refine CW.skip ?_ | refine CW.label ?_ | refine CW.exit ?_ | refine CW.condT rfl ?_ | refine CW.condF rfl ?_)
            refine CW.reg ?_
            refine WL.val rfl (run_move) ?_
            refine WL.val rfl (run_move) ?_
            refine WL.buildSlice (cs := [.int .i64 (m : Nat)]) Tryd.underlying22 ty3 rfl (by decide) rfl (filled_s _ _ rfl) rfl hs (fun b82 w hs => ?_)
            have hsl1 : Sl w 1 (.slice (some ⟨b82, 0, none⟩) 1 1) 1 [.int .i64 (m : Nat)] := .own1 hs rfl
            refine WL.append Tryd.underlying22 Tryd.underlying22 ty3 rfl (by decide) rfl rfl (hvk) ((hs.perm perm_p4)) (hsl1) (Cells1.of_all rfl) (by first | omega | (simp only [List.length_append, List.length_cons, List.length_nil]; omega)) rfl (fun v83 Lv83 w hv83 hs => ?_)
            refine WL.val rfl (run_assign) ?_
            refine WL.nil ?_
            replace hs := (hs.perm perm_p4.symm).tail
            repeat (first | refine CW.seq ?_ | refine CW.block ?_ | refine CW.skip ?_ | refine CW.label ?_ | refine CW.exit ?_ | refine CW.condT rfl ?_ | refine CW.condF rfl ?_)
            refine CW.reg ?_
            refine WL.val rfl (run_move) ?_
            refine WL.val rfl (run_add (c := ((hp.length + 1 : Nat) : Int)) rfl rfl (by omega) (by omega)) ?_
            refine WL.val rfl (run_assign) ?_
            refine WL.nil ?_
            have hl1 : (hp ++ [(0, m)]).length = hp.length + 1 := by simp
            repeat (first | refine CW.seq ?_ | refine CW.block ?_ | refine CW.skip ?_ | refine CW.label ?_ | refine CW.exit ?_)
            refine (show _ ∧ _ from ⟨rfl, _, ?_, hp ++ [(0, m)], [], L3, v76, v79, v83, Lv76, Lv79, Lv83, by omega, rfl, pk.add h20 hm13, .inl rfl, by rw [hA_add, List.append_nil]; exact hR3, by rw [hl1, nC_add]; exact hv76, by rw [hl1, pC_add]; exact hv79, by rw [hl1, kC_add]; exact hv83, hs, rfl, rfl, rfl, rfl, rfl, rfl, (congrArg (fun z : Nat => Value.int .i64 (z : Int)) hl1).symm, trivial⟩)
            omega
          · cases h
        · repeat (first | refine CW.seq ?_ | refine CW.block ?_ | refine CW.skip ?_ | refine CW.label ?_ | refine CW.exit ?_ | refine CW.condT rfl ?_ | refine CW.condF rfl ?_)
          refine CW.reg ?_
          refine WL.val rfl (run_move) ?_
          refine WL.val rfl (run_move) ?_
          refine WL.val rfl (run_lenSl Tryd.underlying22 rfl) ?_
          refine WL.val rfl (run_bT (run_lss rfl rfl) (by omega)) ?_
          refine WL.val rfl (run_move) ?_
          first | (refine WL.yes rfl rfl rfl ?_; refine WL.val rfl (run_move) ?_) | refine WL.no rfl rfl rfl (.inl rfl) ?_ | refine WL.no rfl rfl rfl (.inr rfl) ?_
          refine WL.yes rfl rfl rfl ?_
          refine WL.val rfl (run_bF (run_lss rfl rfl) (by omega)) ?_
          first | refine WL.val rfl (run_pickT rfl) ?_ | refine WL.val rfl (run_pickF rfl) ?_
          refine WL.nil ?_
          repeat (first | refine CW.seq ?_ | refine CW.block ?_ | refine CW.skip ?_ | refine CW.label ?_ | refine CW.exit ?_)
          first | refine CW.condP rfl (fun h => ?_) (fun h => ?_) | refine CW.cond rfl (fun h => ?_) (fun h => ?_)
          · cases h
          repeat (first | refine CW.seq ?_ | refine CW.block ?_ | refine CW.skip ?_ | refine CW.label ?_ | refine CW.exit ?_ | refine CW.condT rfl ?_ | refine CW.condF rfl ?_)
          exact ⟨rfl, hp, T, L, .slice ah hp.length ch, .slice ap hp.length cp, .slice ak hp.length ck, Lh, Lp, Lk, pk, hT, hR, hvh, hvp, hvk, hs, rfl, rfl, rfl, rfl, rfl, trivial⟩
      · repeat (first | refine CW.seq ?_ | refine CW.block ?_ | refine CW.skip ?_ | refine CW.label ?_ | refine CW.exit ?_ | refine CW.condT rfl ?_ | refine CW.condF rfl ?_)
        refine CW.reg ?_
        refine WL.val rfl (run_move) ?_
        refine WL.val rfl (run_move) ?_
        refine WL.val rfl (run_lenSl Tryd.underlying22 rfl) ?_
        refine WL.val rfl (run_bF (run_lss rfl rfl) (by omega)) ?_
        refine WL.val rfl (run_move) ?_
        first | (refine WL.yes rfl rfl rfl ?_; refine WL.val rfl (run_move) ?_) | refine WL.no rfl rfl rfl (.inl rfl) ?_ | refine WL.no rfl rfl rfl (.inr rfl) ?_
        first | (refine WL.yes rfl rfl rfl ?_; refine WL.val rfl (run_lss rfl rfl) ?_) | refine WL.no rfl rfl rfl (.inl rfl) ?_ | refine WL.no rfl rfl rfl (.inr rfl) ?_
        first | refine WL.val rfl (run_pickT rfl) ?_ | refine WL.val rfl (run_pickF rfl) ?_
        refine WL.nil ?_
        repeat (first | refine CW.seq ?_ | refine CW.block ?_ | refine CW.skip ?_ | refine CW.label ?_ | refine CW.exit ?_)
        first | refine CW.condP rfl (fun h => ?_) (fun h => ?_) | refine CW.cond rfl (fun h => ?_) (fun h => ?_)
        · cases h
        repeat (first | refine CW.seq ?_ | refine CW.block ?_ | refine CW.skip ?_ | refine CW.label ?_ | refine CW.exit ?_ | refine CW.condT rfl ?_ | refine CW.condF rfl ?_)
        exact ⟨rfl, hp, T, L, .slice ah hp.length ch, .slice ap hp.length cp, .slice ak hp.length ck, Lh, Lp, Lk, pk, hT, hR, hvh, hvp, hvk, hs, rfl, rfl, rfl, rfl, rfl, trivial⟩
  clear hs
  rintro f w ⟨hp0, T0, L0, vh, vp0, vk, Lh, Lp0, Lk, pk0, hT0, hR0, hvh, hvp0, hvk0, hs, hf⟩
  have hobt := hf.chain
  obtain ⟨g, rfl⟩ := hobt
  have hobt : ∃ n, hp0.length = n := ⟨_, rfl⟩
  obtain ⟨n, hn⟩ := hobt
  rw [hn] at hvh hvp0 hvk0
  repeat (first | refine CW.seq ?_ | refine CW.block ?_ | refine CW.skip ?_ | refine CW.label ?_ | refine CW.exit ?_ | refine CW.condT rfl ?_ | refine CW.condF rfl ?_)
  refine CW.reg ?_
  refine WL.val rfl (run_assign) ?_
  refine WL.nil ?_
  repeat (first | refine CW.seq ?_ | refine CW.block ?_ | refine CW.skip ?_ | refine CW.label ?_ | refine CW.exit ?_ | refine CW.condT rfl ?_ | refine CW.condF rfl ?_)
  refine CW.reg ?_
  refine WL.val rfl (run_assign) ?_
  refine WL.nil ?_
  repeat (first | refine CW.seq ?_ | refine CW.block ?_ | refine CW.skip ?_ | refine CW.label ?_ | refine CW.exit ?_ | refine CW.condT rfl ?_ | refine CW.condF rfl ?_)
  refine CW.loop (fun z f w => ∃ i hp x T L vx vp Lx Lp, i ≤ lc.length ∧ i ≤ 60 ∧ z = lc.length - i ∧ hp.length = n ∧ POk hp (100 * i) ∧ Tail1 T ∧ x.length ≤ 100 * i ∧ VRep bf (ks x (hA hp ++ T)) L ∧ OwnSl 5 1 vx x.length (u8s x) Lx ∧ OwnSl 3 1 vp n (pC hp) Lp ∧ OwnSl 3 1 vk n (kC hp) Lk ∧ Step [] (L ++ (Lx ++ (Lp ++ (Lh ++ Lk)))) w0 w ∧ Holds f [(1, .slice ac lc.length cc), (5, .pointer (some ⟨bf, 0, none⟩)), (8, vh), (9, vp), (10, vk), (15, vx), (16, .int .i64 i)]) (m := lc.length) ?_ ?_
  · exact ⟨0, hp0, [], T0, L0, _, vp0, [], Lp0, by omega, by omega, rfl, hn, pk0, hT0, by simp, hR0, OwnSl.nil _ _, hvp0, hvk0, hs.perm perm_q1, rfl, rfl, rfl, rfl, rfl, rfl, rfl, trivial⟩
  clear hs hR0 hvp0 hvk0 pk0 hT0 hn
  rintro z f w ⟨i, hp, x, T, L, vx, vp, Lx, Lp, hi, hi60, rfl, hpn, pk, hT, hxl, hR, hvx, hvp, hvk, hs, hf⟩
  have hobt := hf.chain
  obtain ⟨g, rfl⟩ := hobt
  have hobt := hvh.form
  obtain ⟨ah, ch, rfl⟩ := hobt
  have hobt := hvp.form
  obtain ⟨ap, cp, rfl⟩ := hobt
  have hobt := hvk.form
  obtain ⟨ak, ck, rfl⟩ := hobt
  have hobt := hvx.form
  obtain ⟨ax, cx, rfl⟩ := hobt
  have hnl : n ≤ 20 := by have := pk.len; omega
  by_cases hlt : i < lc.length
  · by_cases h60 : i < 60
    · by_cases hn0 : 0 < n
      · have hobt : ∃ c, lc[i]? = some c := ⟨_, List.getElem?_eq_getElem hlt⟩
        obtain ⟨c, hcx⟩ := hobt
        have hco := hc.ok c (List.mem_of_getElem? hcx)
        have hobt := hc.at hcx
        obtain ⟨bc, oc, cc0, hc0, hat⟩ := hobt
        injection hc0 with hc0 hc1 hc2
        subst hc0
        have hc1s := Cel.cells1 hco
        obtain ⟨hh, vb, b, cut⟩ := c
        have hobt := hco.hb.form
        obtain ⟨ab, cb, hvb⟩ := hobt
        have hvb : vb = .slice ab b.length cb := hvb
        subst hvb
        repeat (first | refine CW.seq ?_ | refine CW.block ?_ | refine CW.skip ?_ | refine CW.label ?_ | refine CW.exit ?_ | refine CW.condT rfl ?_ | refine CW.condF rfl ?_)
        refine CW.reg ?_
        refine WL.val rfl (run_move) ?_
        refine WL.val rfl (run_move) ?_
        refine WL.val rfl (run_lenSl Tryd.underlying23 rfl) ?_
        refine WL.val rfl (run_bT (run_lss rfl rfl) (by omega)) ?_
        refine WL.val rfl (run_move) ?_
        first | (refine WL.yes rfl rfl rfl ?_; refine WL.val rfl (run_move) ?_) | refine WL.no rfl rfl rfl (.inl rfl) ?_ | refine WL.no rfl rfl rfl (.inr rfl) ?_
        refine WL.yes rfl rfl rfl ?_
        refine WL.val rfl (run_bT (run_lss rfl rfl) (by omega)) ?_
        first | refine WL.val rfl (run_pickT rfl) ?_ | refine WL.val rfl (run_pickF rfl) ?_
        refine WL.val rfl (run_move) ?_
        first | (refine WL.yes rfl rfl rfl ?_; refine WL.val rfl (run_move) ?_) | refine WL.no rfl rfl rfl (.inl rfl) ?_ | refine WL.no rfl rfl rfl (.inr rfl) ?_
        first | (refine WL.yes rfl rfl rfl ?_; refine WL.val rfl (run_lenSl Tryd.underlying22 rfl) ?_) | refine WL.no rfl rfl rfl (.inl rfl) ?_ | refine WL.no rfl rfl rfl (.inr rfl) ?_
        refine WL.yes rfl rfl rfl ?_
        refine WL.val rfl (run_bT (run_gtr rfl rfl) (by omega)) ?_
        first | refine WL.val rfl (run_pickT rfl) ?_ | refine WL.val rfl (run_pickF rfl) ?_
        refine WL.nil ?_
        repeat (first | refine CW.seq ?_ | refine CW.block ?_ | refine CW.skip ?_ | refine CW.label ?_ | refine CW.exit ?_)
        first | refine CW.condP rfl (fun h => ?_) (fun h => ?_) | refine CW.cond rfl (fun h => ?_) (fun h => ?_)
        · repeat (first | refine CW.seq ?_ | refine CW.block ?_ | refine CW.skip ?_ | refine CW.label ?_ | refine CW.exit ?_ | refine CW.condT rfl ?_ | refine CW.condF rfl ?_)
          refine CW.reg ?_
          refine WL.val rfl (run_move) ?_
          refine WL.val rfl (run_move) ?_
          first | refine WL.val rfl (run_ixSlN Tryd.underlying23 ty36 rfl rfl (by omega)) ?_ | refine WL.val rfl (run_ixSl Tryd.underlying23 ty36 rfl rfl (by omega)) ?_
          refine WL.val rfl (run_loadN ty36 rfl rfl (hat.step hs (by simp))) ?_
          refine WL.alloc ty36 rfl hs (fun b17 w hs => ?_)
          first | refine WL.storeAll ty36 rfl rfl ((rfl)) (hc1s) hs (by first | rfl | assumption) (fun w hs => ?_) | refine WL.storeAll_1 ty36 rfl rfl ((rfl)) (hc1s) hs (by first | rfl | assumption) (fun w hs => ?_) | refine WL.storeAll_2 ty36 rfl rfl ((rfl)) (hc1s) hs (by first | rfl | assumption) (fun w hs => ?_) | refine WL.storeAll_3 ty36 rfl rfl ((rfl)) (hc1s) hs (by first | rfl | assumption) (fun w hs => ?_) | refine WL.storeAll_4 ty36 rfl rfl ((rfl)) (hc1s) hs (by first | rfl | assumption) (fun w hs => ?_) | refine WL.storeAll ty36 rfl rfl ((rfl)) (hc1s) hs (by first | rfl | assumption) (fun w hs => ?_)
          refine WL.nil ?_
          replace hs := hs.perm perm_p5
          have hcell := fun {A B C : List (Nat × Obj)} {w : World} (hs : Step [] (A ++ (B ++ (C ++ (b17, blk 36 [.int .i64 hh, .slice ab b.length cb, .bool cut]) :: (Lh ++ Lk)))) w0 w) => At.of_blk (hs.has (b17, blk 36 [.int .i64 hh, .slice ab b.length cb, .bool cut]) (by simp))
          have hbl := hco.lb
          by_cases hbig : 100 < b.length
          · repeat (first | refine CW.seq ?_ | refine CW.block ?_ | refine CW.skip ?_ | refine CW.label ?_ | refine CW.exit ?_ | refine CW.condT rfl ?_ | refine CW.condF rfl ?_)
            refine CW.reg ?_
            refine WL.val rfl (run_field (o' := 1) Tryd.underlying36 rfl ty34 rfl rfl rfl) ?_
            refine WL.val rfl (run_load1 ty34 rfl ((hcell hs).cell (j := 1) rfl)) ?_
            refine WL.val rfl (run_lenSl Tryd.underlying34 rfl) ?_
            refine WL.val rfl (run_bT (run_gtr rfl rfl) (by omega)) ?_
            refine WL.nil ?_
            repeat (first | refine CW.seq ?_ | refine CW.block ?_ | refine CW.skip ?_ | refine CW.label ?_ | refine CW.exit ?_)
            first | refine CW.condP rfl (fun h => ?_) (fun h => ?_) | refine CW.cond rfl (fun h => ?_) (fun h => ?_)
            · repeat (first | refine CW.seq ?_ | refine CW.block ?_ | refine CW.skip ?_ | refine CW.label ?_ | refine CW.exit ?_ | refine CW.condT rfl ?_ | refine CW.condF rfl ?_)
              refine CW.reg ?_
              refine WL.val rfl (run_move) ?_
              refine WL.val rfl (run_add (c := ((i + 1 : Nat) : Int)) rfl rfl (by omega) (by omega)) ?_
              refine WL.val rfl (run_assign) ?_
              refine WL.nil ?_
              repeat (first | refine CW.seq ?_ | refine CW.block ?_ | refine CW.skip ?_ | refine CW.label ?_ | refine CW.exit ?_)
              refine (show _ ∧ _ from ⟨rfl, _, ?_, i + 1, hp, x, T, L, .slice ax x.length cx, .slice ap n cp, Lx, Lp, by omega, by omega, rfl, hpn, pk.mono (by omega), hT, by omega, hR, hvx, hvp, hvk, (hs.perm perm_p5.symm).tail, rfl, rfl, rfl, rfl, rfl, rfl, rfl, trivial⟩)
              omega
            · cases h
          repeat (first | refine CW.seq ?_ | refine CW.block ?_ | refine CW.skip ?_ | refine CW.label ?_ | refine CW.exit ?_ | refine CW.condT rfl ?_ | refine CW.condF rfl ?_)
          refine CW.reg ?_
          refine WL.val rfl (run_field (o' := 1) Tryd.underlying36 rfl ty34 rfl rfl rfl) ?_
          refine WL.val rfl (run_load1 ty34 rfl ((hcell hs).cell (j := 1) rfl)) ?_
          refine WL.val rfl (run_lenSl Tryd.underlying34 rfl) ?_
          refine WL.val rfl (run_bF (run_gtr rfl rfl) (by omega)) ?_
          refine WL.nil ?_
          repeat (first | refine CW.seq ?_ | refine CW.block ?_ | refine CW.skip ?_ | refine CW.label ?_ | refine CW.exit ?_)
          first | refine CW.condP rfl (fun h => ?_) (fun h => ?_) | refine CW.cond rfl (fun h => ?_) (fun h => ?_)
          · cases h
          refine CW.skip ?_
          refine CW.seqM (fun f w => ∃ x T L vx Lx, Tail1 T ∧ x.length ≤ 100 * i ∧ VRep bf (ks x (hA hp ++ T)) L ∧ OwnSl 5 1 vx x.length (u8s x) Lx ∧ Step [] (L ++ (Lx ++ (Lp ++ (b17, blk 36 [.int .i64 hh, .slice ab b.length cb, .bool cut]) :: (Lh ++ Lk)))) w0 w ∧ Holds f [(1, .slice (some ⟨bc, oc, none⟩) lc.length cc), (5, .pointer (some ⟨bf, 0, none⟩)), (8, .slice ah n ch), (9, .slice ap n cp), (10, .slice ak n ck), (15, vx), (16, .int .i64 i), (17, .pointer (some ⟨b17, 0, none⟩))]) ?_ ?_
          · cases cut with
            | true =>
              repeat (first | refine CW.seq ?_ | refine CW.block ?_ | refine CW.skip ?_ | refine CW.label ?_ | refine CW.exit ?_ | refine CW.condT rfl ?_ | refine CW.condF rfl ?_)
              refine CW.reg ?_
              refine WL.val rfl (run_field (o' := 2) Tryd.underlying36 rfl ty4 rfl rfl rfl) ?_
              refine WL.val rfl (run_load1 ty4 rfl ((hcell hs).cell (j := 2) rfl)) ?_
              refine WL.nil ?_
              repeat (first | refine CW.seq ?_ | refine CW.block ?_ | refine CW.skip ?_ | refine CW.label ?_ | refine CW.exit ?_)
              first | refine CW.condP rfl (fun h => ?_) (fun h => ?_) | refine CW.cond rfl (fun h => ?_) (fun h => ?_)
              · repeat (first | refine CW.seq ?_ | refine CW.block ?_ | refine CW.skip ?_ | refine CW.label ?_ | refine CW.exit ?_ | refine CW.condT rfl ?_ | refine CW.condF rfl ?_)
                refine CW.reg ?_
                refine WL.val rfl (run_move) ?_
                refine WL.enter rfl (run_call en9 rfl rfl) (kcut_spec pk (by omega) hT (by omega) hR (hg.stepS hs (by simp)) (hs.dropR.zero (by simp) hg) hs.own) ?_
                rintro e w ⟨L3, rfl, hR3, hq⟩
                refine ⟨_, rfl, ?_⟩
                replace hs := hs.call hq
                refine WL.val rfl (run_move) ?_
                refine WL.val rfl (run_extract rfl rfl) ?_
                refine WL.val rfl (run_extract rfl rfl) ?_
                refine WL.val rfl (run_assign) ?_
                refine WL.val rfl (run_assign) ?_
                refine WL.nil ?_
                repeat (first | refine CW.seq ?_ | refine CW.block ?_ | refine CW.skip ?_ | refine CW.label ?_ | refine CW.exit ?_ | refine CW.condT rfl ?_ | refine CW.condF rfl ?_)
                refine CW.reg ?_
                refine WL.val rfl (run_move) ?_
                refine WL.val rfl (run_bF (run_neq rfl rfl) (by decide)) ?_
                refine WL.val rfl (run_move) ?_
                first | (refine WL.yes rfl rfl rfl ?_; refine WL.val rfl (run_move) ?_) | refine WL.no rfl rfl rfl (.inl rfl) ?_ | refine WL.no rfl rfl rfl (.inr rfl) ?_
                first | (refine WL.yes rfl rfl rfl ?_; refine WL.val rfl (run_move) ?_) | refine WL.no rfl rfl rfl (.inl rfl) ?_ | refine WL.no rfl rfl rfl (.inr rfl) ?_
                refine WL.yes rfl rfl rfl ?_
                refine WL.enter rfl (run_call en10 rfl rfl) (kclose_spec pk (by omega) (by simp) (by omega) hR3 hs.own) ?_
                rintro e w ⟨L4, rfl, hR4, hq⟩
                refine ⟨_, rfl, ?_⟩
                replace hs := hs.call hq
                refine WL.yes rfl rfl rfl ?_
                refine WL.val rfl (run_bF (run_neq rfl rfl) (by decide)) ?_
                first | refine WL.val rfl (run_pickT rfl) ?_ | refine WL.val rfl (run_pickF rfl) ?_
                refine WL.nil ?_
                repeat (first | refine CW.seq ?_ | refine CW.block ?_ | refine CW.skip ?_ | refine CW.label ?_ | refine CW.exit ?_)
                first | refine CW.condP rfl (fun h => ?_) (fun h => ?_) | refine CW.cond rfl (fun h => ?_) (fun h => ?_)
                · cases h
                repeat (first | refine CW.seq ?_ | refine CW.block ?_ | refine CW.skip ?_ | refine CW.label ?_ | refine CW.exit ?_ | refine CW.condT rfl ?_ | refine CW.condF rfl ?_)
                refine CW.reg ?_
                refine WL.val rfl (run_assign) ?_
                refine WL.nil ?_
                repeat (first | refine CW.seq ?_ | refine CW.block ?_ | refine CW.skip ?_ | refine CW.label ?_ | refine CW.exit ?_ | refine CW.condT rfl ?_ | refine CW.condF rfl ?_)
                exact ⟨rfl, [], [none], L4, .slice none 0 0, [], .inr rfl, by simp, hR4, OwnSl.nil _ _, (hs.perm (List.perm_append_comm_assoc _ _ _)).dropL, rfl, rfl, rfl, rfl, rfl, rfl, rfl, rfl, trivial⟩
              · cases h
            | false =>
              repeat (first | refine CW.seq ?_ | refine CW.block ?_ | refine CW.skip ?_ | refine CW.label ?_ | refine CW.exit ?_ | refine CW.condT rfl ?_ | refine CW.condF rfl ?_)
              refine CW.reg ?_
              refine WL.val rfl (run_field (o' := 2) Tryd.underlying36 rfl ty4 rfl rfl rfl) ?_
              refine WL.val rfl (run_load1 ty4 rfl ((hcell hs).cell (j := 2) rfl)) ?_
              refine WL.nil ?_
              repeat (first | refine CW.seq ?_ | refine CW.block ?_ | refine CW.skip ?_ | refine CW.label ?_ | refine CW.exit ?_)
              first | refine CW.condP rfl (fun h => ?_) (fun h => ?_) | refine CW.cond rfl (fun h => ?_) (fun h => ?_)
              · cases h
              repeat (first | refine CW.seq ?_ | refine CW.block ?_ | refine CW.skip ?_ | refine CW.label ?_ | refine CW.exit ?_ | refine CW.condT rfl ?_ | refine CW.condF rfl ?_)
              exact ⟨rfl, x, T, L, .slice ax x.length cx, Lx, hT, hxl, hR, hvx, hs, rfl, rfl, rfl, rfl, rfl, rfl, rfl, rfl, trivial⟩
          clear hs hR hvx hxl hT
          rintro f w ⟨x, T, L, vx, Lx, hT, hxl, hR, hvx, hs, hf⟩
          have hobt := hf.chain
          obtain ⟨g, rfl⟩ := hobt
          have hobt := hvx.form
          obtain ⟨ax, cx, rfl⟩ := hobt
          have hk1 := hco.k1
          have hk2 := hco.k2
          have hr1 : hh.tmod n < n := Int.tmod_lt_of_pos _ (by omega)
          have hr2 : -(n : Int) < hh.tmod n := Int.lt_tmod_of_pos _ (by omega)
          refine CW.seq ?_
          repeat (first | refine CW.seq ?_ | refine CW.block ?_ | refine CW.skip ?_ | refine CW.label ?_ | refine CW.exit ?_ | refine CW.condT rfl ?_ | refine CW.condF rfl ?_)
          refine CW.reg ?_
          refine WL.val rfl (run_field (o' := 0) Tryd.underlying36 rfl ty3 rfl rfl rfl) ?_
          refine WL.val rfl (run_load1 ty3 rfl ((hcell hs).cell (j := 0) rfl)) ?_
          refine WL.val rfl (run_move) ?_
          refine WL.val rfl (run_lenSl Tryd.underlying22 rfl) ?_
          refine WL.val rfl (run_rem rfl rfl (by omega)) ?_
          refine WL.val rfl (run_assign) ?_
          refine WL.nil ?_
          refine CW.seqM (fun f w => ∃ a : Nat, a < n ∧ Step [] (L ++ (Lx ++ (Lp ++ (b17, blk 36 [.int .i64 hh, .slice ab b.length cb, .bool cut]) :: (Lh ++ Lk)))) w0 w ∧ Holds f [(1, .slice (some ⟨bc, oc, none⟩) lc.length cc), (5, .pointer (some ⟨bf, 0, none⟩)), (8, .slice ah n ch), (9, .slice ap n cp), (10, .slice ak n ck), (15, .slice ax x.length cx), (16, .int .i64 i), (17, .pointer (some ⟨b17, 0, none⟩)), (20, .int .i64 a)]) ?_ ?_
          · by_cases hneg : hh.tmod n < 0
            · repeat (first | refine CW.seq ?_ | refine CW.block ?_ | refine CW.skip ?_ | refine CW.label ?_ | refine CW.exit ?_ | refine CW.condT rfl ?_ | refine CW.condF rfl ?_)
              refine CW.reg ?_
              refine WL.val rfl (run_move) ?_
              refine WL.val rfl (run_bT (run_lss rfl rfl) (by exact hneg)) ?_
              refine WL.nil ?_
              repeat (first | refine CW.seq ?_ | refine CW.block ?_ | refine CW.skip ?_ | refine CW.label ?_ | refine CW.exit ?_)
              first | refine CW.condP rfl (fun h => ?_) (fun h => ?_) | refine CW.cond rfl (fun h => ?_) (fun h => ?_)
              · repeat (first | refine CW.seq ?_ | refine CW.block ?_ | refine CW.skip ?_ | refine CW.label ?_ | refine CW.exit ?_ | refine CW.condT rfl ?_ | refine CW.condF rfl ?_)
                refine CW.reg ?_
                refine WL.val rfl (run_move) ?_
                refine WL.val rfl (run_move) ?_
                refine WL.val rfl (run_lenSl Tryd.underlying22 rfl) ?_
                refine WL.val rfl (run_add (c := ((hh.tmod n + n).toNat : Int)) rfl rfl (by omega) (by omega)) ?_
                refine WL.val rfl (run_assign) ?_
                refine WL.nil ?_
                repeat (first | refine CW.seq ?_ | refine CW.block ?_ | refine CW.skip ?_ | refine CW.label ?_ | refine CW.exit ?_ | refine CW.condT rfl ?_ | refine CW.condF rfl ?_)
                exact ⟨rfl, (hh.tmod n + n).toNat, by omega, hs, rfl, rfl, rfl, rfl, rfl, rfl, rfl, rfl, rfl, trivial⟩
              · cases h
            · have hv : Value.int .i64 (hh.tmod n) = .int .i64 ((hh.tmod n).toNat : Nat) := congrArg (Value.int .i64) (by omega)
              repeat (first | refine CW.seq ?_ | refine CW.block ?_ | refine CW.skip ?_ | refine CW.label ?_ | refine CW.exit ?_ | refine CW.condT rfl ?_ | refine CW.condF rfl ?_)
              refine CW.reg ?_
              refine WL.val rfl (run_move) ?_
              refine WL.val rfl (run_bF (run_lss rfl rfl) (by exact hneg)) ?_
              refine WL.nil ?_
              repeat (first | refine CW.seq ?_ | refine CW.block ?_ | refine CW.skip ?_ | refine CW.label ?_ | refine CW.exit ?_)
              first | refine CW.condP rfl (fun h => ?_) (fun h => ?_) | refine CW.cond rfl (fun h => ?_) (fun h => ?_)
              · cases h
              repeat (first | refine CW.seq ?_ | refine CW.block ?_ | refine CW.skip ?_ | refine CW.label ?_ | refine CW.exit ?_ | refine CW.condT rfl ?_ | refine CW.condF rfl ?_)
              exact ⟨rfl, (hh.tmod n).toNat, by omega, hs, rfl, rfl, rfl, rfl, rfl, rfl, rfl, rfl, hv, trivial⟩
          clear hs hr1 hr2
          rintro f w ⟨a, han, hs, hf⟩
          have hobt := hf.chain
          obtain ⟨g, rfl⟩ := hobt
          obtain ⟨⟨q, m⟩, hpi⟩ : ∃ e, hp[a]? = some e := ⟨_, List.getElem?_eq_getElem (by omega)⟩
          have hobt := pk.at_ _ (List.mem_of_getElem? hpi)
          obtain ⟨hqb, hm13⟩ := hobt
          have hqb : q ≤ 100 * i := hqb
          have hm13 : m = 1 ∨ m = 3 := hm13
          have hal : a < hp.length := by omega
          have hobt := hvh.some1 hn0
          obtain ⟨bh, caph, mh, hqh, hLh, hch⟩ := hobt
          injection hqh with e1 e2 e3
          subst e1
          subst e3
          subst hLh
          have hobt := hvp.some1 hn0
          obtain ⟨bp, capp, mp, hqp, hLp, hcp⟩ := hobt
          injection hqp with e4 e5 e6
          subst e4
          subst e6
          subst hLp
          have hobt := hvk.some1 hn0
          obtain ⟨bk, capk, mk, hqk, hLk, hck⟩ := hobt
          injection hqk with e7 e8 e9
          subst e7
          subst e9
          subst hLk
          have hwr := fun {w} (hs : Step [] (L ++ (Lx ++ ([(bp, blk 3 (pC hp ++ mp))] ++ (b17, blk 36 [.int .i64 hh, .slice ab b.length cb, .bool cut]) :: ([(bh, blk 3 (nC n ++ mh))] ++ [(bk, blk 3 (kC hp ++ mk))])))) w0 w) => kwrite_spec (w := w) (i := a) (y := b) pk (by omega) hT hxl hR hs.own hpi (by omega) (fun h => hco.hb.step0 (hs.call h))
          have hobt : ∃ fr, (if m = 3 then x.length else q) = fr := ⟨_, rfl⟩
          obtain ⟨fr, hfr⟩ := hobt
          simp only [hfr] at hwr
          have hfrb : fr ≤ 100 * i := by rw [← hfr]; split <;> omega
          repeat (first | refine CW.seq ?_ | refine CW.block ?_ | refine CW.skip ?_ | refine CW.label ?_ | refine CW.exit ?_ | refine CW.condT rfl ?_ | refine CW.condF rfl ?_)
          refine CW.quietT (l1 := [_, _, _, _, _, _, _]) (l2 := [_, _]) 7 rfl mixedP rfl (by kernel_rfl) hs ?_
          refine QL.val rfl (fun w hs => run_move) ?_
          refine QL.val rfl (fun w hs => run_move) ?_
          refine QL.val rfl (fun w hs => run_move) ?_
          first | refine QL.val rfl (fun w hs => run_ixSlN Tryd.underlying22 ty3 rfl rfl (by omega)) ?_ | refine QL.val rfl (fun w hs => run_ixSl Tryd.underlying22 ty3 rfl rfl (by omega)) ?_
          refine QL.val rfl (fun w hs => run_load1 ty3 rfl (cellIn (E := 3) (more := mh) hs (by simp) (nC_get han))) ?_
          refine QL.val rfl (fun w hs => run_field (o' := 1) Tryd.underlying36 rfl ty34 rfl rfl rfl) ?_
          refine QL.val rfl (fun w hs => run_load1 ty34 rfl ((hcell hs).cell (j := 1) rfl)) ?_
          refine QL.nil (fun w hs => ?_)
          refine WL.enter rfl (run_call en11 rfl rfl) (hwr hs) ?_
          rintro e w ⟨L4, rfl, hR4, hq⟩
          refine ⟨_, rfl, ?_⟩
          replace hs := hs.call hq
          refine WL.val rfl (run_bF (run_neq rfl rfl) (by decide)) ?_
          refine WL.nil ?_
          repeat (first | refine CW.seq ?_ | refine CW.block ?_ | refine CW.skip ?_ | refine CW.label ?_ | refine CW.exit ?_)
          first | refine CW.condP rfl (fun h => ?_) (fun h => ?_) | refine CW.cond rfl (fun h => ?_) (fun h => ?_)
          · cases h
          refine CW.skip ?_
          have hlp : (pC hp ++ mp).length = hp.length + mp.length := by simp [pC]
          refine CW.seqM (fun f w => ∃ hp' x' vx' Lx' L', POk hp' (100 * (i + 1)) ∧ hp'.length = n ∧ kC hp' = kC hp ∧ x'.length ≤ 100 * (i + 1) ∧ VRep bf (ks x' (hA hp' ++ T)) L' ∧ OwnSl 5 1 vx' x'.length (u8s x') Lx' ∧ (pC hp' ++ mp).length = cp * 1 ∧ Step [] (L' ++ (Lx' ++ ([(bp, blk 3 (pC hp' ++ mp))] ++ ((b17, blk 36 [.int .i64 hh, .slice ab b.length cb, .bool cut]) :: ([(bh, blk 3 (nC n ++ mh))] ++ [(bk, blk 3 (kC hp ++ mk))]))))) w0 w ∧ Holds f [(1, .slice (some ⟨bc, oc, none⟩) lc.length cc), (5, .pointer (some ⟨bf, 0, none⟩)), (8, .slice (some ⟨bh, 0, none⟩) n ch), (9, .slice (some ⟨bp, 0, none⟩) n cp), (10, .slice (some ⟨bk, 0, none⟩) n ck), (15, vx'), (16, .int .i64 i)]) ?_ ?_
          · by_cases hb0 : b = []
            · rw [if_pos hb0] at hR4
              have hbl0 : b.length = 0 := by rw [hb0]; rfl
              repeat (first | refine CW.seq ?_ | refine CW.block ?_ | refine CW.skip ?_ | refine CW.label ?_ | refine CW.exit ?_ | refine CW.condT rfl ?_ | refine CW.condF rfl ?_)
              refine CW.reg ?_
              refine WL.val rfl (run_field (o' := 1) Tryd.underlying36 rfl ty34 rfl rfl rfl) ?_
              refine WL.val rfl (run_load1 ty34 rfl ((hcell hs).cell (j := 1) rfl)) ?_
              refine WL.val rfl (run_lenSl Tryd.underlying34 rfl) ?_
              refine WL.val rfl (run_bF (run_gtr rfl rfl) (by omega)) ?_
              refine WL.nil ?_
              repeat (first | refine CW.seq ?_ | refine CW.block ?_ | refine CW.skip ?_ | refine CW.label ?_ | refine CW.exit ?_)
              first | refine CW.condP rfl (fun h => ?_) (fun h => ?_) | refine CW.cond rfl (fun h => ?_) (fun h => ?_)
              · cases h
              repeat (first | refine CW.seq ?_ | refine CW.block ?_ | refine CW.skip ?_ | refine CW.label ?_ | refine CW.exit ?_ | refine CW.condT rfl ?_ | refine CW.condF rfl ?_)
              exact ⟨rfl, hp, x, .slice ax x.length cx, Lx, L4, pk.mono (by omega), hpn, rfl, by omega, hR4, hvx, hcp, hs, rfl, rfl, rfl, rfl, rfl, rfl, rfl, trivial⟩
            have hbl0 : 0 < b.length := List.length_pos_iff.2 hb0
            rw [if_neg hb0] at hR4
            have hobt := hco.hb.based hbl0
            obtain ⟨bb, ob, cb2, hq0, hbat⟩ := hobt
            injection hq0 with e10 e11 e12
            subst e10
            subst e12
            repeat (first | refine CW.seq ?_ | refine CW.block ?_ | refine CW.skip ?_ | refine CW.label ?_ | refine CW.exit ?_ | refine CW.condT rfl ?_ | refine CW.condF rfl ?_)
            refine CW.reg ?_
            refine WL.val rfl (run_field (o' := 1) Tryd.underlying36 rfl ty34 rfl rfl rfl) ?_
            refine WL.val rfl (run_load1 ty34 rfl ((hcell hs).cell (j := 1) rfl)) ?_
            refine WL.val rfl (run_lenSl Tryd.underlying34 rfl) ?_
            refine WL.val rfl (run_bT (run_gtr rfl rfl) (by omega)) ?_
            refine WL.nil ?_
            repeat (first | refine CW.seq ?_ | refine CW.block ?_ | refine CW.skip ?_ | refine CW.label ?_ | refine CW.exit ?_)
            first | refine CW.condP rfl (fun h => ?_) (fun h => ?_) | refine CW.cond rfl (fun h => ?_) (fun h => ?_)
            · clear hwr
              replace hs := hs.perm perm_q2
              refine CW.seqM (fun f w => Step [] ((bp, blk 3 (pC (hp.set a (fr, m)) ++ mp)) :: (Lx ++ (L4 ++ ((b17, blk 36 [.int .i64 hh, .slice (some ⟨bb, ob, none⟩) b.length cb, .bool cut]) :: ([(bh, blk 3 (nC n ++ mh))] ++ [(bk, blk 3 (kC hp ++ mk))]))))) w0 w ∧ Holds f [(1, .slice (some ⟨bc, oc, none⟩) lc.length cc), (5, .pointer (some ⟨bf, 0, none⟩)), (8, .slice (some ⟨bh, 0, none⟩) n ch), (9, .slice (some ⟨bp, 0, none⟩) n cp), (10, .slice (some ⟨bk, 0, none⟩) n ck), (15, .slice ax x.length cx), (16, .int .i64 i), (17, .pointer (some ⟨b17, 0, none⟩)), (20, .int .i64 a)]) ?_ ?_
              · have hst := pset (q := fr) (m := m) (mp := mp) hal
                by_cases h3 : m = 3
                · rw [if_pos h3] at hfr
                  repeat (first | refine CW.seq ?_ | refine CW.block ?_ | refine CW.skip ?_ | refine CW.label ?_ | refine CW.exit ?_ | refine CW.condT rfl ?_ | refine CW.condF rfl ?_)
                  refine CW.reg ?_
                  refine WL.val rfl (run_move) ?_
                  refine WL.val rfl (run_move) ?_
                  first | refine WL.val rfl (run_ixSlN Tryd.underlying22 ty3 rfl rfl (by omega)) ?_ | refine WL.val rfl (run_ixSl Tryd.underlying22 ty3 rfl rfl (by omega)) ?_
                  refine WL.val rfl (run_load1 ty3 rfl (cellIn (E := 3) (more := mk) hs (by simp) (kC_get hpi))) ?_
                  refine WL.val rfl (run_bT (run_eql rfl rfl) (by omega)) ?_
                  refine WL.nil ?_
                  repeat (first | refine CW.seq ?_ | refine CW.block ?_ | refine CW.skip ?_ | refine CW.label ?_ | refine CW.exit ?_)
                  first | refine CW.condP rfl (fun h => ?_) (fun h => ?_) | refine CW.cond rfl (fun h => ?_) (fun h => ?_)
                  · repeat (first | refine CW.seq ?_ | refine CW.block ?_ | refine CW.skip ?_ | refine CW.label ?_ | refine CW.exit ?_ | refine CW.condT rfl ?_ | refine CW.condF rfl ?_)
                    refine CW.reg ?_
                    refine WL.val rfl (run_move) ?_
                    refine WL.val rfl (run_move) ?_
                    refine WL.val rfl (run_move) ?_
                    refine WL.val rfl (run_lenSl Tryd.underlying34 rfl) ?_
                    first | refine WL.val rfl (run_ixSlN Tryd.underlying22 ty3 rfl rfl (by omega)) ?_ | refine WL.val rfl (run_ixSl Tryd.underlying22 ty3 rfl rfl (by omega)) ?_
                    first | refine WL.store1 ty3 rfl rfl (rfl) hs (by first | (simp; done) | omega | (simp only [List.length_append, List.length_replicate, List.length_cons, List.length_nil, List.length_set]; omega) | (simp [Ent.cells, u8s]; done) | exact Nat.le_of_ble_eq_true rfl) (fun w hs => ?_) | refine WL.store1_1 ty3 rfl rfl (rfl) hs (by first | (simp; done) | omega | (simp only [List.length_append, List.length_replicate, List.length_cons, List.length_nil, List.length_set]; omega) | (simp [Ent.cells, u8s]; done) | exact Nat.le_of_ble_eq_true rfl) (fun w hs => ?_) | refine WL.store1_2 ty3 rfl rfl (rfl) hs (by first | (simp; done) | omega | (simp only [List.length_append, List.length_replicate, List.length_cons, List.length_nil, List.length_set]; omega) | (simp [Ent.cells, u8s]; done) | exact Nat.le_of_ble_eq_true rfl) (fun w hs => ?_) | refine WL.store1_3 ty3 rfl rfl (rfl) hs (by first | (simp; done) | omega | (simp only [List.length_append, List.length_replicate, List.length_cons, List.length_nil, List.length_set]; omega) | (simp [Ent.cells, u8s]; done) | exact Nat.le_of_ble_eq_true rfl) (fun w hs => ?_) | refine WL.store1_4 ty3 rfl rfl (rfl) hs (by first | (simp; done) | omega | (simp only [List.length_append, List.length_replicate, List.length_cons, List.length_nil, List.length_set]; omega) | (simp [Ent.cells, u8s]; done) | exact Nat.le_of_ble_eq_true rfl) (fun w hs => ?_) | refine WL.store1 ty3 rfl rfl (rfl) hs (by first | (simp; done) | omega | (simp only [List.length_append, List.length_replicate, List.length_cons, List.length_nil, List.length_set]; omega) | (simp [Ent.cells, u8s]; done) | exact Nat.le_of_ble_eq_true rfl) (fun w hs => ?_)
                    refine WL.nil ?_
                    repeat (first | refine CW.seq ?_ | refine CW.block ?_ | refine CW.skip ?_ | refine CW.label ?_ | refine CW.exit ?_ | refine CW.condT rfl ?_ | refine CW.condF rfl ?_)
                    refine ⟨rfl, ?_, rfl, rfl, rfl, rfl, rfl, rfl, rfl, rfl, rfl, trivial⟩
                    rw [← hst, ← hfr]
                    exact hs
                  · cases h
                · rw [if_neg h3] at hfr
                  repeat (first | refine CW.seq ?_ | refine CW.block ?_ | refine CW.skip ?_ | refine CW.label ?_ | refine CW.exit ?_ | refine CW.condT rfl ?_ | refine CW.condF rfl ?_)
                  refine CW.reg ?_
                  refine WL.val rfl (run_move) ?_
                  refine WL.val rfl (run_move) ?_
                  first | refine WL.val rfl (run_ixSlN Tryd.underlying22 ty3 rfl rfl (by omega)) ?_ | refine WL.val rfl (run_ixSl Tryd.underlying22 ty3 rfl rfl (by omega)) ?_
                  refine WL.val rfl (run_load1 ty3 rfl (cellIn (E := 3) (more := mk) hs (by simp) (kC_get hpi))) ?_
                  refine WL.val rfl (run_bF (run_eql rfl rfl) (by omega)) ?_
                  refine WL.nil ?_
                  repeat (first | refine CW.seq ?_ | refine CW.block ?_ | refine CW.skip ?_ | refine CW.label ?_ | refine CW.exit ?_)
                  first | refine CW.condP rfl (fun h => ?_) (fun h => ?_) | refine CW.cond rfl (fun h => ?_) (fun h => ?_)
                  · cases h
                  repeat (first | refine CW.seq ?_ | refine CW.block ?_ | refine CW.skip ?_ | refine CW.label ?_ | refine CW.exit ?_ | refine CW.condT rfl ?_ | refine CW.condF rfl ?_)
                  refine ⟨rfl, ?_, rfl, rfl, rfl, rfl, rfl, rfl, rfl, rfl, rfl, trivial⟩
                  rw [← hfr, set_same hpi]
                  exact hs
              clear hs
              rintro f w ⟨hs, hf⟩
              have hobt := hf.chain
              obtain ⟨g, rfl⟩ := hobt
              have hp1 : (hp.set a (fr, m))[a]? = some (fr, m) := List.getElem?_set_self hal
              have hlp1 : (pC (hp.set a (fr, m)) ++ mp).length = hp.length + mp.length := by simp [pC]
              have hobt : ∃ l, b.length = l := ⟨_, rfl⟩
              obtain ⟨l, hl⟩ := hobt
              refine CW.seqM (fun f w => ∃ vx Lx, OwnSl 5 1 vx (x ++ List.replicate (fr + b.length - x.length) 0).length (u8s (x ++ List.replicate (fr + b.length - x.length) 0)) Lx ∧ Step [] ((bp, blk 3 (pC (hp.set a (fr, m)) ++ mp)) :: (Lx ++ (L4 ++ ((b17, blk 36 [.int .i64 hh, .slice (some ⟨bb, ob, none⟩) b.length cb, .bool cut]) :: ([(bh, blk 3 (nC n ++ mh))] ++ [(bk, blk 3 (kC hp ++ mk))]))))) w0 w ∧ Holds f [(1, .slice (some ⟨bc, oc, none⟩) lc.length cc), (5, .pointer (some ⟨bf, 0, none⟩)), (8, .slice (some ⟨bh, 0, none⟩) n ch), (9, .slice (some ⟨bp, 0, none⟩) n cp), (10, .slice (some ⟨bk, 0, none⟩) n ck), (15, vx), (16, .int .i64 i), (17, .pointer (some ⟨b17, 0, none⟩)), (20, .int .i64 a)]) ?_ ?_
              · repeat (first | refine CW.seq ?_ | refine CW.block ?_ | refine CW.skip ?_ | refine CW.label ?_ | refine CW.exit ?_ | refine CW.condT rfl ?_ | refine CW.condF rfl ?_)
                refine CW.loop (fun z f w => ∃ j vx Lx, z = fr + b.length - (x.length + j) ∧ j ≤ fr + b.length - x.length ∧ OwnSl 5 1 vx (x ++ List.replicate j 0).length (u8s (x ++ List.replicate j 0)) Lx ∧ Step [] ((bp, blk 3 (pC (hp.set a (fr, m)) ++ mp)) :: (Lx ++ (L4 ++ ((b17, blk 36 [.int .i64 hh, .slice (some ⟨bb, ob, none⟩) b.length cb, .bool cut]) :: ([(bh, blk 3 (nC n ++ mh))] ++ [(bk, blk 3 (kC hp ++ mk))]))))) w0 w ∧ Holds f [(1, .slice (some ⟨bc, oc, none⟩) lc.length cc), (5, .pointer (some ⟨bf, 0, none⟩)), (8, .slice (some ⟨bh, 0, none⟩) n ch), (9, .slice (some ⟨bp, 0, none⟩) n cp), (10, .slice (some ⟨bk, 0, none⟩) n ck), (15, vx), (16, .int .i64 i), (17, .pointer (some ⟨b17, 0, none⟩)), (20, .int .i64 a)]) (m := fr + b.length - x.length) ?_ ?_
                · refine ⟨0, .slice ax x.length cx, Lx, by omega, by omega, ?_, hs, rfl, rfl, rfl, rfl, rfl, rfl, rfl, rfl, rfl, trivial⟩
                  rw [List.replicate_zero, List.append_nil]
                  exact hvx
                · clear hs hvx
                  rintro z f w ⟨j, vx, Lx, rfl, hj, hvx, hs, hf⟩
                  have hobt := hf.chain
                  obtain ⟨g, rfl⟩ := hobt
                  have hxj : (x ++ List.replicate j (0 : UInt8)).length = x.length + j := by simp
                  rw [hxj] at hvx
                  have hobt := hvx.form
                  obtain ⟨ax, cx, rfl⟩ := hobt
                  by_cases hlt2 : x.length + j < fr + b.length
                  · have hxj1 : (x ++ List.replicate (j + 1) (0 : UInt8)).length = x.length + j + 1 := by simp; omega
                    have hu1 : u8s (x ++ List.replicate (j + 1) 0) = u8s (x ++ List.replicate j 0) ++ [.int .u8 0] := by
                      rw [List.replicate_succ', ← List.append_assoc]
                      simp [u8s]
                    repeat (first | refine CW.seq ?_ | refine CW.block ?_ | refine CW.skip ?_ | refine CW.label ?_ | refine CW.exit ?_ | refine CW.condT rfl ?_ | refine CW.condF rfl ?_)
                    refine CW.quiet mixedP (by kernel_rfl) hs ?_
                    refine QL.val rfl (fun w hs => run_move) ?_
                    refine QL.val rfl (fun w hs => run_lenSl Tryd.underlying34 rfl) ?_
                    refine QL.val rfl (fun w hs => run_move) ?_
                    refine QL.val rfl (fun w hs => run_move) ?_
                    first | refine QL.val rfl (fun w hs => run_ixSlN Tryd.underlying22 ty3 rfl rfl (by omega)) ?_ | refine QL.val rfl (fun w hs => run_ixSl Tryd.underlying22 ty3 rfl rfl (by omega)) ?_
                    refine QL.val rfl (fun w hs => run_load1 ty3 rfl (cellIn (E := 3) (more := mp) hs (by simp) (pC_get hp1))) ?_
                    refine QL.val rfl (fun w hs => run_field (o' := 1) Tryd.underlying36 rfl ty34 rfl rfl rfl) ?_
                    refine QL.val rfl (fun w hs => run_load1 ty34 rfl ((hcell (A := [_]) (B := Lx) (C := L4) hs).cell (j := 1) rfl)) ?_
                    refine QL.val rfl (fun w hs => run_lenSl Tryd.underlying34 rfl) ?_
                    refine QL.val rfl (fun w hs => run_add (c := ((fr + b.length : Nat) : Int)) rfl rfl (by omega) (by omega)) ?_
                    refine QL.val rfl (fun w hs => run_bT (run_lss rfl rfl) (by omega)) ?_
                    refine QL.nil (fun w hs => ?_)
                    repeat (first | refine CW.seq ?_ | refine CW.block ?_ | refine CW.skip ?_ | refine CW.label ?_ | refine CW.exit ?_)
                    first | refine CW.condP rfl (fun h => ?_) (fun h => ?_) | refine CW.cond rfl (fun h => ?_) (fun h => ?_)
                    · repeat (first | refine CW.seq ?_ | refine CW.block ?_ | refine CW.skip ?_ | refine CW.label ?_ | refine CW.exit ?_ | refine CW.condT rfl ?_ | refine CW.condF rfl ?_)
                      refine CW.reg ?_
                      refine WL.val rfl (run_move) ?_
                      refine WL.buildSlice (cs := [.int .u8 0]) Tryd.underlying34 ty5 rfl (by decide) rfl (filled_s _ _ rfl) rfl hs (fun b168 w hs => ?_)
                      have hsl1 : Sl w 1 (.slice (some ⟨b168, 0, none⟩) 1 1) 1 [.int .u8 0] := .own1 hs rfl
                      refine WL.append Tryd.underlying34 Tryd.underlying34 ty5 rfl (by decide) rfl rfl (hvx) ((hs.perm perm_q3)) (hsl1) (Cells1.of_all rfl) (by first | omega | (simp only [List.length_append, List.length_cons, List.length_nil]; omega)) rfl (fun v169 Lv169 w hv169 hs => ?_)
                      refine WL.val rfl (run_assign) ?_
                      refine WL.nil ?_
                      replace hs := (hs.perm perm_q3.symm).tail
                      repeat (first | refine CW.seq ?_ | refine CW.block ?_ | refine CW.skip ?_ | refine CW.label ?_ | refine CW.exit ?_)
                      refine (show _ ∧ _ from ⟨rfl, _, ?_, j + 1, v169, Lv169, rfl, by omega, by rw [hxj1, hu1]; exact hv169, hs, rfl, rfl, rfl, rfl, rfl, rfl, rfl, rfl, rfl, trivial⟩)
                      omega
                    · cases h
                  · obtain rfl : j = fr + b.length - x.length := by omega
                    repeat (first | refine CW.seq ?_ | refine CW.block ?_ | refine CW.skip ?_ | refine CW.label ?_ | refine CW.exit ?_ | refine CW.condT rfl ?_ | refine CW.condF rfl ?_)
                    refine CW.quiet mixedP (by kernel_rfl) hs ?_
                    refine QL.val rfl (fun w hs => run_move) ?_
                    refine QL.val rfl (fun w hs => run_lenSl Tryd.underlying34 rfl) ?_
                    refine QL.val rfl (fun w hs => run_move) ?_
                    refine QL.val rfl (fun w hs => run_move) ?_
                    first | refine QL.val rfl (fun w hs => run_ixSlN Tryd.underlying22 ty3 rfl rfl (by omega)) ?_ | refine QL.val rfl (fun w hs => run_ixSl Tryd.underlying22 ty3 rfl rfl (by omega)) ?_
                    refine QL.val rfl (fun w hs => run_load1 ty3 rfl (cellIn (E := 3) (more := mp) hs (by simp) (pC_get hp1))) ?_
                    refine QL.val rfl (fun w hs => run_field (o' := 1) Tryd.underlying36 rfl ty34 rfl rfl rfl) ?_
                    refine QL.val rfl (fun w hs => run_load1 ty34 rfl ((hcell (A := [_]) (B := Lx) (C := L4) hs).cell (j := 1) rfl)) ?_
                    refine QL.val rfl (fun w hs => run_lenSl Tryd.underlying34 rfl) ?_
                    refine QL.val rfl (fun w hs => run_add (c := ((fr + b.length : Nat) : Int)) rfl rfl (by omega) (by omega)) ?_
                    refine QL.val rfl (fun w hs => run_bF (run_lss rfl rfl) (by omega)) ?_
                    refine QL.nil (fun w hs => ?_)
                    repeat (first | refine CW.seq ?_ | refine CW.block ?_ | refine CW.skip ?_ | refine CW.label ?_ | refine CW.exit ?_)
                    first | refine CW.condP rfl (fun h => ?_) (fun h => ?_) | refine CW.cond rfl (fun h => ?_) (fun h => ?_)
                    · cases h
                    repeat (first | refine CW.seq ?_ | refine CW.block ?_ | refine CW.skip ?_ | refine CW.label ?_ | refine CW.exit ?_ | refine CW.condT rfl ?_ | refine CW.condF rfl ?_)
                    exact ⟨rfl, _, Lx, by rw [hxj]; exact hvx, hs, rfl, rfl, rfl, rfl, rfl, rfl, rfl, rfl, rfl, trivial⟩
              clear hs hvx
              rintro f w ⟨vx, Lx, hvx, hs, hf⟩
              have hobt := hf.chain
              obtain ⟨g, rfl⟩ := hobt
              have hov := over_mid (x := x) (y := b) (a := fr)
              have hobt : ∃ Y, x ++ List.replicate (fr + b.length - x.length) 0 = Y := ⟨_, rfl⟩
              obtain ⟨Y, hY⟩ := hobt
              have hYl : fr + b.length ≤ Y.length ∧ Y.length ≤ 100 * (i + 1) := by
                rw [← hY, List.length_append, List.length_replicate]
                omega
              rw [hY] at hvx hov
              have hobt := hvx.some1 (by omega)
              obtain ⟨bx, cx, mx, rfl, rfl, hcx⟩ := hobt
              refine CW.seqM (fun f w => Step [] ((bx, blk 5 (u8s (midL Y b fr b.length) ++ mx)) :: (bp, blk 3 (pC (hp.set a (fr, m)) ++ mp)) :: (L4 ++ ((b17, blk 36 [.int .i64 hh, .slice (some ⟨bb, ob, none⟩) b.length cb, .bool cut]) :: ([(bh, blk 3 (nC n ++ mh))] ++ [(bk, blk 3 (kC hp ++ mk))])))) w0 w ∧ Holds f [(1, .slice (some ⟨bc, oc, none⟩) lc.length cc), (5, .pointer (some ⟨bf, 0, none⟩)), (8, .slice (some ⟨bh, 0, none⟩) n ch), (9, .slice (some ⟨bp, 0, none⟩) n cp), (10, .slice (some ⟨bk, 0, none⟩) n ck), (15, .slice (some ⟨bx, 0, none⟩) Y.length cx), (16, .int .i64 i), (17, .pointer (some ⟨b17, 0, none⟩)), (20, .int .i64 a)]) ?_ ?_
              · repeat (first | refine CW.seq ?_ | refine CW.block ?_ | refine CW.skip ?_ | refine CW.label ?_ | refine CW.exit ?_ | refine CW.condT rfl ?_ | refine CW.condF rfl ?_)
                refine CW.reg ?_
                refine WL.val rfl (run_assign) ?_
                refine WL.nil ?_
                repeat (first | refine CW.seq ?_ | refine CW.block ?_ | refine CW.skip ?_ | refine CW.label ?_ | refine CW.exit ?_ | refine CW.condT rfl ?_ | refine CW.condF rfl ?_)
                refine CW.loop (fun z f w => ∃ k, k ≤ b.length ∧ z = b.length - k ∧ Step [] ((bx, blk 5 (u8s (midL Y b fr k) ++ mx)) :: (bp, blk 3 (pC (hp.set a (fr, m)) ++ mp)) :: (L4 ++ ((b17, blk 36 [.int .i64 hh, .slice (some ⟨bb, ob, none⟩) b.length cb, .bool cut]) :: ([(bh, blk 3 (nC n ++ mh))] ++ [(bk, blk 3 (kC hp ++ mk))])))) w0 w ∧ Holds f [(1, .slice (some ⟨bc, oc, none⟩) lc.length cc), (5, .pointer (some ⟨bf, 0, none⟩)), (8, .slice (some ⟨bh, 0, none⟩) n ch), (9, .slice (some ⟨bp, 0, none⟩) n cp), (10, .slice (some ⟨bk, 0, none⟩) n ck), (15, .slice (some ⟨bx, 0, none⟩) Y.length cx), (16, .int .i64 i), (17, .pointer (some ⟨b17, 0, none⟩)), (20, .int .i64 a), (21, .int .i64 k)]) (m := b.length) ?_ ?_
                · refine ⟨0, by omega, by omega, ?_, rfl, rfl, rfl, rfl, rfl, rfl, rfl, rfl, rfl, rfl, trivial⟩
                  rw [midL_zero]
                  exact hs.perm (List.Perm.swap _ _ _)
                · clear hs
                  rintro z f w ⟨k, hk, rfl, hs, hf⟩
                  have hobt := hf.chain
                  obtain ⟨g, rfl⟩ := hobt
                  by_cases hkl : k < b.length
                  · have hml2 : (u8s (midL Y b fr k) ++ mx).length = Y.length + mx.length := by
                      rw [List.length_append, u8s_len, midL_len (by omega) (by omega)]
                    have hset : (u8s (midL Y b fr k) ++ mx).set (0 + (fr + k) * 1) (.int .u8 (b[k].toNat : Nat)) = u8s (midL Y b fr (k + 1)) ++ mx := by
                      rw [Nat.zero_add, Nat.mul_one, u8s_set (by rw [midL_len (by omega) (by omega)]; omega), midL_set (by omega) hkl]
                    repeat (first | refine CW.seq ?_ | refine CW.block ?_ | refine CW.skip ?_ | refine CW.label ?_ | refine CW.exit ?_ | refine CW.condT rfl ?_ | refine CW.condF rfl ?_)
                    refine CW.reg ?_
                    refine WL.val rfl (run_move) ?_
                    refine WL.val rfl (run_field (o' := 1) Tryd.underlying36 rfl ty34 rfl rfl rfl) ?_
                    refine WL.val rfl (run_load1 ty34 rfl ((hcell (A := []) (B := [_, _]) (C := L4) hs).cell (j := 1) rfl)) ?_
                    refine WL.val rfl (run_lenSl Tryd.underlying34 rfl) ?_
                    refine WL.val rfl (run_bT (run_lss rfl rfl) (by omega)) ?_
                    refine WL.nil ?_
                    repeat (first | refine CW.seq ?_ | refine CW.block ?_ | refine CW.skip ?_ | refine CW.label ?_ | refine CW.exit ?_)
                    first | refine CW.condP rfl (fun h => ?_) (fun h => ?_) | refine CW.cond rfl (fun h => ?_) (fun h => ?_)
                    · repeat (first | refine CW.seq ?_ | refine CW.block ?_ | refine CW.skip ?_ | refine CW.label ?_ | refine CW.exit ?_ | refine CW.condT rfl ?_ | refine CW.condF rfl ?_)
                      refine CW.quietT (l1 := [_, _, _, _, _, _, _, _, _, _, _, _, _]) (l2 := [_]) 13 rfl mixedP rfl (by kernel_rfl) hs ?_
                      refine QL.val rfl (fun w hs => run_move) ?_
                      refine QL.val rfl (fun w hs => run_move) ?_
                      refine QL.val rfl (fun w hs => run_move) ?_
                      first | refine QL.val rfl (fun w hs => run_ixSlN Tryd.underlying22 ty3 rfl rfl (by omega)) ?_ | refine QL.val rfl (fun w hs => run_ixSl Tryd.underlying22 ty3 rfl rfl (by omega)) ?_
                      refine QL.val rfl (fun w hs => run_load1 ty3 rfl (cellIn (E := 3) (more := mp) hs (by simp) (pC_get hp1))) ?_
                      refine QL.val rfl (fun w hs => run_move) ?_
                      refine QL.val rfl (fun w hs => run_add (c := ((fr + k : Nat) : Int)) rfl rfl (by omega) (by omega)) ?_
                      refine QL.val rfl (fun w hs => run_field (o' := 1) Tryd.underlying36 rfl ty34 rfl rfl rfl) ?_
                      refine QL.val rfl (fun w hs => run_load1 ty34 rfl ((hcell (A := []) (B := [_, _]) (C := L4) hs).cell (j := 1) rfl)) ?_
                      refine QL.val rfl (fun w hs => run_move) ?_
                      first | refine QL.val rfl (fun w hs => run_ixSlN Tryd.underlying34 ty5 rfl rfl (by omega)) ?_ | refine QL.val rfl (fun w hs => run_ixSl Tryd.underlying34 ty5 rfl rfl (by omega)) ?_
                      refine QL.val rfl (fun w hs => run_load1 ty5 rfl ((hbat.step hs (by simp)).cell (j := k * 1) (v := .int .u8 (b[k].toNat : Nat)) (by rw [Nat.mul_one]; simp [u8s, hkl]))) ?_
                      first | refine QL.val rfl (fun w hs => run_ixSlN Tryd.underlying34 ty5 rfl rfl (by omega)) ?_ | refine QL.val rfl (fun w hs => run_ixSl Tryd.underlying34 ty5 rfl rfl (by omega)) ?_
                      refine QL.nil (fun w hs => ?_)
                      first | refine WL.store1 ty5 rfl rfl (rfl) hs (by first | (simp; done) | omega | (simp only [List.length_append, List.length_replicate, List.length_cons, List.length_nil, List.length_set]; omega) | (simp [Ent.cells, u8s]; done) | exact Nat.le_of_ble_eq_true rfl) (fun w hs => ?_) | refine WL.store1_1 ty5 rfl rfl (rfl) hs (by first | (simp; done) | omega | (simp only [List.length_append, List.length_replicate, List.length_cons, List.length_nil, List.length_set]; omega) | (simp [Ent.cells, u8s]; done) | exact Nat.le_of_ble_eq_true rfl) (fun w hs => ?_) | refine WL.store1_2 ty5 rfl rfl (rfl) hs (by first | (simp; done) | omega | (simp only [List.length_append, List.length_replicate, List.length_cons, List.length_nil, List.length_set]; omega) | (simp [Ent.cells, u8s]; done) | exact Nat.le_of_ble_eq_true rfl) (fun w hs => ?_) | refine WL.store1_3 ty5 rfl rfl (rfl) hs (by first | (simp; done) | omega | (simp only [List.length_append, List.length_replicate, List.length_cons, List.length_nil, List.length_set]; omega) | (simp [Ent.cells, u8s]; done) | exact Nat.le_of_ble_eq_true rfl) (fun w hs => ?_) | refine WL.store1_4 ty5 rfl rfl (rfl) hs (by first | (simp; done) | omega | (simp only [List.length_append, List.length_replicate, List.length_cons, List.length_nil, List.length_set]; omega) | (simp [Ent.cells, u8s]; done) | exact Nat.le_of_ble_eq_true rfl) (fun w hs => ?_) | refine WL.store1 ty5 rfl rfl (rfl) hs (by first | (simp; done) | omega | (simp only [List.length_append, List.length_replicate, List.length_cons, List.length_nil, List.length_set]; omega) | (simp [Ent.cells, u8s]; done) | exact Nat.le_of_ble_eq_true rfl) (fun w hs => ?_)
                      refine WL.nil ?_
                      repeat (first | refine CW.seq ?_ | refine CW.block ?_ | refine CW.skip ?_ | refine CW.label ?_ | refine CW.exit ?_ | refine CW.condT rfl ?_ | refine CW.condF rfl ?_)
                      refine CW.reg ?_
                      refine WL.val rfl (run_move) ?_
                      refine WL.val rfl (run_add (c := ((k + 1 : Nat) : Int)) rfl rfl (by omega) (by omega)) ?_
                      refine WL.val rfl (run_assign) ?_
                      refine WL.nil ?_
                      repeat (first | refine CW.seq ?_ | refine CW.block ?_ | refine CW.skip ?_ | refine CW.label ?_ | refine CW.exit ?_)
                      refine (show _ ∧ _ from ⟨rfl, _, ?_, k + 1, by omega, rfl, by rw [← hset]; exact hs, rfl, rfl, rfl, rfl, rfl, rfl, rfl, rfl, rfl, rfl, trivial⟩)
                      omega
                    · cases h
                  · obtain rfl : k = b.length := by omega
                    repeat (first | refine CW.seq ?_ | refine CW.block ?_ | refine CW.skip ?_ | refine CW.label ?_ | refine CW.exit ?_ | refine CW.condT rfl ?_ | refine CW.condF rfl ?_)
                    refine CW.reg ?_
                    refine WL.val rfl (run_move) ?_
                    refine WL.val rfl (run_field (o' := 1) Tryd.underlying36 rfl ty34 rfl rfl rfl) ?_
                    refine WL.val rfl (run_load1 ty34 rfl ((hcell (A := []) (B := [_, _]) (C := L4) hs).cell (j := 1) rfl)) ?_
                    refine WL.val rfl (run_lenSl Tryd.underlying34 rfl) ?_
                    refine WL.val rfl (run_bF (run_lss rfl rfl) (by omega)) ?_
                    refine WL.nil ?_
                    repeat (first | refine CW.seq ?_ | refine CW.block ?_ | refine CW.skip ?_ | refine CW.label ?_ | refine CW.exit ?_)
                    first | refine CW.condP rfl (fun h => ?_) (fun h => ?_) | refine CW.cond rfl (fun h => ?_) (fun h => ?_)
                    · cases h
                    repeat (first | refine CW.seq ?_ | refine CW.block ?_ | refine CW.skip ?_ | refine CW.label ?_ | refine CW.exit ?_ | refine CW.condT rfl ?_ | refine CW.condF rfl ?_)
                    exact ⟨rfl, hs, rfl, rfl, rfl, rfl, rfl, rfl, rfl, rfl, rfl, trivial⟩
              clear hs
              rintro f w ⟨hs, hf⟩
              have hobt := hf.chain
              obtain ⟨g, rfl⟩ := hobt
              have hst := pset (hp := hp.set a (fr, m)) (q := fr + b.length) (m := m) (mp := mp) (a := a) (by rw [List.length_set]; exact hal)
              rw [List.set_set] at hst
              rw [← hov] at hs
              have hol : (overL x fr b).length = Y.length := by rw [hov, midL_len (by omega) (Nat.le_refl _)]
              repeat (first | refine CW.seq ?_ | refine CW.block ?_ | refine CW.skip ?_ | refine CW.label ?_ | refine CW.exit ?_ | refine CW.condT rfl ?_ | refine CW.condF rfl ?_)
              refine CW.quietT (l1 := [_, _, _, _, _, _, _, _, _, _, _]) (l2 := [_]) 11 rfl mixedP rfl (by kernel_rfl) hs ?_
              refine QL.val rfl (fun w hs => run_move) ?_
              refine QL.val rfl (fun w hs => run_move) ?_
              refine QL.val rfl (fun w hs => run_move) ?_
              refine QL.val rfl (fun w hs => run_move) ?_
              first | refine QL.val rfl (fun w hs => run_ixSlN Tryd.underlying22 ty3 rfl rfl (by omega)) ?_ | refine QL.val rfl (fun w hs => run_ixSl Tryd.underlying22 ty3 rfl rfl (by omega)) ?_
              refine QL.val rfl (fun w hs => run_load1 ty3 rfl (cellIn (E := 3) (more := mp) hs (by simp) (pC_get hp1))) ?_
              refine QL.val rfl (fun w hs => run_field (o' := 1) Tryd.underlying36 rfl ty34 rfl rfl rfl) ?_
              refine QL.val rfl (fun w hs => run_load1 ty34 rfl ((hcell (A := []) (B := [_, _]) (C := L4) hs).cell (j := 1) rfl)) ?_
              refine QL.val rfl (fun w hs => run_lenSl Tryd.underlying34 rfl) ?_
              refine QL.val rfl (fun w hs => run_add (c := ((fr + b.length : Nat) : Int)) rfl rfl (by omega) (by omega)) ?_
              first | refine QL.val rfl (fun w hs => run_ixSlN Tryd.underlying22 ty3 rfl rfl (by omega)) ?_ | refine QL.val rfl (fun w hs => run_ixSl Tryd.underlying22 ty3 rfl rfl (by omega)) ?_
              refine QL.nil (fun w hs => ?_)
              first | refine WL.store1 ty3 rfl rfl (rfl) hs (by first | (simp; done) | omega | (simp only [List.length_append, List.length_replicate, List.length_cons, List.length_nil, List.length_set]; omega) | (simp [Ent.cells, u8s]; done) | exact Nat.le_of_ble_eq_true rfl) (fun w hs => ?_) | refine WL.store1_1 ty3 rfl rfl (rfl) hs (by first | (simp; done) | omega | (simp only [List.length_append, List.length_replicate, List.length_cons, List.length_nil, List.length_set]; omega) | (simp [Ent.cells, u8s]; done) | exact Nat.le_of_ble_eq_true rfl) (fun w hs => ?_) | refine WL.store1_2 ty3 rfl rfl (rfl) hs (by first | (simp; done) | omega | (simp only [List.length_append, List.length_replicate, List.length_cons, List.length_nil, List.length_set]; omega) | (simp [Ent.cells, u8s]; done) | exact Nat.le_of_ble_eq_true rfl) (fun w hs => ?_) | refine WL.store1_3 ty3 rfl rfl (rfl) hs (by first | (simp; done) | omega | (simp only [List.length_append, List.length_replicate, List.length_cons, List.length_nil, List.length_set]; omega) | (simp [Ent.cells, u8s]; done) | exact Nat.le_of_ble_eq_true rfl) (fun w hs => ?_) | refine WL.store1_4 ty3 rfl rfl (rfl) hs (by first | (simp; done) | omega | (simp only [List.length_append, List.length_replicate, List.length_cons, List.length_nil, List.length_set]; omega) | (simp [Ent.cells, u8s]; done) | exact Nat.le_of_ble_eq_true rfl) (fun w hs => ?_) | refine WL.store1 ty3 rfl rfl (rfl) hs (by first | (simp; done) | omega | (simp only [List.length_append, List.length_replicate, List.length_cons, List.length_nil, List.length_set]; omega) | (simp [Ent.cells, u8s]; done) | exact Nat.le_of_ble_eq_true rfl) (fun w hs => ?_)
              refine WL.nil ?_
              repeat (first | refine CW.seq ?_ | refine CW.block ?_ | refine CW.skip ?_ | refine CW.label ?_ | refine CW.exit ?_ | refine CW.condT rfl ?_ | refine CW.condF rfl ?_)
              refine ⟨rfl, hp.set a (fr + b.length, m), overL x fr b, .slice (some ⟨bx, 0, none⟩) (overL x fr b).length cx, [(bx, blk 5 (u8s (overL x fr b) ++ mx))], L4, (pk.mono (by omega)).set (by omega) hm13, by rw [List.length_set]; exact hpn, kC_set hpi, by rw [hol]; exact hYl.2, hR4, ⟨by rw [u8s_len, Nat.mul_one], .inr ⟨bx, cx, mx, rfl, rfl, by rw [List.length_append, u8s_len, hol]; rw [List.length_append, u8s_len] at hcx; exact hcx⟩⟩, ?_, ?_, rfl, rfl, rfl, rfl, rfl, ?_, rfl, trivial⟩
              · rw [List.length_append, pC, List.length_map, List.length_set]
                rw [List.length_append, pC, List.length_map] at hcp
                exact hcp
              · rw [← hst]
                exact hs.perm perm_q4
              · exact congrArg (fun z => Value.slice (some ⟨bx, 0, none⟩) z cx) hol.symm
            · cases h
          clear hs hR4 hvx hR
          rintro f w ⟨hp', x', vx', Lx', L', pk', hpn', hkC, hxl', hR', hvx', hcp', hs, hf⟩
          have hobt := hf.chain
          obtain ⟨g, rfl⟩ := hobt
          repeat (first | refine CW.seq ?_ | refine CW.block ?_ | refine CW.skip ?_ | refine CW.label ?_ | refine CW.exit ?_ | refine CW.condT rfl ?_ | refine CW.condF rfl ?_)
          refine CW.reg ?_
          refine WL.val rfl (run_move) ?_
          refine WL.val rfl (run_move) ?_
          refine WL.enter rfl (run_call en12 rfl rfl) (kreads_spec pk' (by omega) hT (by omega) hR' (hg.stepS hs (by simp)) (hs.dropR.zero (by simp) hg) hs.own (fun hq => hvx'.stays hs hq)) ?_
          rintro e w ⟨L9, rfl, hR9, hq⟩
          refine ⟨_, rfl, ?_⟩
          replace hs := hs.call hq
          first | refine WL.val rfl (run_notB rfl) ?_ | refine WL.val rfl (run_not rfl) ?_
          refine WL.nil ?_
          repeat (first | refine CW.seq ?_ | refine CW.block ?_ | refine CW.skip ?_ | refine CW.label ?_ | refine CW.exit ?_)
          first | refine CW.condP rfl (fun h => ?_) (fun h => ?_) | refine CW.cond rfl (fun h => ?_) (fun h => ?_)
          · cases h
          repeat (first | refine CW.seq ?_ | refine CW.block ?_ | refine CW.skip ?_ | refine CW.label ?_ | refine CW.exit ?_ | refine CW.condT rfl ?_ | refine CW.condF rfl ?_)
          refine CW.reg ?_
          refine WL.val rfl (run_move) ?_
          refine WL.val rfl (run_add (c := ((i + 1 : Nat) : Int)) rfl rfl (by omega) (by omega)) ?_
          refine WL.val rfl (run_assign) ?_
          refine WL.nil ?_
          repeat (first | refine CW.seq ?_ | refine CW.block ?_ | refine CW.skip ?_ | refine CW.label ?_ | refine CW.exit ?_)
          refine (show _ ∧ _ from ⟨rfl, _, ?_, i + 1, hp', x', [none], L9, vx', .slice (some ⟨bp, 0, none⟩) n cp, Lx', [(bp, blk 3 (pC hp' ++ mp))], by omega, by omega, rfl, hpn', pk', .inr rfl, hxl', hR9, hvx', ⟨by simp [pC, hpn'], .inr ⟨bp, cp, mp, rfl, rfl, hcp'⟩⟩, ⟨by simp [kC, hpn'], .inr ⟨bk, ck, mk, rfl, by rw [hkC], by rw [hkC]; exact hck⟩⟩, (hs.perm perm_p5.symm).tail, rfl, rfl, rfl, rfl, rfl, rfl, rfl, trivial⟩)
          omega
        · cases h
      · have hz : n = 0 := by omega
        repeat (first | refine CW.seq ?_ | refine CW.block ?_ | refine CW.skip ?_ | refine CW.label ?_ | refine CW.exit ?_ | refine CW.condT rfl ?_ | refine CW.condF rfl ?_)
        refine CW.reg ?_
        refine WL.val rfl (run_move) ?_
        refine WL.val rfl (run_move) ?_
        refine WL.val rfl (run_lenSl Tryd.underlying23 rfl) ?_
        refine WL.val rfl (run_bT (run_lss rfl rfl) (by omega)) ?_
        refine WL.val rfl (run_move) ?_
        first | (refine WL.yes rfl rfl rfl ?_; refine WL.val rfl (run_move) ?_) | refine WL.no rfl rfl rfl (.inl rfl) ?_ | refine WL.no rfl rfl rfl (.inr rfl) ?_
        refine WL.yes rfl rfl rfl ?_
        refine WL.val rfl (run_bT (run_lss rfl rfl) (by omega)) ?_
        first | refine WL.val rfl (run_pickT rfl) ?_ | refine WL.val rfl (run_pickF rfl) ?_
        refine WL.val rfl (run_move) ?_
        first | (refine WL.yes rfl rfl rfl ?_; refine WL.val rfl (run_move) ?_) | refine WL.no rfl rfl rfl (.inl rfl) ?_ | refine WL.no rfl rfl rfl (.inr rfl) ?_
        first | (refine WL.yes rfl rfl rfl ?_; refine WL.val rfl (run_lenSl Tryd.underlying22 rfl) ?_) | refine WL.no rfl rfl rfl (.inl rfl) ?_ | refine WL.no rfl rfl rfl (.inr rfl) ?_
        refine WL.yes rfl rfl rfl ?_
        refine WL.val rfl (run_bF (run_gtr rfl rfl) (by omega)) ?_
        first | refine WL.val rfl (run_pickT rfl) ?_ | refine WL.val rfl (run_pickF rfl) ?_
        refine WL.nil ?_
        repeat (first | refine CW.seq ?_ | refine CW.block ?_ | refine CW.skip ?_ | refine CW.label ?_ | refine CW.exit ?_)
        first | refine CW.condP rfl (fun h => ?_) (fun h => ?_) | refine CW.cond rfl (fun h => ?_) (fun h => ?_)
        · cases h
        repeat (first | refine CW.seq ?_ | refine CW.block ?_ | refine CW.skip ?_ | refine CW.label ?_ | refine CW.exit ?_ | refine CW.condT rfl ?_ | refine CW.condF rfl ?_)
        refine CW.reg ?_
        refine WL.val rfl (run_move) ?_
        refine WL.val rfl (run_move) ?_
        refine WL.enter rfl (run_call en12 rfl rfl) (kreads_spec pk (by omega) hT (by omega) hR (hg.stepS hs (by simp)) (hs.dropR.zero (by simp) hg) hs.own (fun hq => hvx.stays hs hq)) ?_
        rintro e w ⟨L9, rfl, hR9, hq⟩
        refine ⟨_, rfl, ?_⟩
        refine WL.val rfl (run_assign) ?_
        refine WL.nil ?_
        repeat (first | refine CW.seq ?_ | refine CW.block ?_ | refine CW.skip ?_ | refine CW.label ?_ | refine CW.exit ?_ | refine CW.condT rfl ?_ | refine CW.condF rfl ?_)
        refine CW.ret ?_
        refine fin_ret1 rfl ?_
        exact ⟨rfl, (hs.call hq).clear⟩
    · repeat (first | refine CW.seq ?_ | refine CW.block ?_ | refine CW.skip ?_ | refine CW.label ?_ | refine CW.exit ?_ | refine CW.condT rfl ?_ | refine CW.condF rfl ?_)
      refine CW.reg ?_
      refine WL.val rfl (run_move) ?_
      refine WL.val rfl (run_move) ?_
      refine WL.val rfl (run_lenSl Tryd.underlying23 rfl) ?_
      refine WL.val rfl (run_bT (run_lss rfl rfl) (by omega)) ?_
      refine WL.val rfl (run_move) ?_
      first | (refine WL.yes rfl rfl rfl ?_; refine WL.val rfl (run_move) ?_) | refine WL.no rfl rfl rfl (.inl rfl) ?_ | refine WL.no rfl rfl rfl (.inr rfl) ?_
      refine WL.yes rfl rfl rfl ?_
      refine WL.val rfl (run_bF (run_lss rfl rfl) (by omega)) ?_
      first | refine WL.val rfl (run_pickT rfl) ?_ | refine WL.val rfl (run_pickF rfl) ?_
      refine WL.val rfl (run_move) ?_
      first | (refine WL.yes rfl rfl rfl ?_; refine WL.val rfl (run_move) ?_) | refine WL.no rfl rfl rfl (.inl rfl) ?_ | refine WL.no rfl rfl rfl (.inr rfl) ?_
      first | (refine WL.yes rfl rfl rfl ?_; refine WL.val rfl (run_lenSl Tryd.underlying22 rfl) ?_) | refine WL.no rfl rfl rfl (.inl rfl) ?_ | refine WL.no rfl rfl rfl (.inr rfl) ?_
      first | (refine WL.yes rfl rfl rfl ?_; refine WL.val rfl (run_gtr rfl rfl) ?_) | refine WL.no rfl rfl rfl (.inl rfl) ?_ | refine WL.no rfl rfl rfl (.inr rfl) ?_
      first | refine WL.val rfl (run_pickT rfl) ?_ | refine WL.val rfl (run_pickF rfl) ?_
      refine WL.nil ?_
      repeat (first | refine CW.seq ?_ | refine CW.block ?_ | refine CW.skip ?_ | refine CW.label ?_ | refine CW.exit ?_)
      first | refine CW.condP rfl (fun h => ?_) (fun h => ?_) | refine CW.cond rfl (fun h => ?_) (fun h => ?_)
      · cases h
      repeat (first | refine CW.seq ?_ | refine CW.block ?_ | refine CW.skip ?_ | refine CW.label ?_ | refine CW.exit ?_ | refine CW.condT rfl ?_ | refine CW.condF rfl ?_)
      refine CW.reg ?_
      refine WL.val rfl (run_move) ?_
      refine WL.val rfl (run_move) ?_
      refine WL.enter rfl (run_call en12 rfl rfl) (kreads_spec pk (by omega) hT (by omega) hR (hg.stepS hs (by simp)) (hs.dropR.zero (by simp) hg) hs.own (fun hq => hvx.stays hs hq)) ?_
      rintro e w ⟨L9, rfl, hR9, hq⟩
      refine ⟨_, rfl, ?_⟩
      refine WL.val rfl (run_assign) ?_
      refine WL.nil ?_
      repeat (first | refine CW.seq ?_ | refine CW.block ?_ | refine CW.skip ?_ | refine CW.label ?_ | refine CW.exit ?_ | refine CW.condT rfl ?_ | refine CW.condF rfl ?_)
      refine CW.ret ?_
      refine fin_ret1 rfl ?_
      exact ⟨rfl, (hs.call hq).clear⟩
  · repeat (first | refine CW.seq ?_ | refine CW.block ?_ | refine CW.skip ?_ | refine CW.label ?_ | refine CW.exit ?_ | refine CW.condT rfl ?_ | refine CW.condF rfl ?_)
    refine CW.reg ?_
    refine WL.val rfl (run_move) ?_
    refine WL.val rfl (run_move) ?_
    refine WL.val rfl (run_lenSl Tryd.underlying23 rfl) ?_
    refine WL.val rfl (run_bF (run_lss rfl rfl) (by omega)) ?_
    refine WL.val rfl (run_move) ?_
    first | (refine WL.yes rfl rfl rfl ?_; refine WL.val rfl (run_move) ?_) | refine WL.no rfl rfl rfl (.inl rfl) ?_ | refine WL.no rfl rfl rfl (.inr rfl) ?_
    first | (refine WL.yes rfl rfl rfl ?_; refine WL.val rfl (run_lss rfl rfl) ?_) | refine WL.no rfl rfl rfl (.inl rfl) ?_ | refine WL.no rfl rfl rfl (.inr rfl) ?_
    first | refine WL.val rfl (run_pickT rfl) ?_ | refine WL.val rfl (run_pickF rfl) ?_
    refine WL.val rfl (run_move) ?_
    first | (refine WL.yes rfl rfl rfl ?_; refine WL.val rfl (run_move) ?_) | refine WL.no rfl rfl rfl (.inl rfl) ?_ | refine WL.no rfl rfl rfl (.inr rfl) ?_
    first | (refine WL.yes rfl rfl rfl ?_; refine WL.val rfl (run_lenSl Tryd.underlying22 rfl) ?_) | refine WL.no rfl rfl rfl (.inl rfl) ?_ | refine WL.no rfl rfl rfl (.inr rfl) ?_
    first | (refine WL.yes rfl rfl rfl ?_; refine WL.val rfl (run_gtr rfl rfl) ?_) | refine WL.no rfl rfl rfl (.inl rfl) ?_ | refine WL.no rfl rfl rfl (.inr rfl) ?_
    first | refine WL.val rfl (run_pickT rfl) ?_ | refine WL.val rfl (run_pickF rfl) ?_
    refine WL.nil ?_
    repeat (first | refine CW.seq ?_ | refine CW.block ?_ | refine CW.skip ?_ | refine CW.label ?_ | refine CW.exit ?_)
    first | refine CW.condP rfl (fun h => ?_) (fun h => ?_) | refine CW.cond rfl (fun h => ?_) (fun h => ?_)
    · cases h
    repeat (first | refine CW.seq ?_ | refine CW.block ?_ | refine CW.skip ?_ | refine CW.label ?_ | refine CW.exit ?_ | refine CW.condT rfl ?_ | refine CW.condF rfl ?_)
    refine CW.reg ?_
    refine WL.val rfl (run_move) ?_
    refine WL.val rfl (run_move) ?_
    refine WL.enter rfl (run_call en12 rfl rfl) (kreads_spec pk (by omega) hT (by omega) hR (hg.stepS hs (by simp)) (hs.dropR.zero (by simp) hg) hs.own (fun hq => hvx.stays hs hq)) ?_
    rintro e w ⟨L9, rfl, hR9, hq⟩
    refine ⟨_, rfl, ?_⟩
    refine WL.val rfl (run_assign) ?_
    refine WL.nil ?_
    repeat (first | refine CW.seq ?_ | refine CW.block ?_ | refine CW.skip ?_ | refine CW.label ?_ | refine CW.exit ?_ | refine CW.condT rfl ?_ | refine CW.condF rfl ?_)
    refine CW.ret ?_
    refine fin_ret1 rfl ?_
    exact ⟨rfl, (hs.call hq).clear⟩
end Go.Gx
