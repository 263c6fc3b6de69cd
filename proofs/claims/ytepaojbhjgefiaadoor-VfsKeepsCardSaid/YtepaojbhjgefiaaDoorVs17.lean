/- Files in memory: Open, the walk. -/
import Derived.Test.YtepaojbhjgefiaaDoorVs16
namespace Go.Gx
open Go.Proofs
set_option linter.unusedVariables false
set_option linter.unusedSimpArgs false
set_option maxRecDepth 100000
theorem bld_itD (d : List UInt8) (w : World) : (Instr.build 50 #[(0, str d), (1, .bool true)]).run Tryd.prog w = .ok (.agg (itC d true (.slice none 0 0)).toArray) w := by kernel_rfl
theorem bld_itF (d : List UInt8) (w : World) : (Instr.build 50 #[(0, str d)]).run Tryd.prog w = .ok (.agg (itC d false (.slice none 0 0)).toArray) w := by kernel_rfl
theorem bld_hdl (b : Addr) (m : Nat) (w : World) : (Instr.build 93 #[(0, .pointer (some b)), (2, .int .i64 (m : Nat))]).run Tryd.prog w = .ok (.agg #[.pointer (some b), .int .i64 ((0 : Nat) : Int), .int .i64 (m : Nat)]) w := by kernel_rfl
section
variable {bf : Nat} {s : VS} {L : List (Nat × Obj)} {w0 : World}
set_option maxHeartbeats 8000000 in
theorem open_spec (hR : VRep bf s L) (sn : s.Sane) (hg : Gl w0) (h0 : 0 ∉ L.map (·.1)) (hw : Step (L.map (·.1)) L w0 w0) {p : List UInt8} (hp : p.length ≤ 9223372036854775807) {mode : Int} : Calls Tryd.prog 9 #[.pointer (some ⟨bf, 0, none⟩), str p, .int .i64 mode] w0 fun e w' => ∃ L', e = .returned (.tuple #[.int .i64 (s.open p mode).1, .int .i64 (s.open p mode).2.1]) ∧ VRep bf (s.open p mode).2.2 L' ∧ Step (L.map (·.1)) L' w0 w' := by
  have hR0 := hR
  obtain ⟨mf, md, vh, Lh, Fs, Ds, Hs, o⟩ := hR
  have hs : Step (L.map (·.1)) L w0 w0 := hw
  have hobt : ∃ S, L.map (·.1) = S := ⟨_, rfl⟩
  obtain ⟨S, hS⟩ := hobt
  rw [hS] at hs h0 ⊢
  by_cases hbad : mode < 0 ∨ 7 < mode ∨ mode = 4
  · rw [show s.open p mode = (0, 94, s) by unfold VS.open; rw [if_pos hbad]]
    by_cases h1 : mode < 0
    · refine calls (n := 143) Tryd.func9 rfl rfl rfl ?_
      repeat (first | refine CW.seq ?_ | refine CW.block ?_ | refine CW.skip ?_ | refine CW.label ?_ | refine CW.exit ?_ | refine CW.condT rfl ?_ | refine CW.condF rfl ?_)
      refine CW.reg ?_
      refine WL.val rfl (run_assign) ?_
      refine WL.val rfl (run_assign) ?_
      refine WL.nil ?_
      repeat (first | refine CW.seq ?_ | refine CW.block ?_ | refine CW.skip ?_ | refine CW.label ?_ | refine CW.exit ?_ | refine CW.condT rfl ?_ | refine CW.condF rfl ?_)
      refine CW.reg ?_
      refine WL.val rfl (run_move) ?_
      refine WL.val rfl (run_bT (run_lss rfl rfl) (by omega)) ?_
      refine WL.val rfl (run_move) ?_
      first | (refine WL.yes rfl rfl rfl ?_; refine WL.val rfl (run_move) ?_) | refine WL.no rfl rfl rfl (.inl rfl) ?_ | refine WL.no rfl rfl rfl (.inr rfl) ?_
      first | (refine WL.yes rfl rfl rfl ?_; refine WL.val rfl (run_gtr rfl rfl) ?_) | refine WL.no rfl rfl rfl (.inl rfl) ?_ | refine WL.no rfl rfl rfl (.inr rfl) ?_
      first | refine WL.val rfl (run_pickT rfl) ?_ | refine WL.val rfl (run_pickF rfl) ?_
      refine WL.val rfl (run_move) ?_
      first | (refine WL.yes rfl rfl rfl ?_; refine WL.val rfl (run_move) ?_) | refine WL.no rfl rfl rfl (.inl rfl) ?_ | refine WL.no rfl rfl rfl (.inr rfl) ?_
      first | (refine WL.yes rfl rfl rfl ?_; refine WL.val rfl (run_eql rfl rfl) ?_) | refine WL.no rfl rfl rfl (.inl rfl) ?_ | refine WL.no rfl rfl rfl (.inr rfl) ?_
      first | refine WL.val rfl (run_pickT rfl) ?_ | refine WL.val rfl (run_pickF rfl) ?_
      refine WL.nil ?_
      repeat (first | refine CW.seq ?_ | refine CW.block ?_ | refine CW.skip ?_ | refine CW.label ?_ | refine CW.exit ?_)
      first | refine CW.condP rfl (fun h => ?_) (fun h => ?_) | refine CW.cond rfl (fun h => ?_) (fun h => ?_)
      · repeat (first | refine CW.seq ?_ | refine CW.block ?_ | refine CW.skip ?_ | refine CW.label ?_ | refine CW.exit ?_ | refine CW.condT rfl ?_ | refine CW.condF rfl ?_)
        refine CW.reg ?_
        refine WL.val rfl (run_assign) ?_
        refine WL.val rfl (run_assign) ?_
        refine WL.nil ?_
        repeat (first | refine CW.seq ?_ | refine CW.block ?_ | refine CW.skip ?_ | refine CW.label ?_ | refine CW.exit ?_ | refine CW.condT rfl ?_ | refine CW.condF rfl ?_)
        refine CW.ret ?_
        refine fin_ret2 rfl ?_
        exact ⟨L, rfl, hR0, hs⟩
      · cases h
    · by_cases h2 : 7 < mode
      · refine calls (n := 143) Tryd.func9 rfl rfl rfl ?_
        repeat (first | refine CW.seq ?_ | refine CW.block ?_ | refine CW.skip ?_ | refine CW.label ?_ | refine CW.exit ?_ | refine CW.condT rfl ?_ | refine CW.condF rfl ?_)
        refine CW.reg ?_
        refine WL.val rfl (run_assign) ?_
        refine WL.val rfl (run_assign) ?_
        refine WL.nil ?_
        repeat (first | refine CW.seq ?_ | refine CW.block ?_ | refine CW.skip ?_ | refine CW.label ?_ | refine CW.exit ?_ | refine CW.condT rfl ?_ | refine CW.condF rfl ?_)
        refine CW.reg ?_
        refine WL.val rfl (run_move) ?_
        refine WL.val rfl (run_bF (run_lss rfl rfl) (by omega)) ?_
        refine WL.val rfl (run_move) ?_
        first | (refine WL.yes rfl rfl rfl ?_; refine WL.val rfl (run_move) ?_) | refine WL.no rfl rfl rfl (.inl rfl) ?_ | refine WL.no rfl rfl rfl (.inr rfl) ?_
        refine WL.yes rfl rfl rfl ?_
        refine WL.val rfl (run_bT (run_gtr rfl rfl) (by omega)) ?_
        first | refine WL.val rfl (run_pickT rfl) ?_ | refine WL.val rfl (run_pickF rfl) ?_
        refine WL.val rfl (run_move) ?_
        first | (refine WL.yes rfl rfl rfl ?_; refine WL.val rfl (run_move) ?_) | refine WL.no rfl rfl rfl (.inl rfl) ?_ | refine WL.no rfl rfl rfl (.inr rfl) ?_
        first | (refine WL.yes rfl rfl rfl ?_; refine WL.val rfl (run_eql rfl rfl) ?_) | refine WL.no rfl rfl rfl (.inl rfl) ?_ | refine WL.no rfl rfl rfl (.inr rfl) ?_
        first | refine WL.val rfl (run_pickT rfl) ?_ | refine WL.val rfl (run_pickF rfl) ?_
        refine WL.nil ?_
        repeat (first | refine CW.seq ?_ | refine CW.block ?_ | refine CW.skip ?_ | refine CW.label ?_ | refine CW.exit ?_)
        first | refine CW.condP rfl (fun h => ?_) (fun h => ?_) | refine CW.cond rfl (fun h => ?_) (fun h => ?_)
        · repeat (first | refine CW.seq ?_ | refine CW.block ?_ | refine CW.skip ?_ | refine CW.label ?_ | refine CW.exit ?_ | refine CW.condT rfl ?_ | refine CW.condF rfl ?_)
          refine CW.reg ?_
          refine WL.val rfl (run_assign) ?_
          refine WL.val rfl (run_assign) ?_
          refine WL.nil ?_
          repeat (first | refine CW.seq ?_ | refine CW.block ?_ | refine CW.skip ?_ | refine CW.label ?_ | refine CW.exit ?_ | refine CW.condT rfl ?_ | refine CW.condF rfl ?_)
          refine CW.ret ?_
          refine fin_ret2 rfl ?_
          exact ⟨L, rfl, hR0, hs⟩
        · cases h
      · refine calls (n := 143) Tryd.func9 rfl rfl rfl ?_
        repeat (first | refine CW.seq ?_ | refine CW.block ?_ | refine CW.skip ?_ | refine CW.label ?_ | refine CW.exit ?_ | refine CW.condT rfl ?_ | refine CW.condF rfl ?_)
        refine CW.reg ?_
        refine WL.val rfl (run_assign) ?_
        refine WL.val rfl (run_assign) ?_
        refine WL.nil ?_
        repeat (first | refine CW.seq ?_ | refine CW.block ?_ | refine CW.skip ?_ | refine CW.label ?_ | refine CW.exit ?_ | refine CW.condT rfl ?_ | refine CW.condF rfl ?_)
        refine CW.reg ?_
        refine WL.val rfl (run_move) ?_
        refine WL.val rfl (run_bF (run_lss rfl rfl) (by omega)) ?_
        refine WL.val rfl (run_move) ?_
        first | (refine WL.yes rfl rfl rfl ?_; refine WL.val rfl (run_move) ?_) | refine WL.no rfl rfl rfl (.inl rfl) ?_ | refine WL.no rfl rfl rfl (.inr rfl) ?_
        refine WL.yes rfl rfl rfl ?_
        refine WL.val rfl (run_bF (run_gtr rfl rfl) (by omega)) ?_
        first | refine WL.val rfl (run_pickT rfl) ?_ | refine WL.val rfl (run_pickF rfl) ?_
        refine WL.val rfl (run_move) ?_
        first | (refine WL.yes rfl rfl rfl ?_; refine WL.val rfl (run_move) ?_) | refine WL.no rfl rfl rfl (.inl rfl) ?_ | refine WL.no rfl rfl rfl (.inr rfl) ?_
        refine WL.yes rfl rfl rfl ?_
        refine WL.val rfl (run_bT (run_eql rfl rfl) (by omega)) ?_
        first | refine WL.val rfl (run_pickT rfl) ?_ | refine WL.val rfl (run_pickF rfl) ?_
        refine WL.nil ?_
        repeat (first | refine CW.seq ?_ | refine CW.block ?_ | refine CW.skip ?_ | refine CW.label ?_ | refine CW.exit ?_)
        first | refine CW.condP rfl (fun h => ?_) (fun h => ?_) | refine CW.cond rfl (fun h => ?_) (fun h => ?_)
        · repeat (first | refine CW.seq ?_ | refine CW.block ?_ | refine CW.skip ?_ | refine CW.label ?_ | refine CW.exit ?_ | refine CW.condT rfl ?_ | refine CW.condF rfl ?_)
          refine CW.reg ?_
          refine WL.val rfl (run_assign) ?_
          refine WL.val rfl (run_assign) ?_
          refine WL.nil ?_
          repeat (first | refine CW.seq ?_ | refine CW.block ?_ | refine CW.skip ?_ | refine CW.label ?_ | refine CW.exit ?_ | refine CW.condT rfl ?_ | refine CW.condF rfl ?_)
          refine CW.ret ?_
          refine fin_ret2 rfl ?_
          exact ⟨L, rfl, hR0, hs⟩
        · cases h
  have hobt : ∃ m : Nat, mode = m := ⟨mode.toNat, by omega⟩
  obtain ⟨m, rfl⟩ := hobt
  have hm8 : m < 8 := by omega
  have hcl := fun {w} hg => clean_spec (s := p) w hg hp
  have hcc := clean_isClean (s := p)
  have hop0 : s.open p (m : Nat) = if cleanE p ≠ 0 then (0, cleanE p, s) else if cleanS p = [] then (0, 92, s) else
      if (s.way (decide (4 ≤ (m : Int))) (upsF [] (cleanS p)) []).2 ≠ 0 then (0, (s.way (decide (4 ≤ (m : Int))) (upsF [] (cleanS p)) []).2, s) else
      if s.mayO (cleanS p) (s.file (cleanS p)) (m : Int) (s.way (decide (4 ≤ (m : Int))) (upsF [] (cleanS p)) []).1 ≠ 0 then (0, s.mayO (cleanS p) (s.file (cleanS p)) (m : Int) (s.way (decide (4 ≤ (m : Int))) (upsF [] (cleanS p)) []).1, s) else
      (((((s.put1 (cleanS p) (s.way (decide (4 ≤ (m : Int))) (upsF [] (cleanS p)) []).1 (s.file (cleanS p))).1.cutI m (s.put1 (cleanS p) (s.way (decide (4 ≤ (m : Int))) (upsF [] (cleanS p)) []).1 (s.file (cleanS p))).2).slotI : Nat) : Int), 0, ((s.put1 (cleanS p) (s.way (decide (4 ≤ (m : Int))) (upsF [] (cleanS p)) []).1 (s.file (cleanS p))).1.cutI m (s.put1 (cleanS p) (s.way (decide (4 ≤ (m : Int))) (upsF [] (cleanS p)) []).1 (s.file (cleanS p))).2).grab (s.put1 (cleanS p) (s.way (decide (4 ≤ (m : Int))) (upsF [] (cleanS p)) []).1 (s.file (cleanS p))).2 (m % 4)) := by
    unfold VS.open
    rw [if_neg hbad, Int.toNat_natCast]
  have hmend : decide (4 ≤ (m : Int)) = decide (((if 4 ≤ m then 4 else 0 : Nat) : Int) ≠ 0) := by
    by_cases h4 : 4 ≤ m
    · rw [if_pos h4]
      have : (4 : Int) ≤ m := by omega
      simp [this]
    · rw [if_neg h4]
      have : ¬ (4 : Int) ≤ m := by omega
      simp [this]
  rw [hmend] at hop0
  rw [hop0]
  clear hop0
  have hobt : ∃ q, cleanS p = q := ⟨_, rfl⟩
  obtain ⟨q, hq⟩ := hobt
  have hobt : ∃ ce, cleanE p = ce := ⟨_, rfl⟩
  obtain ⟨ce, hce⟩ := hobt
  rw [hq, hce] at hcc
  simp only [hq, hce] at hcl ⊢
  by_cases hce0 : ce ≠ 0
  · rw [if_pos hce0]
    refine calls (n := 143) Tryd.func9 rfl rfl rfl ?_
    repeat (first | refine CW.seq ?_ | refine CW.block ?_ | refine CW.skip ?_ | refine CW.label ?_ | refine CW.exit ?_ | refine CW.condT rfl ?_ | refine CW.condF rfl ?_)
    refine CW.reg ?_
    refine WL.val rfl (run_assign) ?_
    refine WL.val rfl (run_assign) ?_
    refine WL.nil ?_
    repeat (first | refine CW.seq ?_ | refine CW.block ?_ | refine CW.skip ?_ | refine CW.label ?_ | refine CW.exit ?_ | refine CW.condT rfl ?_ | refine CW.condF rfl ?_)
    refine CW.reg ?_
    refine WL.val rfl (run_move) ?_
    refine WL.val rfl (run_bF (run_lss rfl rfl) (by omega)) ?_
    refine WL.val rfl (run_move) ?_
    first | (refine WL.yes rfl rfl rfl ?_; refine WL.val rfl (run_move) ?_) | refine WL.no rfl rfl rfl (.inl rfl) ?_ | refine WL.no rfl rfl rfl (.inr rfl) ?_
    refine WL.yes rfl rfl rfl ?_
    refine WL.val rfl (run_bF (run_gtr rfl rfl) (by omega)) ?_
    first | refine WL.val rfl (run_pickT rfl) ?_ | refine WL.val rfl (run_pickF rfl) ?_
    refine WL.val rfl (run_move) ?_
    first | (refine WL.yes rfl rfl rfl ?_; refine WL.val rfl (run_move) ?_) | refine WL.no rfl rfl rfl (.inl rfl) ?_ | refine WL.no rfl rfl rfl (.inr rfl) ?_
    refine WL.yes rfl rfl rfl ?_
    refine WL.val rfl (run_bF (run_eql rfl rfl) (by omega)) ?_
    first | refine WL.val rfl (run_pickT rfl) ?_ | refine WL.val rfl (run_pickF rfl) ?_
    refine WL.nil ?_
    repeat (first | refine CW.seq ?_ | refine CW.block ?_ | refine CW.skip ?_ | refine CW.label ?_ | refine CW.exit ?_)
    first | refine CW.condP rfl (fun h => ?_) (fun h => ?_) | refine CW.cond rfl (fun h => ?_) (fun h => ?_)
    · cases h
    repeat (first | refine CW.seq ?_ | refine CW.block ?_ | refine CW.skip ?_ | refine CW.label ?_ | refine CW.exit ?_ | refine CW.condT rfl ?_ | refine CW.condF rfl ?_)
    refine CW.reg ?_
    refine WL.val rfl (run_move) ?_
    refine WL.enter rfl (run_call en29 rfl rfl) (hcl (hg.stepS hs h0)) ?_
    rintro e w ⟨rfl, hq⟩
    refine ⟨_, rfl, ?_⟩
    replace hs := hs.callE hq
    refine WL.val rfl (run_move) ?_
    refine WL.val rfl (run_extract rfl rfl) ?_
    refine WL.val rfl (run_extract rfl rfl) ?_
    refine WL.val rfl (run_assign) ?_
    refine WL.val rfl (run_assign) ?_
    refine WL.nil ?_
    repeat (first | refine CW.seq ?_ | refine CW.block ?_ | refine CW.skip ?_ | refine CW.label ?_ | refine CW.exit ?_ | refine CW.condT rfl ?_ | refine CW.condF rfl ?_)
    refine CW.reg ?_
    refine WL.val rfl (run_move) ?_
    refine WL.val rfl (run_bT (run_neq rfl rfl) (by exact hce0)) ?_
    refine WL.nil ?_
    repeat (first | refine CW.seq ?_ | refine CW.block ?_ | refine CW.skip ?_ | refine CW.label ?_ | refine CW.exit ?_)
    first | refine CW.condP rfl (fun h => ?_) (fun h => ?_) | refine CW.cond rfl (fun h => ?_) (fun h => ?_)
    · repeat (first | refine CW.seq ?_ | refine CW.block ?_ | refine CW.skip ?_ | refine CW.label ?_ | refine CW.exit ?_ | refine CW.condT rfl ?_ | refine CW.condF rfl ?_)
      refine CW.reg ?_
      refine WL.val rfl (run_move) ?_
      refine WL.val rfl (run_assign) ?_
      refine WL.val rfl (run_assign) ?_
      refine WL.nil ?_
      repeat (first | refine CW.seq ?_ | refine CW.block ?_ | refine CW.skip ?_ | refine CW.label ?_ | refine CW.exit ?_ | refine CW.condT rfl ?_ | refine CW.condF rfl ?_)
      refine CW.ret ?_
      refine fin_ret2 rfl ?_
      exact ⟨L, rfl, hR0, hs⟩
    · cases h
  rw [if_neg hce0]
  by_cases hq0 : q = []
  · rw [if_pos hq0]
    refine calls (n := 143) Tryd.func9 rfl rfl rfl ?_
    repeat (first | refine CW.seq ?_ | refine CW.block ?_ | refine CW.skip ?_ | refine CW.label ?_ | refine CW.exit ?_ | refine CW.condT rfl ?_ | refine CW.condF rfl ?_)
    refine CW.reg ?_
    refine WL.val rfl (run_assign) ?_
    refine WL.val rfl (run_assign) ?_
    refine WL.nil ?_
    repeat (first | refine CW.seq ?_ | refine CW.block ?_ | refine CW.skip ?_ | refine CW.label ?_ | refine CW.exit ?_ | refine CW.condT rfl ?_ | refine CW.condF rfl ?_)
    refine CW.reg ?_
    refine WL.val rfl (run_move) ?_
    refine WL.val rfl (run_bF (run_lss rfl rfl) (by omega)) ?_
    refine WL.val rfl (run_move) ?_
    first | (refine WL.yes rfl rfl rfl ?_; refine WL.val rfl (run_move) ?_) | refine WL.no rfl rfl rfl (.inl rfl) ?_ | refine WL.no rfl rfl rfl (.inr rfl) ?_
    refine WL.yes rfl rfl rfl ?_
    refine WL.val rfl (run_bF (run_gtr rfl rfl) (by omega)) ?_
    first | refine WL.val rfl (run_pickT rfl) ?_ | refine WL.val rfl (run_pickF rfl) ?_
    refine WL.val rfl (run_move) ?_
    first | (refine WL.yes rfl rfl rfl ?_; refine WL.val rfl (run_move) ?_) | refine WL.no rfl rfl rfl (.inl rfl) ?_ | refine WL.no rfl rfl rfl (.inr rfl) ?_
    refine WL.yes rfl rfl rfl ?_
    refine WL.val rfl (run_bF (run_eql rfl rfl) (by omega)) ?_
    first | refine WL.val rfl (run_pickT rfl) ?_ | refine WL.val rfl (run_pickF rfl) ?_
    refine WL.nil ?_
    repeat (first | refine CW.seq ?_ | refine CW.block ?_ | refine CW.skip ?_ | refine CW.label ?_ | refine CW.exit ?_)
    first | refine CW.condP rfl (fun h => ?_) (fun h => ?_) | refine CW.cond rfl (fun h => ?_) (fun h => ?_)
    · cases h
    repeat (first | refine CW.seq ?_ | refine CW.block ?_ | refine CW.skip ?_ | refine CW.label ?_ | refine CW.exit ?_ | refine CW.condT rfl ?_ | refine CW.condF rfl ?_)
    refine CW.reg ?_
    refine WL.val rfl (run_move) ?_
    refine WL.enter rfl (run_call en29 rfl rfl) (hcl (hg.stepS hs h0)) ?_
    rintro e w ⟨rfl, hq⟩
    refine ⟨_, rfl, ?_⟩
    replace hs := hs.callE hq
    refine WL.val rfl (run_move) ?_
    refine WL.val rfl (run_extract rfl rfl) ?_
    refine WL.val rfl (run_extract rfl rfl) ?_
    refine WL.val rfl (run_assign) ?_
    refine WL.val rfl (run_assign) ?_
    refine WL.nil ?_
    repeat (first | refine CW.seq ?_ | refine CW.block ?_ | refine CW.skip ?_ | refine CW.label ?_ | refine CW.exit ?_ | refine CW.condT rfl ?_ | refine CW.condF rfl ?_)
    refine CW.reg ?_
    refine WL.val rfl (run_move) ?_
    refine WL.val rfl (run_bF (run_neq rfl rfl) (by exact hce0)) ?_
    refine WL.nil ?_
    repeat (first | refine CW.seq ?_ | refine CW.block ?_ | refine CW.skip ?_ | refine CW.label ?_ | refine CW.exit ?_)
    first | refine CW.condP rfl (fun h => ?_) (fun h => ?_) | refine CW.cond rfl (fun h => ?_) (fun h => ?_)
    · cases h
    repeat (first | refine CW.seq ?_ | refine CW.block ?_ | refine CW.skip ?_ | refine CW.label ?_ | refine CW.exit ?_ | refine CW.condT rfl ?_ | refine CW.condF rfl ?_)
    refine CW.reg ?_
    refine WL.val rfl (run_move) ?_
    refine WL.val rfl (run_bT (run_strEq rfl rfl) (by exact hq0)) ?_
    refine WL.nil ?_
    repeat (first | refine CW.seq ?_ | refine CW.block ?_ | refine CW.skip ?_ | refine CW.label ?_ | refine CW.exit ?_)
    first | refine CW.condP rfl (fun h => ?_) (fun h => ?_) | refine CW.cond rfl (fun h => ?_) (fun h => ?_)
    · repeat (first | refine CW.seq ?_ | refine CW.block ?_ | refine CW.skip ?_ | refine CW.label ?_ | refine CW.exit ?_ | refine CW.condT rfl ?_ | refine CW.condF rfl ?_)
      refine CW.reg ?_
      refine WL.val rfl (run_assign) ?_
      refine WL.val rfl (run_assign) ?_
      refine WL.nil ?_
      repeat (first | refine CW.seq ?_ | refine CW.block ?_ | refine CW.skip ?_ | refine CW.label ?_ | refine CW.exit ?_ | refine CW.condT rfl ?_ | refine CW.condF rfl ?_)
      refine CW.ret ?_
      refine fin_ret2 rfl ?_
      exact ⟨L, rfl, hR0, hs⟩
    · cases h
  rw [if_neg hq0]
  replace hcc := hcc (by omega)
  have hql := clean_len hcc
  have hwy := fun {w} hw => way_spec (w0 := w) (p := q) (mend := decide (((if 4 ≤ m then 4 else 0 : Nat) : Int) ≠ 0)) o hw (by omega)
  have hobt : ∃ M ew, s.way (decide (((if 4 ≤ m then 4 else 0 : Nat) : Int) ≠ 0)) (upsF [] q) [] = (M, ew) := ⟨_, _, rfl⟩
  obtain ⟨M, ew, hW⟩ := hobt
  simp only [hW] at hwy ⊢
  by_cases hew : ew ≠ 0
  · rw [if_pos hew]
    refine calls (n := 143) Tryd.func9 rfl rfl rfl ?_
    repeat (first | refine CW.seq ?_ | refine CW.block ?_ | refine CW.skip ?_ | refine CW.label ?_ | refine CW.exit ?_ | refine CW.condT rfl ?_ | refine CW.condF rfl ?_)
    refine CW.reg ?_
    refine WL.val rfl (run_assign) ?_
    refine WL.val rfl (run_assign) ?_
    refine WL.nil ?_
    repeat (first | refine CW.seq ?_ | refine CW.block ?_ | refine CW.skip ?_ | refine CW.label ?_ | refine CW.exit ?_ | refine CW.condT rfl ?_ | refine CW.condF rfl ?_)
    refine CW.reg ?_
    refine WL.val rfl (run_move) ?_
    refine WL.val rfl (run_bF (run_lss rfl rfl) (by omega)) ?_
    refine WL.val rfl (run_move) ?_
    first | (refine WL.yes rfl rfl rfl ?_; refine WL.val rfl (run_move) ?_) | refine WL.no rfl rfl rfl (.inl rfl) ?_ | refine WL.no rfl rfl rfl (.inr rfl) ?_
    refine WL.yes rfl rfl rfl ?_
    refine WL.val rfl (run_bF (run_gtr rfl rfl) (by omega)) ?_
    first | refine WL.val rfl (run_pickT rfl) ?_ | refine WL.val rfl (run_pickF rfl) ?_
    refine WL.val rfl (run_move) ?_
    first | (refine WL.yes rfl rfl rfl ?_; refine WL.val rfl (run_move) ?_) | refine WL.no rfl rfl rfl (.inl rfl) ?_ | refine WL.no rfl rfl rfl (.inr rfl) ?_
    refine WL.yes rfl rfl rfl ?_
    refine WL.val rfl (run_bF (run_eql rfl rfl) (by omega)) ?_
    first | refine WL.val rfl (run_pickT rfl) ?_ | refine WL.val rfl (run_pickF rfl) ?_
    refine WL.nil ?_
    repeat (first | refine CW.seq ?_ | refine CW.block ?_ | refine CW.skip ?_ | refine CW.label ?_ | refine CW.exit ?_)
    first | refine CW.condP rfl (fun h => ?_) (fun h => ?_) | refine CW.cond rfl (fun h => ?_) (fun h => ?_)
    · cases h
    repeat (first | refine CW.seq ?_ | refine CW.block ?_ | refine CW.skip ?_ | refine CW.label ?_ | refine CW.exit ?_ | refine CW.condT rfl ?_ | refine CW.condF rfl ?_)
    refine CW.reg ?_
    refine WL.val rfl (run_move) ?_
    refine WL.enter rfl (run_call en29 rfl rfl) (hcl (hg.stepS hs h0)) ?_
    rintro e w ⟨rfl, hq⟩
    refine ⟨_, rfl, ?_⟩
    replace hs := hs.callE hq
    refine WL.val rfl (run_move) ?_
    refine WL.val rfl (run_extract rfl rfl) ?_
    refine WL.val rfl (run_extract rfl rfl) ?_
    refine WL.val rfl (run_assign) ?_
    refine WL.val rfl (run_assign) ?_
    refine WL.nil ?_
    repeat (first | refine CW.seq ?_ | refine CW.block ?_ | refine CW.skip ?_ | refine CW.label ?_ | refine CW.exit ?_ | refine CW.condT rfl ?_ | refine CW.condF rfl ?_)
    refine CW.reg ?_
    refine WL.val rfl (run_move) ?_
    refine WL.val rfl (run_bF (run_neq rfl rfl) (by exact hce0)) ?_
    refine WL.nil ?_
    repeat (first | refine CW.seq ?_ | refine CW.block ?_ | refine CW.skip ?_ | refine CW.label ?_ | refine CW.exit ?_)
    first | refine CW.condP rfl (fun h => ?_) (fun h => ?_) | refine CW.cond rfl (fun h => ?_) (fun h => ?_)
    · cases h
    repeat (first | refine CW.seq ?_ | refine CW.block ?_ | refine CW.skip ?_ | refine CW.label ?_ | refine CW.exit ?_ | refine CW.condT rfl ?_ | refine CW.condF rfl ?_)
    refine CW.reg ?_
    refine WL.val rfl (run_move) ?_
    refine WL.val rfl (run_bF (run_strEq rfl rfl) (by exact hq0)) ?_
    refine WL.nil ?_
    repeat (first | refine CW.seq ?_ | refine CW.block ?_ | refine CW.skip ?_ | refine CW.label ?_ | refine CW.exit ?_)
    first | refine CW.condP rfl (fun h => ?_) (fun h => ?_) | refine CW.cond rfl (fun h => ?_) (fun h => ?_)
    · cases h
    repeat (first | refine CW.seq ?_ | refine CW.block ?_ | refine CW.skip ?_ | refine CW.label ?_ | refine CW.exit ?_ | refine CW.condT rfl ?_ | refine CW.condF rfl ?_)
    refine CW.reg ?_
    refine WL.val rfl (run_move) ?_
    refine WL.val rfl (run_move) ?_
    refine WL.val rfl (run_move) ?_
    refine WL.val rfl (run_and4 hm8 rfl rfl) ?_
    refine WL.val rfl (run_neq rfl rfl) ?_
    refine WL.enter rfl (run_call en30 rfl rfl) (hwy hs.has) ?_
    rintro e w ⟨u, Lu, rfl, hu, hqq⟩
    refine ⟨_, rfl, ?_⟩
    have hobt := hu.form
    obtain ⟨au, cu, rfl⟩ := hobt
    replace hs := hs.call0 hqq
    refine WL.val rfl (run_move) ?_
    refine WL.val rfl (run_extract rfl rfl) ?_
    refine WL.val rfl (run_extract rfl rfl) ?_
    refine WL.val rfl (run_assign) ?_
    refine WL.val rfl (run_assign) ?_
    refine WL.nil ?_
    repeat (first | refine CW.seq ?_ | refine CW.block ?_ | refine CW.skip ?_ | refine CW.label ?_ | refine CW.exit ?_ | refine CW.condT rfl ?_ | refine CW.condF rfl ?_)
    refine CW.reg ?_
    refine WL.val rfl (run_move) ?_
    refine WL.val rfl (run_bT (run_neq rfl rfl) (by exact hew)) ?_
    refine WL.nil ?_
    repeat (first | refine CW.seq ?_ | refine CW.block ?_ | refine CW.skip ?_ | refine CW.label ?_ | refine CW.exit ?_)
    first | refine CW.condP rfl (fun h => ?_) (fun h => ?_) | refine CW.cond rfl (fun h => ?_) (fun h => ?_)
    · repeat (first | refine CW.seq ?_ | refine CW.block ?_ | refine CW.skip ?_ | refine CW.label ?_ | refine CW.exit ?_ | refine CW.condT rfl ?_ | refine CW.condF rfl ?_)
      refine CW.reg ?_
      refine WL.val rfl (run_move) ?_
      refine WL.val rfl (run_assign) ?_
      refine WL.val rfl (run_assign) ?_
      refine WL.nil ?_
      repeat (first | refine CW.seq ?_ | refine CW.block ?_ | refine CW.skip ?_ | refine CW.label ?_ | refine CW.exit ?_ | refine CW.condT rfl ?_ | refine CW.condF rfl ?_)
      refine CW.ret ?_
      refine fin_ret2 rfl ?_
      exact ⟨L, rfl, hR0, hs.dropL⟩
    · cases h
  rw [if_neg hew]
  obtain rfl : ew = 0 := Classical.byContradiction hew
  have hMf := way_ok hW
  rw [List.nil_append] at hMf
  have hMl : M.length ≤ 4096 := by
    have h1 := ups_len q []
    have h2 := List.length_filter_le (fun u => (s.dir u).isNone) (upsF [] q)
    rw [hMf]
    omega
  have hMd : ∀ d ∈ M, d.length ≤ 4096 := fun d hd => by
    rw [hMf] at hd
    have h3 := ups_le q [] d ((List.mem_filter.1 hd).1)
    have h4 : ([] : List UInt8).length = 0 := rfl
    omega
  have hobt := way_made hcc hq0 sn.root hW
  obtain ⟨hmade, hpar⟩ := hobt
  have hfst := way_first hcc hq0 sn.root hW
  have hobt : ∃ x, s.file q = x := ⟨_, rfl⟩
  obtain ⟨x, hx⟩ := hobt
  have hxl : ∀ i, x = some i → i < Fs.length := fun i hi => by
    have hobt := o.file_at (hx.trans hi)
    obtain ⟨r, hr, _⟩ := hobt
    exact (List.getElem?_eq_some_iff.1 hr).1
  have hfq : (firstL q M).length ≤ 9223372036854775807 := by
    unfold firstL
    cases M with
    | nil => show q.length ≤ _; omega
    | cons d l => have := hMd d (by simp); show d.length ≤ _; omega
  have hmy := fun {w vm} hg hw hm => mayO_spec (w0 := w) (p := q) (x := x) (mode := (m : Int)) (miss := M) (vm := vm) o sn.ok hg hw hm (by omega) hfq hxl (fun _ => hfst)
  have hlk := (o.lookF q).trans (congrArg (fVal Fs) hx)
  rw [hx]
  have hobt : ∃ me, s.mayO q x (m : Int) M = me := ⟨_, rfl⟩
  obtain ⟨me, hme⟩ := hobt
  simp only [hme] at hmy ⊢
  by_cases hme0 : me ≠ 0
  · rw [if_pos hme0]
    refine calls (n := 143) Tryd.func9 rfl rfl rfl ?_
    repeat (first | refine CW.seq ?_ | refine CW.block ?_ | refine CW.skip ?_ | refine CW.label ?_ | refine CW.exit ?_ | refine CW.condT rfl ?_ | refine CW.condF rfl ?_)
    refine CW.reg ?_
    refine WL.val rfl (run_assign) ?_
    refine WL.val rfl (run_assign) ?_
    refine WL.nil ?_
    repeat (first | refine CW.seq ?_ | refine CW.block ?_ | refine CW.skip ?_ | refine CW.label ?_ | refine CW.exit ?_ | refine CW.condT rfl ?_ | refine CW.condF rfl ?_)
    refine CW.reg ?_
    refine WL.val rfl (run_move) ?_
    refine WL.val rfl (run_bF (run_lss rfl rfl) (by omega)) ?_
    refine WL.val rfl (run_move) ?_
    first | (refine WL.yes rfl rfl rfl ?_; refine WL.val rfl (run_move) ?_) | refine WL.no rfl rfl rfl (.inl rfl) ?_ | refine WL.no rfl rfl rfl (.inr rfl) ?_
    refine WL.yes rfl rfl rfl ?_
    refine WL.val rfl (run_bF (run_gtr rfl rfl) (by omega)) ?_
    first | refine WL.val rfl (run_pickT rfl) ?_ | refine WL.val rfl (run_pickF rfl) ?_
    refine WL.val rfl (run_move) ?_
    first | (refine WL.yes rfl rfl rfl ?_; refine WL.val rfl (run_move) ?_) | refine WL.no rfl rfl rfl (.inl rfl) ?_ | refine WL.no rfl rfl rfl (.inr rfl) ?_
    refine WL.yes rfl rfl rfl ?_
    refine WL.val rfl (run_bF (run_eql rfl rfl) (by omega)) ?_
    first | refine WL.val rfl (run_pickT rfl) ?_ | refine WL.val rfl (run_pickF rfl) ?_
    refine WL.nil ?_
    repeat (first | refine CW.seq ?_ | refine CW.block ?_ | refine CW.skip ?_ | refine CW.label ?_ | refine CW.exit ?_)
    first | refine CW.condP rfl (fun h => ?_) (fun h => ?_) | refine CW.cond rfl (fun h => ?_) (fun h => ?_)
    · cases h
    repeat (first | refine CW.seq ?_ | refine CW.block ?_ | refine CW.skip ?_ | refine CW.label ?_ | refine CW.exit ?_ | refine CW.condT rfl ?_ | refine CW.condF rfl ?_)
    refine CW.reg ?_
    refine WL.val rfl (run_move) ?_
    refine WL.enter rfl (run_call en29 rfl rfl) (hcl (hg.stepS hs h0)) ?_
    rintro e w ⟨rfl, hq⟩
    refine ⟨_, rfl, ?_⟩
    replace hs := hs.callE hq
    refine WL.val rfl (run_move) ?_
    refine WL.val rfl (run_extract rfl rfl) ?_
    refine WL.val rfl (run_extract rfl rfl) ?_
    refine WL.val rfl (run_assign) ?_
    refine WL.val rfl (run_assign) ?_
    refine WL.nil ?_
    repeat (first | refine CW.seq ?_ | refine CW.block ?_ | refine CW.skip ?_ | refine CW.label ?_ | refine CW.exit ?_ | refine CW.condT rfl ?_ | refine CW.condF rfl ?_)
    refine CW.reg ?_
    refine WL.val rfl (run_move) ?_
    refine WL.val rfl (run_bF (run_neq rfl rfl) (by exact hce0)) ?_
    refine WL.nil ?_
    repeat (first | refine CW.seq ?_ | refine CW.block ?_ | refine CW.skip ?_ | refine CW.label ?_ | refine CW.exit ?_)
    first | refine CW.condP rfl (fun h => ?_) (fun h => ?_) | refine CW.cond rfl (fun h => ?_) (fun h => ?_)
    · cases h
    repeat (first | refine CW.seq ?_ | refine CW.block ?_ | refine CW.skip ?_ | refine CW.label ?_ | refine CW.exit ?_ | refine CW.condT rfl ?_ | refine CW.condF rfl ?_)
    refine CW.reg ?_
    refine WL.val rfl (run_move) ?_
    refine WL.val rfl (run_bF (run_strEq rfl rfl) (by exact hq0)) ?_
    refine WL.nil ?_
    repeat (first | refine CW.seq ?_ | refine CW.block ?_ | refine CW.skip ?_ | refine CW.label ?_ | refine CW.exit ?_)
    first | refine CW.condP rfl (fun h => ?_) (fun h => ?_) | refine CW.cond rfl (fun h => ?_) (fun h => ?_)
    · cases h
    repeat (first | refine CW.seq ?_ | refine CW.block ?_ | refine CW.skip ?_ | refine CW.label ?_ | refine CW.exit ?_ | refine CW.condT rfl ?_ | refine CW.condF rfl ?_)
    refine CW.reg ?_
    refine WL.val rfl (run_move) ?_
    refine WL.val rfl (run_move) ?_
    refine WL.val rfl (run_move) ?_
    refine WL.val rfl (run_and4 hm8 rfl rfl) ?_
    refine WL.val rfl (run_neq rfl rfl) ?_
    refine WL.enter rfl (run_call en30 rfl rfl) (hwy hs.has) ?_
    rintro e w ⟨u, Lu, rfl, hu, hqq⟩
    refine ⟨_, rfl, ?_⟩
    have hobt := hu.form
    obtain ⟨au, cu, rfl⟩ := hobt
    replace hs := hs.call0 hqq
    refine WL.val rfl (run_move) ?_
    refine WL.val rfl (run_extract rfl rfl) ?_
    refine WL.val rfl (run_extract rfl rfl) ?_
    refine WL.val rfl (run_assign) ?_
    refine WL.val rfl (run_assign) ?_
    refine WL.nil ?_
    repeat (first | refine CW.seq ?_ | refine CW.block ?_ | refine CW.skip ?_ | refine CW.label ?_ | refine CW.exit ?_ | refine CW.condT rfl ?_ | refine CW.condF rfl ?_)
    refine CW.reg ?_
    refine WL.val rfl (run_move) ?_
    refine WL.val rfl (run_bF (run_neq rfl rfl) (by exact fun h => h rfl)) ?_
    refine WL.nil ?_
    repeat (first | refine CW.seq ?_ | refine CW.block ?_ | refine CW.skip ?_ | refine CW.label ?_ | refine CW.exit ?_)
    first | refine CW.condP rfl (fun h => ?_) (fun h => ?_) | refine CW.cond rfl (fun h => ?_) (fun h => ?_)
    · cases h
    repeat (first | refine CW.seq ?_ | refine CW.block ?_ | refine CW.skip ?_ | refine CW.label ?_ | refine CW.exit ?_ | refine CW.condT rfl ?_ | refine CW.condF rfl ?_)
    refine CW.reg ?_
    refine WL.val rfl (run_move) ?_
    refine WL.val rfl (run_nilCheck rfl) ?_
    refine WL.val rfl (run_field (o' := 0) Tryd.underlying81 rfl ty72 rfl rfl rfl) ?_
    refine WL.val rfl (run_load1 ty72 rfl ((o.at (hs.dropL.has)).cell (j := 0) rfl)) ?_
    refine WL.val rfl (run_move) ?_
    refine WL.val rfl (run_lookupSE Tryd.underlying72 Tryd.underlying9 (zFile _) (hlk) rfl rfl (o.mf_ hs.dropL.has)) ?_
    refine WL.val rfl (run_assign) ?_
    refine WL.nil ?_
    repeat (first | refine CW.seq ?_ | refine CW.block ?_ | refine CW.skip ?_ | refine CW.label ?_ | refine CW.exit ?_ | refine CW.condT rfl ?_ | refine CW.condF rfl ?_)
    refine CW.reg ?_
    refine WL.val rfl (run_move) ?_
    refine WL.val rfl (run_move) ?_
    refine WL.val rfl (run_move) ?_
    refine WL.val rfl (run_move) ?_
    refine WL.val rfl (run_move) ?_
    refine WL.enter rfl (run_call en31 rfl rfl) (hmy (hg.stepS hs h0) hs.dropL.has (hu.sl hs)) ?_
    rintro e w ⟨rfl, hq⟩
    refine ⟨_, rfl, ?_⟩
    replace hs := hs.callE hq
    refine WL.val rfl (run_assign) ?_
    refine WL.nil ?_
    repeat (first | refine CW.seq ?_ | refine CW.block ?_ | refine CW.skip ?_ | refine CW.label ?_ | refine CW.exit ?_ | refine CW.condT rfl ?_ | refine CW.condF rfl ?_)
    refine CW.reg ?_
    refine WL.val rfl (run_move) ?_
    refine WL.val rfl (run_bT (run_neq rfl rfl) (by exact hme0)) ?_
    refine WL.nil ?_
    repeat (first | refine CW.seq ?_ | refine CW.block ?_ | refine CW.skip ?_ | refine CW.label ?_ | refine CW.exit ?_)
    first | refine CW.condP rfl (fun h => ?_) (fun h => ?_) | refine CW.cond rfl (fun h => ?_) (fun h => ?_)
    · repeat (first | refine CW.seq ?_ | refine CW.block ?_ | refine CW.skip ?_ | refine CW.label ?_ | refine CW.exit ?_ | refine CW.condT rfl ?_ | refine CW.condF rfl ?_)
      refine CW.reg ?_
      refine WL.val rfl (run_move) ?_
      refine WL.val rfl (run_assign) ?_
      refine WL.val rfl (run_assign) ?_
      refine WL.nil ?_
      repeat (first | refine CW.seq ?_ | refine CW.block ?_ | refine CW.skip ?_ | refine CW.label ?_ | refine CW.exit ?_ | refine CW.condT rfl ?_ | refine CW.condF rfl ?_)
      refine CW.ret ?_
      refine fin_ret2 rfl ?_
      exact ⟨L, rfl, hR0, hs.dropL⟩
    · cases h
  rw [if_neg hme0]
  refine calls (n := 143) Tryd.func9 rfl rfl rfl ?_
  repeat (first | refine CW.seq ?_ | refine CW.block ?_ | refine CW.skip ?_ | refine CW.label ?_ | refine CW.exit ?_ | refine CW.condT rfl ?_ | refine CW.condF rfl ?_)
  refine CW.reg ?_
  refine WL.val rfl (run_assign) ?_
  refine WL.val rfl (run_assign) ?_
  refine WL.nil ?_
  repeat (first | refine CW.seq ?_ | refine CW.block ?_ | refine CW.skip ?_ | refine CW.label ?_ | refine CW.exit ?_ | refine CW.condT rfl ?_ | refine CW.condF rfl ?_)
  refine CW.reg ?_
  refine WL.val rfl (run_move) ?_
  refine WL.val rfl (run_bF (run_lss rfl rfl) (by omega)) ?_
  refine WL.val rfl (run_move) ?_
  first | (refine WL.yes rfl rfl rfl ?_; refine WL.val rfl (run_move) ?_) | refine WL.no rfl rfl rfl (.inl rfl) ?_ | refine WL.no rfl rfl rfl (.inr rfl) ?_
  refine WL.yes rfl rfl rfl ?_
  refine WL.val rfl (run_bF (run_gtr rfl rfl) (by omega)) ?_
  first | refine WL.val rfl (run_pickT rfl) ?_ | refine WL.val rfl (run_pickF rfl) ?_
  refine WL.val rfl (run_move) ?_
  first | (refine WL.yes rfl rfl rfl ?_; refine WL.val rfl (run_move) ?_) | refine WL.no rfl rfl rfl (.inl rfl) ?_ | refine WL.no rfl rfl rfl (.inr rfl) ?_
  refine WL.yes rfl rfl rfl ?_
  refine WL.val rfl (run_bF (run_eql rfl rfl) (by omega)) ?_
  first | refine WL.val rfl (run_pickT rfl) ?_ | refine WL.val rfl (run_pickF rfl) ?_
  refine WL.nil ?_
  repeat (first | refine CW.seq ?_ | refine CW.block ?_ | refine CW.skip ?_ | refine CW.label ?_ | refine CW.exit ?_)
  first | refine CW.condP rfl (fun h => ?_) (fun h => ?_) | refine CW.cond rfl (fun h => ?_) (fun h => ?_)
  · cases h
  repeat (first | refine CW.seq ?_ | refine CW.block ?_ | refine CW.skip ?_ | refine CW.label ?_ | refine CW.exit ?_ | refine CW.condT rfl ?_ | refine CW.condF rfl ?_)
  refine CW.reg ?_
  refine WL.val rfl (run_move) ?_
  refine WL.enter rfl (run_call en29 rfl rfl) (hcl (hg.stepS hs h0)) ?_
  rintro e w ⟨rfl, hq⟩
  refine ⟨_, rfl, ?_⟩
  replace hs := hs.callE hq
  refine WL.val rfl (run_move) ?_
  refine WL.val rfl (run_extract rfl rfl) ?_
  refine WL.val rfl (run_extract rfl rfl) ?_
  refine WL.val rfl (run_assign) ?_
  refine WL.val rfl (run_assign) ?_
  refine WL.nil ?_
  repeat (first | refine CW.seq ?_ | refine CW.block ?_ | refine CW.skip ?_ | refine CW.label ?_ | refine CW.exit ?_ | refine CW.condT rfl ?_ | refine CW.condF rfl ?_)
  refine CW.reg ?_
  refine WL.val rfl (run_move) ?_
  refine WL.val rfl (run_bF (run_neq rfl rfl) (by exact hce0)) ?_
  refine WL.nil ?_
  repeat (first | refine CW.seq ?_ | refine CW.block ?_ | refine CW.skip ?_ | refine CW.label ?_ | refine CW.exit ?_)
  first | refine CW.condP rfl (fun h => ?_) (fun h => ?_) | refine CW.cond rfl (fun h => ?_) (fun h => ?_)
  · cases h
  repeat (first | refine CW.seq ?_ | refine CW.block ?_ | refine CW.skip ?_ | refine CW.label ?_ | refine CW.exit ?_ | refine CW.condT rfl ?_ | refine CW.condF rfl ?_)
  refine CW.reg ?_
  refine WL.val rfl (run_move) ?_
  refine WL.val rfl (run_bF (run_strEq rfl rfl) (by exact hq0)) ?_
  refine WL.nil ?_
  repeat (first | refine CW.seq ?_ | refine CW.block ?_ | refine CW.skip ?_ | refine CW.label ?_ | refine CW.exit ?_)
  first | refine CW.condP rfl (fun h => ?_) (fun h => ?_) | refine CW.cond rfl (fun h => ?_) (fun h => ?_)
  · cases h
  repeat (first | refine CW.seq ?_ | refine CW.block ?_ | refine CW.skip ?_ | refine CW.label ?_ | refine CW.exit ?_ | refine CW.condT rfl ?_ | refine CW.condF rfl ?_)
  refine CW.reg ?_
  refine WL.val rfl (run_move) ?_
  refine WL.val rfl (run_move) ?_
  refine WL.val rfl (run_move) ?_
  refine WL.val rfl (run_and4 hm8 rfl rfl) ?_
  refine WL.val rfl (run_neq rfl rfl) ?_
  refine WL.enter rfl (run_call en30 rfl rfl) (hwy hs.has) ?_
  rintro e w ⟨u, Lu, rfl, hu, hqq⟩
  refine ⟨_, rfl, ?_⟩
  have hobt := hu.form
  obtain ⟨au, cu, rfl⟩ := hobt
  replace hs := hs.call0 hqq
  refine WL.val rfl (run_move) ?_
  refine WL.val rfl (run_extract rfl rfl) ?_
  refine WL.val rfl (run_extract rfl rfl) ?_
  refine WL.val rfl (run_assign) ?_
  refine WL.val rfl (run_assign) ?_
  refine WL.nil ?_
  repeat (first | refine CW.seq ?_ | refine CW.block ?_ | refine CW.skip ?_ | refine CW.label ?_ | refine CW.exit ?_ | refine CW.condT rfl ?_ | refine CW.condF rfl ?_)
  refine CW.reg ?_
  refine WL.val rfl (run_move) ?_
  refine WL.val rfl (run_bF (run_neq rfl rfl) (by exact fun h => h rfl)) ?_
  refine WL.nil ?_
  repeat (first | refine CW.seq ?_ | refine CW.block ?_ | refine CW.skip ?_ | refine CW.label ?_ | refine CW.exit ?_)
  first | refine CW.condP rfl (fun h => ?_) (fun h => ?_) | refine CW.cond rfl (fun h => ?_) (fun h => ?_)
  · cases h
  repeat (first | refine CW.seq ?_ | refine CW.block ?_ | refine CW.skip ?_ | refine CW.label ?_ | refine CW.exit ?_ | refine CW.condT rfl ?_ | refine CW.condF rfl ?_)
  refine CW.reg ?_
  refine WL.val rfl (run_move) ?_
  refine WL.val rfl (run_nilCheck rfl) ?_
  refine WL.val rfl (run_field (o' := 0) Tryd.underlying81 rfl ty72 rfl rfl rfl) ?_
  refine WL.val rfl (run_load1 ty72 rfl ((o.at (hs.dropL.has)).cell (j := 0) rfl)) ?_
  refine WL.val rfl (run_move) ?_
  refine WL.val rfl (run_lookupSE Tryd.underlying72 Tryd.underlying9 (zFile _) (hlk) rfl rfl (o.mf_ hs.dropL.has)) ?_
  refine WL.val rfl (run_assign) ?_
  refine WL.nil ?_
  repeat (first | refine CW.seq ?_ | refine CW.block ?_ | refine CW.skip ?_ | refine CW.label ?_ | refine CW.exit ?_ | refine CW.condT rfl ?_ | refine CW.condF rfl ?_)
  refine CW.reg ?_
  refine WL.val rfl (run_move) ?_
  refine WL.val rfl (run_move) ?_
  refine WL.val rfl (run_move) ?_
  refine WL.val rfl (run_move) ?_
  refine WL.val rfl (run_move) ?_
  refine WL.enter rfl (run_call en31 rfl rfl) (hmy (hg.stepS hs h0) hs.dropL.has (hu.sl hs)) ?_
  rintro e w ⟨rfl, hq⟩
  refine ⟨_, rfl, ?_⟩
  replace hs := hs.callE hq
  refine WL.val rfl (run_assign) ?_
  refine WL.nil ?_
  repeat (first | refine CW.seq ?_ | refine CW.block ?_ | refine CW.skip ?_ | refine CW.label ?_ | refine CW.exit ?_ | refine CW.condT rfl ?_ | refine CW.condF rfl ?_)
  refine CW.reg ?_
  refine WL.val rfl (run_move) ?_
  refine WL.val rfl (run_bF (run_neq rfl rfl) (by exact hme0)) ?_
  refine WL.nil ?_
  repeat (first | refine CW.seq ?_ | refine CW.block ?_ | refine CW.skip ?_ | refine CW.label ?_ | refine CW.exit ?_)
  first | refine CW.condP rfl (fun h => ?_) (fun h => ?_) | refine CW.cond rfl (fun h => ?_) (fun h => ?_)
  · cases h
  refine CW.skip ?_
  refine CW.seqM (fun f w => ∃ L1, VRepF bf (M.foldl VS.addDir s) L1 (Fs.map (·.b)) ∧ Step S (L1 ++ Lu) w0 w ∧ Holds f [(0, .pointer (some ⟨bf, 0, none⟩)), (1, str q), (2, .int .i64 (m : Nat)), (10, bVal (Fs.map (·.b)) x)]) ?_ ?_
  · repeat (first | refine CW.seq ?_ | refine CW.block ?_ | refine CW.skip ?_ | refine CW.label ?_ | refine CW.exit ?_ | refine CW.condT rfl ?_ | refine CW.condF rfl ?_)
    refine CW.reg ?_
    refine WL.val rfl (run_move) ?_
    refine WL.val rfl (run_lenSl Tryd.underlying51 rfl) ?_
    refine WL.val rfl (run_move) ?_
    refine WL.nil ?_
    replace hs := hs.append_comm
    repeat (first | refine CW.seq ?_ | refine CW.block ?_ | refine CW.skip ?_ | refine CW.label ?_ | refine CW.exit ?_ | refine CW.condT rfl ?_ | refine CW.condF rfl ?_)
    refine CW.loop (fun z f w' => ∃ i L1, i ≤ M.length ∧ z = M.length - i ∧ VRepF bf ((M.take i).foldl VS.addDir s) L1 (Fs.map (·.b)) ∧ Made ((M.take i).foldl VS.addDir s) (M.drop i) ∧ (∀ e ∈ ((M.take i).foldl VS.addDir s).D, e.2 ≤ ((M.take i).foldl VS.addDir s).D.length + ((M.take i).foldl VS.addDir s).F.length) ∧ ((M.take i).foldl VS.addDir s).D.length = s.D.length + i ∧ Step S (L1 ++ Lu) w0 w' ∧ Holds f [(0, .pointer (some ⟨bf, 0, none⟩)), (1, str q), (2, .int .i64 (m : Nat)), (10, bVal (Fs.map (·.b)) x), (62, .slice au M.length cu), (63, .int .i64 M.length), (64, .int .i64 i)]) (m := M.length) ?_ ?_
    · exact ⟨0, L, by omega, by omega, ⟨mf, md, vh, Lh, Fs, Ds, Hs, o, rfl⟩, hmade, sn.cnt, rfl, hs, rfl, rfl, rfl, fVal_b Fs x, rfl, rfl, rfl, trivial⟩
    · clear hs
      rintro z f w ⟨i, L1, hi, rfl, hR1, hmd, hcnt, hDl, hs, hf⟩
      have hobt := hf.chain
      obtain ⟨g, rfl⟩ := hobt
      have hFe : ((M.take i).foldl VS.addDir s).F.length = s.F.length := by rw [(foldDir_F (M.take i) s).1]
      have hlim := sn.lim
      by_cases hlt : i < M.length
      · have hobt : ∃ d, M[i] = d := ⟨_, rfl⟩
        obtain ⟨d, hd⟩ := hobt
        have hdi : M[i]? = some d := by rw [List.getElem?_eq_getElem hlt, hd]
        have htk : M.take (i + 1) = M.take i ++ [d] := by rw [← List.take_append_getElem hlt, hd]
        have hfo : (M.take (i + 1)).foldl VS.addDir s = ((M.take i).foldl VS.addDir s).addDir d := by rw [htk, List.foldl_append]; rfl
        rw [List.drop_eq_getElem_cons hlt, hd] at hmd
        obtain ⟨hm1, hm2, hm3⟩ := hmd
        have hobt := Option.isSome_iff_exists.1 hm1
        obtain ⟨j, hj⟩ := hobt
        have hobt := cnt_addDir hcnt hm1
        obtain ⟨hc1, hc2⟩ := hobt
        have hdl := hMd d (List.mem_of_getElem? hdi)
        have hsm := hu.some1 (by omega)
        obtain ⟨bp, cp, more, hq1, hqL, hcp⟩ := hsm
        injection hq1 with hq1 hq2 hq3
        subst hq1
        have hcell : w.cell? ⟨bp, 0 + i * 1, none⟩ = some (str d) := by
          rw [hqL] at hs
          rw [cell_blk (hs.at L1), Nat.zero_add, Nat.mul_one, List.getElem?_append_left (by rw [strs_len]; exact hlt)]
          simp [strs, hdi]
        repeat (first | refine CW.seq ?_ | refine CW.block ?_ | refine CW.skip ?_ | refine CW.label ?_ | refine CW.exit ?_ | refine CW.condT rfl ?_ | refine CW.condF rfl ?_)
        refine CW.reg ?_
        refine WL.val rfl (run_bT (run_lss rfl rfl) (by omega)) ?_
        refine WL.nil ?_
        repeat (first | refine CW.seq ?_ | refine CW.block ?_ | refine CW.skip ?_ | refine CW.label ?_ | refine CW.exit ?_)
        first | refine CW.condP rfl (fun h => ?_) (fun h => ?_) | refine CW.cond rfl (fun h => ?_) (fun h => ?_)
        · repeat (first | refine CW.seq ?_ | refine CW.block ?_ | refine CW.skip ?_ | refine CW.label ?_ | refine CW.exit ?_ | refine CW.condT rfl ?_ | refine CW.condF rfl ?_)
          refine CW.reg ?_
          first | refine WL.val rfl (run_ixSlN Tryd.underlying51 ty9 rfl rfl (by omega)) ?_ | refine WL.val rfl (run_ixSl Tryd.underlying51 ty9 rfl rfl (by omega)) ?_
          refine WL.val rfl (run_load1 ty9 rfl (hcell)) ?_
          refine WL.val rfl (run_assign) ?_
          refine WL.nil ?_
          repeat (first | refine CW.seq ?_ | refine CW.block ?_ | refine CW.skip ?_ | refine CW.label ?_ | refine CW.exit ?_ | refine CW.condT rfl ?_ | refine CW.condF rfl ?_)
          refine CW.reg ?_
          refine WL.val rfl (run_move) ?_
          refine WL.val rfl (run_move) ?_
          refine WL.val rfl (run_build rfl (bld_itD d _)) ?_
          refine WL.enter rfl (run_call en28 rfl rfl) (addDir_spec hR1 (fun e he => by have := hcnt e he; omega) (hg.stepS hs h0) (hs.dropR.zero h0 hg) hs.own (by omega) hj (by rw [dir_bump]; exact hm2)) ?_
          rintro e w ⟨L2, rfl, hR2, hqq⟩
          refine ⟨_, rfl, ?_⟩
          replace hs := hs.call hqq
          refine WL.nil ?_
          repeat (first | refine CW.seq ?_ | refine CW.block ?_ | refine CW.skip ?_ | refine CW.label ?_ | refine CW.exit ?_ | refine CW.condT rfl ?_ | refine CW.condF rfl ?_)
          refine CW.reg ?_
          refine WL.val rfl (run_add (c := ((i + 1 : Nat) : Int)) rfl rfl (by omega) (by omega)) ?_
          refine WL.val rfl (run_move) ?_
          refine WL.nil ?_
          rw [← hfo] at hR2 hm3 hc1 hc2
          repeat (first | refine CW.seq ?_ | refine CW.block ?_ | refine CW.skip ?_ | refine CW.label ?_ | refine CW.exit ?_)
          refine (show _ ∧ _ from ⟨rfl, _, ?_, i + 1, L2, by omega, rfl, hR2, hm3, hc1, by omega, hs, rfl, rfl, rfl, rfl, rfl, rfl, rfl, trivial⟩)
          omega
        · cases h
      · have hie : M.take i = M := List.take_of_length_le (by omega)
        rw [hie] at hR1
        repeat (first | refine CW.seq ?_ | refine CW.block ?_ | refine CW.skip ?_ | refine CW.label ?_ | refine CW.exit ?_ | refine CW.condT rfl ?_ | refine CW.condF rfl ?_)
        refine CW.reg ?_
        refine WL.val rfl (run_bF (run_lss rfl rfl) (by omega)) ?_
        refine WL.nil ?_
        repeat (first | refine CW.seq ?_ | refine CW.block ?_ | refine CW.skip ?_ | refine CW.label ?_ | refine CW.exit ?_)
        first | refine CW.condP rfl (fun h => ?_) (fun h => ?_) | refine CW.cond rfl (fun h => ?_) (fun h => ?_)
        · cases h
        repeat (first | refine CW.seq ?_ | refine CW.block ?_ | refine CW.skip ?_ | refine CW.label ?_ | refine CW.exit ?_ | refine CW.condT rfl ?_ | refine CW.condF rfl ?_)
        exact ⟨rfl, L1, hR1, hs, rfl, rfl, rfl, rfl, trivial⟩
  clear hs
  rintro f w ⟨L1, hR1, hs, hf⟩
  have hobt := hf.chain
  obtain ⟨g, rfl⟩ := hobt
  have hobt : ∃ a, s.put1 q M x = a := ⟨_, rfl⟩
  obtain ⟨a, ha⟩ := hobt
  have hlen := put1_len sn.sum hx hpar
  simp only [ha] at hlen ⊢
  have hobt := made_fold M s hmade sn.cnt
  obtain ⟨hcnt1, hDl1, _, _⟩ := hobt
  have hobt := foldDir_F M s
  obtain ⟨e1F, e1b, _⟩ := hobt
  have hlim := sn.lim
  have hbyl := sn.ok.by_
  have hFl1 : (M.foldl VS.addDir s).F.length = s.F.length := by rw [e1F]
  have hFsl : Fs.length = s.F.length := by rw [← o.F, List.length_map]
  have hab : a.1.by_ = s.by_ := by
    rw [← ha]
    cases x with
    | some i => exact e1b
    | none => exact (file_addFile (x := []) hpar (by rw [file_foldDir]; exact hx)).2.2.trans (by rw [e1b]; rfl)
  refine CW.seqM (fun f w => ∃ b L2 bs2, VRepF bf a.1 L2 bs2 ∧ bs2[a.2]? = some b ∧ Step S (L2 ++ Lu) w0 w ∧ Holds f [(0, .pointer (some ⟨bf, 0, none⟩)), (2, .int .i64 (m : Nat)), (10, .pointer (some ⟨b, 0, none⟩))]) ?_ ?_
  · cases x with
    | some i =>
      have hil := hxl i rfl
      have hbv : bVal (Fs.map (·.b)) (some i) = .pointer (some ⟨(Fs[i]'hil).b, 0, none⟩) := by simp [bVal, hil]
      rw [hbv]
      repeat (first | refine CW.seq ?_ | refine CW.block ?_ | refine CW.skip ?_ | refine CW.label ?_ | refine CW.exit ?_ | refine CW.condT rfl ?_ | refine CW.condF rfl ?_)
      refine CW.reg ?_
      refine WL.val rfl (run_move) ?_
      refine WL.val rfl (run_ptrNil Tryd.underlying86 rfl rfl) ?_
      refine WL.nil ?_
      repeat (first | refine CW.seq ?_ | refine CW.block ?_ | refine CW.skip ?_ | refine CW.label ?_ | refine CW.exit ?_)
      first | refine CW.condP rfl (fun h => ?_) (fun h => ?_) | refine CW.cond rfl (fun h => ?_) (fun h => ?_)
      · cases h
      repeat (first | refine CW.seq ?_ | refine CW.block ?_ | refine CW.skip ?_ | refine CW.label ?_ | refine CW.exit ?_ | refine CW.condT rfl ?_ | refine CW.condF rfl ?_)
      exact ⟨rfl, (Fs[i]'hil).b, L1, _, by rw [← ha]; exact hR1, by rw [← ha]; simp [VS.put1, hil], hs, rfl, rfl, rfl, trivial⟩
    | none =>
      have hobt := Option.isSome_iff_exists.1 hpar
      obtain ⟨j, hj⟩ := hobt
      have hobt := file_addFile (x := []) hpar (by rw [file_foldDir]; exact hx)
      obtain ⟨n1, n2, n3⟩ := hobt
      repeat (first | refine CW.seq ?_ | refine CW.block ?_ | refine CW.skip ?_ | refine CW.label ?_ | refine CW.exit ?_ | refine CW.condT rfl ?_ | refine CW.condF rfl ?_)
      refine CW.reg ?_
      refine WL.val rfl (run_move) ?_
      refine WL.val rfl (run_nilNil Tryd.underlying86 rfl rfl) ?_
      refine WL.nil ?_
      repeat (first | refine CW.seq ?_ | refine CW.block ?_ | refine CW.skip ?_ | refine CW.label ?_ | refine CW.exit ?_)
      first | refine CW.condP rfl (fun h => ?_) (fun h => ?_) | refine CW.cond rfl (fun h => ?_) (fun h => ?_)
      · repeat (first | refine CW.seq ?_ | refine CW.block ?_ | refine CW.skip ?_ | refine CW.label ?_ | refine CW.exit ?_ | refine CW.condT rfl ?_ | refine CW.condF rfl ?_)
        refine CW.reg ?_
        refine WL.val rfl (run_move) ?_
        refine WL.val rfl (run_move) ?_
        refine WL.val rfl (run_build rfl (bld_itF q _)) ?_
        refine WL.enter rfl (run_call en28 rfl rfl) (addFile_spec (x := []) hR1 (fun e he => by have := hcnt1 e he; omega) (by omega) (hg.stepS hs h0) (hs.dropR.zero h0 hg) hs.own (by omega) (by simp) (fun _ => Sl.nil _ _ _) hj (by rw [show ∀ s : VS, (s.bump j).file q = s.file q from fun _ => rfl, file_foldDir]; exact hx)) ?_
        rintro e w ⟨L2, b, rfl, hR2, hqq⟩
        refine ⟨_, rfl, ?_⟩
        replace hs := hs.call hqq
        refine WL.nil ?_
        have hR2' := hR2
        obtain ⟨mf2, md2, vh2, Lh2, Fs2, Ds2, Hs2, o2, hb2⟩ := hR2'
        have hlk2 := (o2.lookF q).trans ((congrArg (fVal Fs2) n1).trans (fVal_b _ _))
        rw [hb2] at hlk2
        have hbn : (Fs.map (·.b) ++ [b])[(M.foldl VS.addDir s).F.length]? = some b := by
          rw [hFl1, ← hFsl, List.getElem?_append_right (by simp)]
          simp
        have hbv : bVal (Fs.map (·.b) ++ [b]) (some (M.foldl VS.addDir s).F.length) = .pointer (some ⟨b, 0, none⟩) := by
          unfold bVal
          simp only [hbn, Option.map_some]
        rw [hbv] at hlk2
        repeat (first | refine CW.seq ?_ | refine CW.block ?_ | refine CW.skip ?_ | refine CW.label ?_ | refine CW.exit ?_ | refine CW.condT rfl ?_ | refine CW.condF rfl ?_)
        refine CW.reg ?_
        refine WL.val rfl (run_move) ?_
        refine WL.val rfl (run_nilCheck rfl) ?_
        refine WL.val rfl (run_field (o' := 0) Tryd.underlying81 rfl ty72 rfl rfl rfl) ?_
        refine WL.val rfl (run_load1 ty72 rfl ((o2.at (hs.dropR.has)).cell (j := 0) rfl)) ?_
        refine WL.val rfl (run_move) ?_
        refine WL.val rfl (run_lookupSE Tryd.underlying72 Tryd.underlying9 (zFile _) (hlk2) rfl rfl (o2.mf_ hs.dropR.has)) ?_
        refine WL.val rfl (run_assign) ?_
        refine WL.nil ?_
        repeat (first | refine CW.seq ?_ | refine CW.block ?_ | refine CW.skip ?_ | refine CW.label ?_ | refine CW.exit ?_ | refine CW.condT rfl ?_ | refine CW.condF rfl ?_)
        exact ⟨rfl, b, L2, _, by rw [← ha]; exact hR2, by rw [← ha]; exact hbn, hs, rfl, rfl, rfl, trivial⟩
      · cases h
  clear hs hf hR1
  rintro f w ⟨b, L2, bs2, hR2, hbi, hs, hf⟩
  have hobt := hf.chain
  obtain ⟨g, rfl⟩ := hobt
  refine CW.seqM (fun f w => ∃ L3 bs3, VRepF bf (a.1.cutI m a.2) L3 bs3 ∧ bs3[a.2]? = some b ∧ Step S (L3 ++ Lu) w0 w ∧ Holds f [(0, .pointer (some ⟨bf, 0, none⟩)), (2, .int .i64 (m : Nat)), (10, .pointer (some ⟨b, 0, none⟩))]) ?_ ?_
  · by_cases hm2 : m % 4 = 2
    · obtain ⟨mf2, md2, vh2, Lh2, Fs2, Ds2, Hs2, o2, rfl⟩ := hR2
      obtain ⟨r, hr, hrb⟩ : ∃ r, Fs2[a.2]? = some r ∧ r.b = b := by
        rw [List.getElem?_map] at hbi
        cases hx : Fs2[a.2]? with
        | none => rw [hx] at hbi; cases hbi
        | some r => rw [hx] at hbi; exact ⟨r, rfl, by simpa using hbi⟩
      subst hrb
      have hobt := (o2.fs r (List.mem_of_getElem? hr)).form
      obtain ⟨av, cv, hvf⟩ := hobt
      have hop := o2.openF hr
      have hobt := o2.setF hr
      obtain ⟨L3, o3, hset⟩ := hobt
      have hobt : ∃ R, restF mf2 md2 Lh2 Fs2 Ds2 Hs2 a.2 = R := ⟨_, rfl⟩
      obtain ⟨R, hRe⟩ := hobt
      rw [hRe] at hop hset
      have hln := o2.len_ hr
      rw [hln] at hlen
      have hs2 := hs.perm (hop.append_right Lu)
      clear hs
      have hs : Step S ((r.b, blk 89 [str r.p, .slice av r.x.length cv]) :: (bf, blk 81 (fsC mf2 md2 vh2 a.1)) :: ((r.Lv ++ R) ++ Lu)) w0 w := by rw [← hvf]; exact hs2
      have hbs : ((a.1.by_ : Nat) : Int) - (r.x.length : Nat) = ((a.1.by_ - r.x.length : Nat) : Int) := by omega
      repeat (first | refine CW.seq ?_ | refine CW.block ?_ | refine CW.skip ?_ | refine CW.label ?_ | refine CW.exit ?_ | refine CW.condT rfl ?_ | refine CW.condF rfl ?_)
      refine CW.reg ?_
      refine WL.val rfl (run_move) ?_
      refine WL.val rfl (run_and3 hm8 rfl rfl) ?_
      refine WL.val rfl (run_bT (run_eql rfl rfl) (by (exact_mod_cast hm2))) ?_
      refine WL.nil ?_
      repeat (first | refine CW.seq ?_ | refine CW.block ?_ | refine CW.skip ?_ | refine CW.label ?_ | refine CW.exit ?_)
      first | refine CW.condP rfl (fun h => ?_) (fun h => ?_) | refine CW.cond rfl (fun h => ?_) (fun h => ?_)
      · repeat (first | refine CW.seq ?_ | refine CW.block ?_ | refine CW.skip ?_ | refine CW.label ?_ | refine CW.exit ?_ | refine CW.condT rfl ?_ | refine CW.condF rfl ?_)
        refine CW.quietT (l1 := [_, _, _, _, _, _, _, _, _, _, _, _]) (l2 := [_]) 12 rfl mixedP rfl (by kernel_rfl) hs ?_
        refine QL.val rfl (fun w hs => run_move) ?_
        refine QL.val rfl (fun w hs => run_nilCheck rfl) ?_
        refine QL.val rfl (fun w hs => run_field (o' := 6) Tryd.underlying81 rfl ty3 rfl rfl rfl) ?_
        refine QL.val rfl (fun w hs => run_load1 ty3 rfl (hs.c1 (v := .int .i64 (a.1.by_ : Nat)) rfl)) ?_
        refine QL.val rfl (fun w hs => run_move) ?_
        refine QL.val rfl (fun w hs => run_nilCheck rfl) ?_
        refine QL.val rfl (fun w hs => run_field (o' := 1) Tryd.underlying89 rfl ty34 rfl rfl rfl) ?_
        refine QL.val rfl (fun w hs => run_load1 ty34 rfl (hs.c0 (v := .slice av r.x.length cv) rfl)) ?_
        refine QL.val rfl (fun w hs => run_lenSl Tryd.underlying34 rfl) ?_
        refine QL.val rfl (fun w hs => run_sub (c := ((a.1.by_ - r.x.length : Nat) : Int)) rfl rfl (by omega) (by omega)) ?_
        refine QL.val rfl (fun w hs => run_nilCheck rfl) ?_
        refine QL.val rfl (fun w hs => run_field (o' := 6) Tryd.underlying81 rfl ty3 rfl rfl rfl) ?_
        refine QL.nil (fun w hs => ?_)
        first | refine WL.store1 ty3 rfl rfl (rfl) hs (by first | (simp; done) | omega | (simp only [List.length_append, List.length_replicate, List.length_cons, List.length_nil, List.length_set]; omega) | (simp [Ent.cells, u8s]; done) | exact Nat.le_of_ble_eq_true rfl) (fun w hs => ?_) | refine WL.store1_1 ty3 rfl rfl (rfl) hs (by first | (simp; done) | omega | (simp only [List.length_append, List.length_replicate, List.length_cons, List.length_nil, List.length_set]; omega) | (simp [Ent.cells, u8s]; done) | exact Nat.le_of_ble_eq_true rfl) (fun w hs => ?_) | refine WL.store1_2 ty3 rfl rfl (rfl) hs (by first | (simp; done) | omega | (simp only [List.length_append, List.length_replicate, List.length_cons, List.length_nil, List.length_set]; omega) | (simp [Ent.cells, u8s]; done) | exact Nat.le_of_ble_eq_true rfl) (fun w hs => ?_) | refine WL.store1_3 ty3 rfl rfl (rfl) hs (by first | (simp; done) | omega | (simp only [List.length_append, List.length_replicate, List.length_cons, List.length_nil, List.length_set]; omega) | (simp [Ent.cells, u8s]; done) | exact Nat.le_of_ble_eq_true rfl) (fun w hs => ?_) | refine WL.store1_4 ty3 rfl rfl (rfl) hs (by first | (simp; done) | omega | (simp only [List.length_append, List.length_replicate, List.length_cons, List.length_nil, List.length_set]; omega) | (simp [Ent.cells, u8s]; done) | exact Nat.le_of_ble_eq_true rfl) (fun w hs => ?_) | refine WL.store1 ty3 rfl rfl (rfl) hs (by first | (simp; done) | omega | (simp only [List.length_append, List.length_replicate, List.length_cons, List.length_nil, List.length_set]; omega) | (simp [Ent.cells, u8s]; done) | exact Nat.le_of_ble_eq_true rfl) (fun w hs => ?_)
        refine WL.nil ?_
        repeat (first | refine CW.seq ?_ | refine CW.block ?_ | refine CW.skip ?_ | refine CW.label ?_ | refine CW.exit ?_ | refine CW.condT rfl ?_ | refine CW.condF rfl ?_)
        refine CW.reg ?_
        refine WL.val rfl (run_move) ?_
        refine WL.val rfl (run_nilCheck rfl) ?_
        refine WL.val rfl (run_field (o' := 1) Tryd.underlying89 rfl ty34 rfl rfl rfl) ?_
        first | refine WL.store1 ty34 rfl rfl (rfl) hs (by first | (simp; done) | omega | (simp only [List.length_append, List.length_replicate, List.length_cons, List.length_nil, List.length_set]; omega) | (simp [Ent.cells, u8s]; done) | exact Nat.le_of_ble_eq_true rfl) (fun w hs => ?_) | refine WL.store1_1 ty34 rfl rfl (rfl) hs (by first | (simp; done) | omega | (simp only [List.length_append, List.length_replicate, List.length_cons, List.length_nil, List.length_set]; omega) | (simp [Ent.cells, u8s]; done) | exact Nat.le_of_ble_eq_true rfl) (fun w hs => ?_) | refine WL.store1_2 ty34 rfl rfl (rfl) hs (by first | (simp; done) | omega | (simp only [List.length_append, List.length_replicate, List.length_cons, List.length_nil, List.length_set]; omega) | (simp [Ent.cells, u8s]; done) | exact Nat.le_of_ble_eq_true rfl) (fun w hs => ?_) | refine WL.store1_3 ty34 rfl rfl (rfl) hs (by first | (simp; done) | omega | (simp only [List.length_append, List.length_replicate, List.length_cons, List.length_nil, List.length_set]; omega) | (simp [Ent.cells, u8s]; done) | exact Nat.le_of_ble_eq_true rfl) (fun w hs => ?_) | refine WL.store1_4 ty34 rfl rfl (rfl) hs (by first | (simp; done) | omega | (simp only [List.length_append, List.length_replicate, List.length_cons, List.length_nil, List.length_set]; omega) | (simp [Ent.cells, u8s]; done) | exact Nat.le_of_ble_eq_true rfl) (fun w hs => ?_) | refine WL.store1 ty34 rfl rfl (rfl) hs (by first | (simp; done) | omega | (simp only [List.length_append, List.length_replicate, List.length_cons, List.length_nil, List.length_set]; omega) | (simp [Ent.cells, u8s]; done) | exact Nat.le_of_ble_eq_true rfl) (fun w hs => ?_)
        refine WL.nil ?_
        repeat (first | refine CW.seq ?_ | refine CW.block ?_ | refine CW.skip ?_ | refine CW.label ?_ | refine CW.exit ?_ | refine CW.condT rfl ?_ | refine CW.condF rfl ?_)
        replace hs : Step S ((r.b, blk 89 [str r.p, .slice none 0 0]) :: (bf, blk 81 (fsC mf2 md2 vh2 (a.1.trunc a.2))) :: ((r.Lv ++ R) ++ Lu)) w0 w := by
          have e : fsC mf2 md2 vh2 (a.1.trunc a.2) = (fsC mf2 md2 vh2 a.1).set 6 (.int .i64 ((a.1.by_ - r.x.length : Nat) : Int)) := by
            simp only [fsC, VS.trunc, hln]
            rfl
          rw [e]
          exact hs
        have hs4 := (hs.perm perm_cut).dropL
        refine ⟨rfl, L3, _, ⟨mf2, md2, vh2, Lh2, _, Ds2, Hs2, by rw [show a.1.cutI m a.2 = a.1.trunc a.2 from if_pos hm2]; exact o3, rfl⟩, ?_, hs4.perm (hset.append_right Lu), rfl, rfl, rfl, trivial⟩
        rw [List.getElem?_map, List.getElem?_set_self (List.getElem?_eq_some_iff.1 hr).1]
        rfl
      · cases h
    · repeat (first | refine CW.seq ?_ | refine CW.block ?_ | refine CW.skip ?_ | refine CW.label ?_ | refine CW.exit ?_ | refine CW.condT rfl ?_ | refine CW.condF rfl ?_)
      refine CW.reg ?_
      refine WL.val rfl (run_move) ?_
      refine WL.val rfl (run_and3 hm8 rfl rfl) ?_
      refine WL.val rfl (run_bF (run_eql rfl rfl) (by (exact_mod_cast hm2))) ?_
      refine WL.nil ?_
      repeat (first | refine CW.seq ?_ | refine CW.block ?_ | refine CW.skip ?_ | refine CW.label ?_ | refine CW.exit ?_)
      first | refine CW.condP rfl (fun h => ?_) (fun h => ?_) | refine CW.cond rfl (fun h => ?_) (fun h => ?_)
      · cases h
      repeat (first | refine CW.seq ?_ | refine CW.block ?_ | refine CW.skip ?_ | refine CW.label ?_ | refine CW.exit ?_ | refine CW.condT rfl ?_ | refine CW.condF rfl ?_)
      exact ⟨rfl, L2, bs2, by rw [show a.1.cutI m a.2 = a.1 from if_neg hm2]; exact hR2, hbi, hs, rfl, rfl, rfl, trivial⟩
  clear hs hf hR2
  rintro f w ⟨L3, bs3, hR3, hbi, hs, hf⟩
  have hobt := hf.chain
  obtain ⟨g, rfl⟩ := hobt
  have hH3 : (a.1.cutI m a.2).H = s.H := by
    have h1 : a.1.H = s.H := by
      rw [← ha]
      cases x with
      | some i => exact (foldDir_F M s).2.2.1
      | none =>
        show ((M.foldl VS.addDir s).addFile q []).H = s.H
        rw [← (foldDir_F M s).2.2.1]
        unfold VS.addFile
        split <;> rfl
    unfold VS.cutI
    split
    · exact h1
    · exact h1
  have hop3 : (a.1.cutI m a.2).op = s.op := by
    have h1 : a.1.op = s.op := by
      rw [← ha]
      cases x with
      | some i => exact (foldDir_F M s).2.2.2.1
      | none =>
        show ((M.foldl VS.addDir s).addFile q []).op = s.op
        rw [← (foldDir_F M s).2.2.2.1]
        unfold VS.addFile
        split <;> rfl
    unfold VS.cutI
    split
    · exact h1
    · exact h1
  have hobt : ∃ t3, a.1.cutI m a.2 = t3 := ⟨_, rfl⟩
  obtain ⟨t3, ht3⟩ := hobt
  rw [ht3] at hR3 hH3 hop3
  simp only [ht3]
  have hobt : ∃ fi, a.2 = fi := ⟨_, rfl⟩
  obtain ⟨fi, hfi⟩ := hobt
  rw [hfi] at hbi ⊢
  obtain ⟨mf3, md3, vh3, Lh3, Fs3, Ds3, Hs3, o3, rfl⟩ := hR3
  obtain ⟨r, hr, hrb⟩ : ∃ r, Fs3[fi]? = some r ∧ r.b = b := by
    rw [List.getElem?_map] at hbi
    cases hx : Fs3[fi]? with
    | none => rw [hx] at hbi; cases hbi
    | some r => rw [hx] at hbi; exact ⟨r, rfl, by simpa using hbi⟩
  subst hrb
  have hHl3 : Hs3.length = s.H.length := by rw [← hH3, ← o3.H, List.length_map]
  have hhl := sn.hl
  have hopl := sn.ok.op
  have hvo := o3.vh
  have hobt := hvo.form
  obtain ⟨ah, ch, rfl⟩ := hobt
  have hidx := fun {w} hw => idx_spec (Hs := Hs3) w (o3.hsl hw) (by omega)
  have hslot : t3.slotI = (Hs3.findIdx? Option.isNone).getD Hs3.length := by
    unfold VS.slotI
    rw [← o3.H, List.length_map, List.findIdx?_map]
    congr 2
    funext x
    cases x <;> rfl
  have hL3 := o3.L
  cases hfr : Hs3.findIdx? Option.isNone with
  | some k =>
    have hobt := List.findIdx?_eq_some_iff_getElem.1 hfr
    obtain ⟨hkl, hkn, _⟩ := hobt
    have hk : Hs3[k]? = some none := by
      rw [List.getElem?_eq_getElem hkl]
      cases hx : Hs3[k] with
      | none => rfl
      | some b => rw [hx] at hkn; cases hkn
    have hks : t3.slotI = k := by rw [hslot, hfr]; rfl
    have hfree : freeI Hs3 = (k : Nat) := by unfold freeI; rw [hfr]
    simp only [hfree] at hidx
    have hobt := hvo.some1 (by omega)
    obtain ⟨bl, cap, more, hq1, hqL, hcap⟩ := hobt
    injection hq1 with hq1 hq2 hq3
    subst hq1
    subst hq3
    have hobt : ∃ cap, cap = ch := ⟨_, rfl⟩
    obtain ⟨cap, rfl⟩ := hobt
    rw [hqL, List.singleton_append] at hL3
    repeat (first | refine CW.seq ?_ | refine CW.block ?_ | refine CW.skip ?_ | refine CW.label ?_ | refine CW.exit ?_ | refine CW.condT rfl ?_ | refine CW.condF rfl ?_)
    refine CW.reg ?_
    refine WL.val rfl (run_move) ?_
    refine WL.val rfl (run_nilCheck rfl) ?_
    refine WL.val rfl (run_field (o' := 2) Tryd.underlying81 rfl ty79 rfl rfl rfl) ?_
    refine WL.val rfl (run_load1 ty79 rfl ((o3.at hs.dropR.has).cell (j := 2) rfl)) ?_
    refine WL.enter rfl (run_call en32 rfl rfl) (hidx hs.dropR.has) ?_
    rintro e w ⟨rfl, hq⟩
    refine ⟨_, rfl, ?_⟩
    replace hs := hs.callE hq
    refine WL.val rfl (run_assign) ?_
    refine WL.nil ?_
    repeat (first | refine CW.seq ?_ | refine CW.block ?_ | refine CW.skip ?_ | refine CW.label ?_ | refine CW.exit ?_ | refine CW.condT rfl ?_ | refine CW.condF rfl ?_)
    refine CW.reg ?_
    refine WL.val rfl (run_move) ?_
    refine WL.val rfl (run_bF (run_lss rfl rfl) (by omega)) ?_
    refine WL.nil ?_
    repeat (first | refine CW.seq ?_ | refine CW.block ?_ | refine CW.skip ?_ | refine CW.label ?_ | refine CW.exit ?_)
    first | refine CW.condP rfl (fun h => ?_) (fun h => ?_) | refine CW.cond rfl (fun h => ?_) (fun h => ?_)
    · cases h
    replace hs := hs.dropR
    rw [hL3] at hs
    have hH2 : Hs3 = Hs3 ∨ Hs3 = Hs3 ++ [none] ∧ k = Hs3.length := .inl rfl
    replace hs := hs.perm perm_h4
    replace hs : Step S ((bf, blk 81 (fsC mf3 md3 (.slice (some ⟨bl, 0, none⟩) Hs3.length cap) t3)) :: (bl, blk 91 (Hs3.map HB.val ++ more)) :: (mf3, mapS (mapF Fs3 0) Fs3.length) :: (md3, mapS (mapDi Ds3 0) Ds3.length) :: (Fs3.flatMap FB.own ++ (Ds3.flatMap DB.own ++ Hs3.flatMap HB.own))) w0 w := hs
    have hk2 := (List.getElem?_eq_some_iff.1 hk).1
    have hmk : Hs3.length ≤ cap := by
      rw [List.length_append, List.length_map] at hcap
      omega
    have hlm : (Hs3.map HB.val ++ more).length = Hs3.length + more.length := by simp
    repeat (first | refine CW.seq ?_ | refine CW.block ?_ | refine CW.skip ?_ | refine CW.label ?_ | refine CW.exit ?_ | refine CW.condT rfl ?_ | refine CW.condF rfl ?_)
    refine CW.reg ?_
    refine WL.val rfl (run_move) ?_
    refine WL.val rfl (run_nilCheck rfl) ?_
    refine WL.val rfl (run_field (o' := 2) Tryd.underlying81 rfl ty79 rfl rfl rfl) ?_
    refine WL.val rfl (run_load1 ty79 rfl (hs.c0 (v := .slice (some ⟨bl, 0, none⟩) Hs3.length cap) rfl)) ?_
    refine WL.val rfl (run_move) ?_
    refine WL.val rfl (run_move) ?_
    refine WL.val rfl (run_move) ?_
    refine WL.val rfl (run_and3 hm8 rfl rfl) ?_
    refine WL.val rfl (run_build rfl (bld_hdl _ _ _)) ?_
    refine WL.box (cs := [.pointer (some ⟨r.b, 0, none⟩), .int .i64 ((0 : Nat) : Int), .int .i64 (m % 4 : Nat)]) rfl rfl rfl hs (fun b133 w hs => ?_)
    first | refine WL.val rfl (run_ixSlN Tryd.underlying79 ty91 rfl rfl (by omega)) ?_ | refine WL.val rfl (run_ixSl Tryd.underlying79 ty91 rfl rfl (by omega)) ?_
    first | refine WL.store1 ty91 rfl rfl (rfl) hs (by first | (simp; done) | omega | (simp only [List.length_append, List.length_replicate, List.length_cons, List.length_nil, List.length_set]; omega) | (simp [Ent.cells, u8s]; done) | exact Nat.le_of_ble_eq_true rfl) (fun w hs => ?_) | refine WL.store1_1 ty91 rfl rfl (rfl) hs (by first | (simp; done) | omega | (simp only [List.length_append, List.length_replicate, List.length_cons, List.length_nil, List.length_set]; omega) | (simp [Ent.cells, u8s]; done) | exact Nat.le_of_ble_eq_true rfl) (fun w hs => ?_) | refine WL.store1_2 ty91 rfl rfl (rfl) hs (by first | (simp; done) | omega | (simp only [List.length_append, List.length_replicate, List.length_cons, List.length_nil, List.length_set]; omega) | (simp [Ent.cells, u8s]; done) | exact Nat.le_of_ble_eq_true rfl) (fun w hs => ?_) | refine WL.store1_3 ty91 rfl rfl (rfl) hs (by first | (simp; done) | omega | (simp only [List.length_append, List.length_replicate, List.length_cons, List.length_nil, List.length_set]; omega) | (simp [Ent.cells, u8s]; done) | exact Nat.le_of_ble_eq_true rfl) (fun w hs => ?_) | refine WL.store1_4 ty91 rfl rfl (rfl) hs (by first | (simp; done) | omega | (simp only [List.length_append, List.length_replicate, List.length_cons, List.length_nil, List.length_set]; omega) | (simp [Ent.cells, u8s]; done) | exact Nat.le_of_ble_eq_true rfl) (fun w hs => ?_) | refine WL.store1 ty91 rfl rfl (rfl) hs (by first | (simp; done) | omega | (simp only [List.length_append, List.length_replicate, List.length_cons, List.length_nil, List.length_set]; omega) | (simp [Ent.cells, u8s]; done) | exact Nat.le_of_ble_eq_true rfl) (fun w hs => ?_)
    refine WL.nil ?_
    repeat (first | refine CW.seq ?_ | refine CW.block ?_ | refine CW.skip ?_ | refine CW.label ?_ | refine CW.exit ?_ | refine CW.condT rfl ?_ | refine CW.condF rfl ?_)
    refine CW.reg ?_
    refine WL.val rfl (run_move) ?_
    refine WL.val rfl (run_nilCheck rfl) ?_
    refine WL.val rfl (run_field (o' := 7) Tryd.underlying81 rfl ty3 rfl rfl rfl) ?_
    refine WL.val rfl (run_load1 ty3 rfl (hs.c1 (v := .int .i64 (t3.op : Nat)) rfl)) ?_
    refine WL.val rfl (run_add (c := ((t3.op + 1 : Nat) : Int)) rfl rfl (by omega) (by omega)) ?_
    refine WL.val rfl (run_nilCheck rfl) ?_
    refine WL.val rfl (run_field (o' := 7) Tryd.underlying81 rfl ty3 rfl rfl rfl) ?_
    first | refine WL.store1 ty3 rfl rfl (rfl) hs (by first | (simp; done) | omega | (simp only [List.length_append, List.length_replicate, List.length_cons, List.length_nil, List.length_set]; omega) | (simp [Ent.cells, u8s]; done) | exact Nat.le_of_ble_eq_true rfl) (fun w hs => ?_) | refine WL.store1_1 ty3 rfl rfl (rfl) hs (by first | (simp; done) | omega | (simp only [List.length_append, List.length_replicate, List.length_cons, List.length_nil, List.length_set]; omega) | (simp [Ent.cells, u8s]; done) | exact Nat.le_of_ble_eq_true rfl) (fun w hs => ?_) | refine WL.store1_2 ty3 rfl rfl (rfl) hs (by first | (simp; done) | omega | (simp only [List.length_append, List.length_replicate, List.length_cons, List.length_nil, List.length_set]; omega) | (simp [Ent.cells, u8s]; done) | exact Nat.le_of_ble_eq_true rfl) (fun w hs => ?_) | refine WL.store1_3 ty3 rfl rfl (rfl) hs (by first | (simp; done) | omega | (simp only [List.length_append, List.length_replicate, List.length_cons, List.length_nil, List.length_set]; omega) | (simp [Ent.cells, u8s]; done) | exact Nat.le_of_ble_eq_true rfl) (fun w hs => ?_) | refine WL.store1_4 ty3 rfl rfl (rfl) hs (by first | (simp; done) | omega | (simp only [List.length_append, List.length_replicate, List.length_cons, List.length_nil, List.length_set]; omega) | (simp [Ent.cells, u8s]; done) | exact Nat.le_of_ble_eq_true rfl) (fun w hs => ?_) | refine WL.store1 ty3 rfl rfl (rfl) hs (by first | (simp; done) | omega | (simp only [List.length_append, List.length_replicate, List.length_cons, List.length_nil, List.length_set]; omega) | (simp [Ent.cells, u8s]; done) | exact Nat.le_of_ble_eq_true rfl) (fun w hs => ?_)
    refine WL.nil ?_
    repeat (first | refine CW.seq ?_ | refine CW.block ?_ | refine CW.skip ?_ | refine CW.label ?_ | refine CW.exit ?_ | refine CW.condT rfl ?_ | refine CW.condF rfl ?_)
    refine CW.reg ?_
    refine WL.val rfl (run_move) ?_
    refine WL.val rfl (run_assign) ?_
    refine WL.val rfl (run_assign) ?_
    refine WL.nil ?_
    repeat (first | refine CW.seq ?_ | refine CW.block ?_ | refine CW.skip ?_ | refine CW.label ?_ | refine CW.exit ?_ | refine CW.condT rfl ?_ | refine CW.condF rfl ?_)
    refine CW.ret ?_
    refine fin_ret2 rfl ?_
    have hset : (Hs3.map HB.val ++ more).set (0 + k * 1) (.pointer (some ⟨b133, 0, none⟩)) = (Hs3.map HB.val).set k (.pointer (some ⟨b133, 0, none⟩)) ++ more := by
      rw [Nat.zero_add, Nat.mul_one, List.set_append_left _ _ (by simpa using hk2)]
    replace hs : Step S ((b133, blk 93 [.pointer (some ⟨r.b, 0, none⟩), .int .i64 ((0 : Nat) : Int), .int .i64 (m % 4 : Nat)]) :: (bf, blk 81 (fsC mf3 md3 (.slice (some ⟨bl, 0, none⟩) Hs3.length cap) { t3 with op := t3.op + 1 })) :: (bl, blk 91 ((Hs3.map HB.val).set k (.pointer (some ⟨b133, 0, none⟩)) ++ more)) :: (mf3, mapS (mapF Fs3 0) Fs3.length) :: (md3, mapS (mapDi Ds3 0) Ds3.length) :: (Fs3.flatMap FB.own ++ (Ds3.flatMap DB.own ++ Hs3.flatMap HB.own))) w0 w := by rw [← hset]; exact hs
    have hobt := o3.grabH (b := b133) (bn := b133) (bl := bl) (mo := m % 4) hr hH2 hk hks.symm hcap (List.Perm.refl _)
    obtain ⟨L', hL', hp⟩ := hobt
    exact ⟨L', congrArg (fun z : Nat => Ending.returned (.tuple #[.int .i64 (z : Int), .int .i64 0])) hks.symm, hL', hs.perm hp⟩
  | none =>
    have hks : t3.slotI = Hs3.length := by rw [hslot, hfr]; rfl
    have hfree : freeI Hs3 = -1 := by unfold freeI; rw [hfr]
    simp only [hfree] at hidx
    repeat (first | refine CW.seq ?_ | refine CW.block ?_ | refine CW.skip ?_ | refine CW.label ?_ | refine CW.exit ?_ | refine CW.condT rfl ?_ | refine CW.condF rfl ?_)
    refine CW.reg ?_
    refine WL.val rfl (run_move) ?_
    refine WL.val rfl (run_nilCheck rfl) ?_
    refine WL.val rfl (run_field (o' := 2) Tryd.underlying81 rfl ty79 rfl rfl rfl) ?_
    refine WL.val rfl (run_load1 ty79 rfl ((o3.at hs.dropR.has).cell (j := 2) rfl)) ?_
    refine WL.enter rfl (run_call en32 rfl rfl) (hidx hs.dropR.has) ?_
    rintro e w ⟨rfl, hq⟩
    refine ⟨_, rfl, ?_⟩
    replace hs := hs.callE hq
    refine WL.val rfl (run_assign) ?_
    refine WL.nil ?_
    repeat (first | refine CW.seq ?_ | refine CW.block ?_ | refine CW.skip ?_ | refine CW.label ?_ | refine CW.exit ?_ | refine CW.condT rfl ?_ | refine CW.condF rfl ?_)
    refine CW.reg ?_
    refine WL.val rfl (run_move) ?_
    refine WL.val rfl (run_bT (run_lss rfl rfl) (by omega)) ?_
    refine WL.nil ?_
    repeat (first | refine CW.seq ?_ | refine CW.block ?_ | refine CW.skip ?_ | refine CW.label ?_ | refine CW.exit ?_)
    first | refine CW.condP rfl (fun h => ?_) (fun h => ?_) | refine CW.cond rfl (fun h => ?_) (fun h => ?_)
    · replace hs := hs.dropR
      rw [hL3] at hs
      repeat (first | refine CW.seq ?_ | refine CW.block ?_ | refine CW.skip ?_ | refine CW.label ?_ | refine CW.exit ?_ | refine CW.condT rfl ?_ | refine CW.condF rfl ?_)
      refine CW.reg ?_
      refine WL.val rfl (run_move) ?_
      refine WL.val rfl (run_nilCheck rfl) ?_
      refine WL.val rfl (run_field (o' := 2) Tryd.underlying81 rfl ty79 rfl rfl rfl) ?_
      refine WL.val rfl (run_load1 ty79 rfl (hs.c0 (v := .slice ah Hs3.length ch) rfl)) ?_
      refine WL.val rfl (run_lenSl Tryd.underlying79 rfl) ?_
      refine WL.val rfl (run_assign) ?_
      refine WL.nil ?_
      repeat (first | refine CW.seq ?_ | refine CW.block ?_ | refine CW.skip ?_ | refine CW.label ?_ | refine CW.exit ?_ | refine CW.condT rfl ?_ | refine CW.condF rfl ?_)
      refine CW.reg ?_
      refine WL.val rfl (run_move) ?_
      refine WL.val rfl (run_move) ?_
      refine WL.val rfl (run_nilCheck rfl) ?_
      refine WL.val rfl (run_field (o' := 2) Tryd.underlying81 rfl ty79 rfl rfl rfl) ?_
      refine WL.val rfl (run_load1 ty79 rfl (hs.c0 (v := .slice ah Hs3.length ch) rfl)) ?_
      refine WL.buildSlice (cs := [.pointer none]) Tryd.underlying79 ty91 rfl (by decide) rfl (filled_s _ _ rfl) rfl hs (fun b120 w hs => ?_)
      have hsl1 : Sl w 1 (.slice (some ⟨b120, 0, none⟩) 1 1) 1 [.pointer none] := .own1 hs rfl
      refine WL.append Tryd.underlying79 Tryd.underlying79 ty91 rfl (by decide) rfl rfl (hvo) ((hs.perm perm_h1)) (hsl1) (Cells1.of_all rfl) (by first | omega | (simp only [List.length_append, List.length_cons, List.length_nil]; omega)) rfl (fun v121 Lv121 w hv121 hs => ?_)
      have hsm := hv121.some1 (by omega)
      obtain ⟨bl, cap, more, hq1, hqL, hcap⟩ := hsm
      subst hq1
      subst hqL
      replace hs := hs.perm perm_h2
      refine WL.val rfl (run_nilCheck rfl) ?_
      refine WL.val rfl (run_field (o' := 2) Tryd.underlying81 rfl ty79 rfl rfl rfl) ?_
      first | refine WL.store1 ty79 rfl rfl (rfl) hs (by first | (simp; done) | omega | (simp only [List.length_append, List.length_replicate, List.length_cons, List.length_nil, List.length_set]; omega) | (simp [Ent.cells, u8s]; done) | exact Nat.le_of_ble_eq_true rfl) (fun w hs => ?_) | refine WL.store1_1 ty79 rfl rfl (rfl) hs (by first | (simp; done) | omega | (simp only [List.length_append, List.length_replicate, List.length_cons, List.length_nil, List.length_set]; omega) | (simp [Ent.cells, u8s]; done) | exact Nat.le_of_ble_eq_true rfl) (fun w hs => ?_) | refine WL.store1_2 ty79 rfl rfl (rfl) hs (by first | (simp; done) | omega | (simp only [List.length_append, List.length_replicate, List.length_cons, List.length_nil, List.length_set]; omega) | (simp [Ent.cells, u8s]; done) | exact Nat.le_of_ble_eq_true rfl) (fun w hs => ?_) | refine WL.store1_3 ty79 rfl rfl (rfl) hs (by first | (simp; done) | omega | (simp only [List.length_append, List.length_replicate, List.length_cons, List.length_nil, List.length_set]; omega) | (simp [Ent.cells, u8s]; done) | exact Nat.le_of_ble_eq_true rfl) (fun w hs => ?_) | refine WL.store1_4 ty79 rfl rfl (rfl) hs (by first | (simp; done) | omega | (simp only [List.length_append, List.length_replicate, List.length_cons, List.length_nil, List.length_set]; omega) | (simp [Ent.cells, u8s]; done) | exact Nat.le_of_ble_eq_true rfl) (fun w hs => ?_) | refine WL.store1 ty79 rfl rfl (rfl) hs (by first | (simp; done) | omega | (simp only [List.length_append, List.length_replicate, List.length_cons, List.length_nil, List.length_set]; omega) | (simp [Ent.cells, u8s]; done) | exact Nat.le_of_ble_eq_true rfl) (fun w hs => ?_)
      refine WL.nil ?_
      have hH2 : Hs3 ++ [none] = Hs3 ∨ Hs3 ++ [none] = Hs3 ++ [none] ∧ Hs3.length = Hs3.length := .inr ⟨rfl, rfl⟩
      have hmv : (Hs3 ++ [none]).map HB.val = Hs3.map HB.val ++ [.pointer none] := by simp [HB.val]
      have hl2 : (Hs3 ++ [none]).length = Hs3.length + 1 := by simp
      have hk : (Hs3 ++ [none])[Hs3.length]? = some none := by rw [List.getElem?_append_right (Nat.le_refl _)]; simp
      replace hs := (hs.perm perm_h3).tail
      rw [← hmv] at hs hcap
      rw [← hl2] at hs
      replace hs : Step S ((bf, blk 81 (fsC mf3 md3 (.slice (some ⟨bl, 0, none⟩) (Hs3 ++ [none]).length cap) t3)) :: (bl, blk 91 ((Hs3 ++ [none]).map HB.val ++ more)) :: (mf3, mapS (mapF Fs3 0) Fs3.length) :: (md3, mapS (mapDi Ds3 0) Ds3.length) :: (Fs3.flatMap FB.own ++ (Ds3.flatMap DB.own ++ Hs3.flatMap HB.own))) w0 w := hs
      have hk2 := (List.getElem?_eq_some_iff.1 hk).1
      have hmk : (Hs3 ++ [none]).length ≤ cap := by
        rw [List.length_append, List.length_map] at hcap
        omega
      have hlm : ((Hs3 ++ [none]).map HB.val ++ more).length = (Hs3 ++ [none]).length + more.length := by rw [List.length_append, List.length_map]
      repeat (first | refine CW.seq ?_ | refine CW.block ?_ | refine CW.skip ?_ | refine CW.label ?_ | refine CW.exit ?_ | refine CW.condT rfl ?_ | refine CW.condF rfl ?_)
      refine CW.reg ?_
      refine WL.val rfl (run_move) ?_
      refine WL.val rfl (run_nilCheck rfl) ?_
      refine WL.val rfl (run_field (o' := 2) Tryd.underlying81 rfl ty79 rfl rfl rfl) ?_
      refine WL.val rfl (run_load1 ty79 rfl (hs.c0 (v := .slice (some ⟨bl, 0, none⟩) (Hs3 ++ [none]).length cap) rfl)) ?_
      refine WL.val rfl (run_move) ?_
      refine WL.val rfl (run_move) ?_
      refine WL.val rfl (run_move) ?_
      refine WL.val rfl (run_and3 hm8 rfl rfl) ?_
      refine WL.val rfl (run_build rfl (bld_hdl _ _ _)) ?_
      refine WL.box (cs := [.pointer (some ⟨r.b, 0, none⟩), .int .i64 ((0 : Nat) : Int), .int .i64 (m % 4 : Nat)]) rfl rfl rfl hs (fun b133 w hs => ?_)
      first | refine WL.val rfl (run_ixSlN Tryd.underlying79 ty91 rfl rfl (by omega)) ?_ | refine WL.val rfl (run_ixSl Tryd.underlying79 ty91 rfl rfl (by omega)) ?_
      first | refine WL.store1 ty91 rfl rfl (rfl) hs (by first | (simp; done) | omega | (simp only [List.length_append, List.length_replicate, List.length_cons, List.length_nil, List.length_set]; omega) | (simp [Ent.cells, u8s]; done) | exact Nat.le_of_ble_eq_true rfl) (fun w hs => ?_) | refine WL.store1_1 ty91 rfl rfl (rfl) hs (by first | (simp; done) | omega | (simp only [List.length_append, List.length_replicate, List.length_cons, List.length_nil, List.length_set]; omega) | (simp [Ent.cells, u8s]; done) | exact Nat.le_of_ble_eq_true rfl) (fun w hs => ?_) | refine WL.store1_2 ty91 rfl rfl (rfl) hs (by first | (simp; done) | omega | (simp only [List.length_append, List.length_replicate, List.length_cons, List.length_nil, List.length_set]; omega) | (simp [Ent.cells, u8s]; done) | exact Nat.le_of_ble_eq_true rfl) (fun w hs => ?_) | refine WL.store1_3 ty91 rfl rfl (rfl) hs (by first | (simp; done) | omega | (simp only [List.length_append, List.length_replicate, List.length_cons, List.length_nil, List.length_set]; omega) | (simp [Ent.cells, u8s]; done) | exact Nat.le_of_ble_eq_true rfl) (fun w hs => ?_) | refine WL.store1_4 ty91 rfl rfl (rfl) hs (by first | (simp; done) | omega | (simp only [List.length_append, List.length_replicate, List.length_cons, List.length_nil, List.length_set]; omega) | (simp [Ent.cells, u8s]; done) | exact Nat.le_of_ble_eq_true rfl) (fun w hs => ?_) | refine WL.store1 ty91 rfl rfl (rfl) hs (by first | (simp; done) | omega | (simp only [List.length_append, List.length_replicate, List.length_cons, List.length_nil, List.length_set]; omega) | (simp [Ent.cells, u8s]; done) | exact Nat.le_of_ble_eq_true rfl) (fun w hs => ?_)
      refine WL.nil ?_
      repeat (first | refine CW.seq ?_ | refine CW.block ?_ | refine CW.skip ?_ | refine CW.label ?_ | refine CW.exit ?_ | refine CW.condT rfl ?_ | refine CW.condF rfl ?_)
      refine CW.reg ?_
      refine WL.val rfl (run_move) ?_
      refine WL.val rfl (run_nilCheck rfl) ?_
      refine WL.val rfl (run_field (o' := 7) Tryd.underlying81 rfl ty3 rfl rfl rfl) ?_
      refine WL.val rfl (run_load1 ty3 rfl (hs.c1 (v := .int .i64 (t3.op : Nat)) rfl)) ?_
      refine WL.val rfl (run_add (c := ((t3.op + 1 : Nat) : Int)) rfl rfl (by omega) (by omega)) ?_
      refine WL.val rfl (run_nilCheck rfl) ?_
      refine WL.val rfl (run_field (o' := 7) Tryd.underlying81 rfl ty3 rfl rfl rfl) ?_
      first | refine WL.store1 ty3 rfl rfl (rfl) hs (by first | (simp; done) | omega | (simp only [List.length_append, List.length_replicate, List.length_cons, List.length_nil, List.length_set]; omega) | (simp [Ent.cells, u8s]; done) | exact Nat.le_of_ble_eq_true rfl) (fun w hs => ?_) | refine WL.store1_1 ty3 rfl rfl (rfl) hs (by first | (simp; done) | omega | (simp only [List.length_append, List.length_replicate, List.length_cons, List.length_nil, List.length_set]; omega) | (simp [Ent.cells, u8s]; done) | exact Nat.le_of_ble_eq_true rfl) (fun w hs => ?_) | refine WL.store1_2 ty3 rfl rfl (rfl) hs (by first | (simp; done) | omega | (simp only [List.length_append, List.length_replicate, List.length_cons, List.length_nil, List.length_set]; omega) | (simp [Ent.cells, u8s]; done) | exact Nat.le_of_ble_eq_true rfl) (fun w hs => ?_) | refine WL.store1_3 ty3 rfl rfl (rfl) hs (by first | (simp; done) | omega | (simp only [List.length_append, List.length_replicate, List.length_cons, List.length_nil, List.length_set]; omega) | (simp [Ent.cells, u8s]; done) | exact Nat.le_of_ble_eq_true rfl) (fun w hs => ?_) | refine WL.store1_4 ty3 rfl rfl (rfl) hs (by first | (simp; done) | omega | (simp only [List.length_append, List.length_replicate, List.length_cons, List.length_nil, List.length_set]; omega) | (simp [Ent.cells, u8s]; done) | exact Nat.le_of_ble_eq_true rfl) (fun w hs => ?_) | refine WL.store1 ty3 rfl rfl (rfl) hs (by first | (simp; done) | omega | (simp only [List.length_append, List.length_replicate, List.length_cons, List.length_nil, List.length_set]; omega) | (simp [Ent.cells, u8s]; done) | exact Nat.le_of_ble_eq_true rfl) (fun w hs => ?_)
      refine WL.nil ?_
      repeat (first | refine CW.seq ?_ | refine CW.block ?_ | refine CW.skip ?_ | refine CW.label ?_ | refine CW.exit ?_ | refine CW.condT rfl ?_ | refine CW.condF rfl ?_)
      refine CW.reg ?_
      refine WL.val rfl (run_move) ?_
      refine WL.val rfl (run_assign) ?_
      refine WL.val rfl (run_assign) ?_
      refine WL.nil ?_
      repeat (first | refine CW.seq ?_ | refine CW.block ?_ | refine CW.skip ?_ | refine CW.label ?_ | refine CW.exit ?_ | refine CW.condT rfl ?_ | refine CW.condF rfl ?_)
      refine CW.ret ?_
      refine fin_ret2 rfl ?_
      have hset : ((Hs3 ++ [none]).map HB.val ++ more).set (0 + Hs3.length * 1) (.pointer (some ⟨b133, 0, none⟩)) = ((Hs3 ++ [none]).map HB.val).set Hs3.length (.pointer (some ⟨b133, 0, none⟩)) ++ more := by
        rw [Nat.zero_add, Nat.mul_one, List.set_append_left _ _ (by simp)]
      replace hs : Step S ((b133, blk 93 [.pointer (some ⟨r.b, 0, none⟩), .int .i64 ((0 : Nat) : Int), .int .i64 (m % 4 : Nat)]) :: (bf, blk 81 (fsC mf3 md3 (.slice (some ⟨bl, 0, none⟩) (Hs3 ++ [none]).length cap) { t3 with op := t3.op + 1 })) :: (bl, blk 91 (((Hs3 ++ [none]).map HB.val).set Hs3.length (.pointer (some ⟨b133, 0, none⟩)) ++ more)) :: (mf3, mapS (mapF Fs3 0) Fs3.length) :: (md3, mapS (mapDi Ds3 0) Ds3.length) :: (Fs3.flatMap FB.own ++ (Ds3.flatMap DB.own ++ Hs3.flatMap HB.own))) w0 w := by rw [← hset]; exact hs
      have hobt := o3.grabH (b := b133) (bn := b133) (bl := bl) (mo := m % 4) hr hH2 hk hks.symm hcap (List.Perm.refl _)
      obtain ⟨L', hL', hp⟩ := hobt
      exact ⟨L', congrArg (fun z : Nat => Ending.returned (.tuple #[.int .i64 (z : Int), .int .i64 0])) hks.symm, hL', hs.perm hp⟩
    · cases h
end
end Go.Gx
