/- Files in memory: May, Place, Used. -/
import Derived.Test.YtepaojbhjgefiaaDoorVs3
namespace Go.Gx
open Go.Proofs
set_option linter.unusedVariables false
set_option linter.unusedSimpArgs false
set_option maxRecDepth 100000
def VS.items (s : VS) : Nat := s.F.length + s.D.length - 1
def VS.place (s : VS) (h : Int) : List UInt8 × Nat × Int := match s.is h with
  | none => ([], 0, 95)
  | some (i, pl, _) => (((s.F[i]?).map (·.1)).getD [], pl, 0)
theorem mapF_len : ∀ (l : List FB) (k : Nat), (mapF l k).length = l.length
  | [], _ => rfl
  | r :: l, k => by rw [mapF, List.length_cons, mapF_len l, List.length_cons]
theorem mapDi_len : ∀ (l : List DB) (k : Nat), (mapDi l k).length = l.length
  | [], _ => rfl
  | r :: l, k => by rw [mapDi, List.length_cons, mapDi_len l, List.length_cons]
section
variable {bf mf md : Nat} {s : VS} {L Lh : List (Nat × Obj)} {vh : Value} {Fs : List FB} {Ds : List DB} {Hs : List (Option HB)} {w0 : World}
set_option maxHeartbeats 2000000 in
theorem may_spec (o : VOpen bf s L mf md vh Lh Fs Ds Hs) (ok : s.Ok) (hw : ∀ p ∈ L, w0.heap[p.1]? = some p.2) {h n : Int} (hn : -9223372036854775808 ≤ n ∧ n ≤ 9223372036854775807) : Calls Tryd.prog 34 #[.pointer (some ⟨bf, 0, none⟩), .int .i64 h, .int .i64 n] w0 (Ret0 (.int .i64 (s.may h n)) w0) := by
  have hs : Step [] [] w0 w0 := Step.refl w0
  have hlw : ∀ {w : World}, Step [] [] w0 w → ∀ p ∈ L, w.heap[p.1]? = some p.2 := fun hs p hp => hs.old (hw p hp) (by simp)
  have hfs := o.at hw
  have hqb := ok.qb
  have hby := ok.by_
  rcases o.his h with ⟨hi, _⟩ | ⟨k, hb, rfl, hk, hi⟩
  · rw [show s.may h n = 95 by unfold VS.may; rw [hi]]
    refine calls (n := 64) Tryd.func34 rfl rfl rfl ?_
    repeat (first | refine CW.seq ?_ | refine CW.block ?_ | refine CW.skip ?_ | refine CW.label ?_ | refine CW.exit ?_ | refine CW.condT rfl ?_ | refine CW.condF rfl ?_)
    refine CW.reg ?_
    refine WL.val rfl (run_assign) ?_
    refine WL.nil ?_
    repeat (first | refine CW.seq ?_ | refine CW.block ?_ | refine CW.skip ?_ | refine CW.label ?_ | refine CW.exit ?_ | refine CW.condT rfl ?_ | refine CW.condF rfl ?_)
    refine CW.reg ?_
    refine WL.val rfl (run_move) ?_
    refine WL.val rfl (run_move) ?_
    refine WL.enter rfl (run_call en33 rfl rfl) (is_none o ok (hlw hs) hi) ?_
    rintro e w ⟨rfl, hq⟩
    refine ⟨_, rfl, ?_⟩
    replace hs := hs.callE hq
    refine WL.val rfl (run_move) ?_
    refine WL.val rfl (run_extract rfl rfl) ?_
    refine WL.val rfl (run_extract rfl rfl) ?_
    refine WL.val rfl (run_assign) ?_
    refine WL.val rfl (run_assign) ?_
    refine WL.nil ?_
    repeat (first | refine CW.seq ?_ | refine CW.block ?_ | refine CW.skip ?_ | refine CW.label ?_ | refine CW.exit ?_ | refine CW.condT rfl ?_ | refine CW.condF rfl ?_)
    refine CW.reg ?_
    refine WL.val rfl (run_move) ?_
    refine WL.val rfl (run_bT (run_neq rfl rfl) (by decide)) ?_
    refine WL.val rfl (run_assign) ?_
    refine WL.nil ?_
    repeat (first | refine CW.seq ?_ | refine CW.block ?_ | refine CW.skip ?_ | refine CW.label ?_ | refine CW.exit ?_)
    first | refine CW.condP rfl (fun h => ?_) (fun h => ?_) | refine CW.cond rfl (fun h => ?_) (fun h => ?_)
    · repeat (first | refine CW.seq ?_ | refine CW.block ?_ | refine CW.skip ?_ | refine CW.label ?_ | refine CW.exit ?_ | refine CW.condT rfl ?_ | refine CW.condF rfl ?_)
      refine CW.reg ?_
      refine WL.val rfl (run_move) ?_
      refine WL.val rfl (run_assign) ?_
      refine WL.nil ?_
      repeat (first | refine CW.seq ?_ | refine CW.block ?_ | refine CW.skip ?_ | refine CW.label ?_ | refine CW.exit ?_ | refine CW.condT rfl ?_ | refine CW.condF rfl ?_)
      refine CW.ret ?_
      refine fin_ret1 rfl ?_
      exact ⟨rfl, hs⟩
    · cases h
  · have hobt := o.file hk
    obtain ⟨r, hr, hfb⟩ := hobt
    have hobt := o.bnd ok hk hr
    obtain ⟨b1, b2, b3⟩ := hobt
    have hl := o.len_ hr
    have hat := o.hat hw hk
    have hobt := o.fat hw hr
    obtain ⟨hf, hsl⟩ := hobt
    rw [← hfb] at hf
    have hobt := hsl.form
    obtain ⟨av, cv, hv⟩ := hobt
    have hmay : s.may (k : Int) n = if hb.mo = 0 then 94 else if n < 0 then 1 else if n = 0 then 0 else if 1048576 - (s.from_ hb.i hb.pl hb.mo : Int) < n then 96 else if s.qb < (s.by_ : Int) + max 0 ((s.from_ hb.i hb.pl hb.mo : Int) + n - s.len hb.i) then 96 else 0 := by unfold VS.may; rw [hi]
    have hfrom := fun {w} hw => from_spec (w0 := w) o hw hk hr hfb
    have hfe : s.from_ hb.i hb.pl hb.mo = if hb.mo = 3 then r.x.length else hb.pl := by unfold VS.from_; rw [hl]
    rw [← hfe] at hfrom
    have hfb2 : s.from_ hb.i hb.pl hb.mo ≤ 1048576 := by rw [hfe]; split <;> omega
    have hobt : ∃ fr, s.from_ hb.i hb.pl hb.mo = fr := ⟨_, rfl⟩
    obtain ⟨fr, hfr⟩ := hobt
    rw [hfr] at hfrom hfb2 hmay
    rw [hl] at hmay
    by_cases h0 : hb.mo = 0
    · rw [show s.may (k : Int) n = 94 by rw [hmay, if_pos h0]]
      refine calls (n := 64) Tryd.func34 rfl rfl rfl ?_
      repeat (first | refine CW.seq ?_ | refine CW.block ?_ | refine CW.skip ?_ | refine CW.label ?_ | refine CW.exit ?_ | refine CW.condT rfl ?_ | refine CW.condF rfl ?_)
      refine CW.reg ?_
      refine WL.val rfl (run_assign) ?_
      refine WL.nil ?_
      repeat (first | refine CW.seq ?_ | refine CW.block ?_ | refine CW.skip ?_ | refine CW.label ?_ | refine CW.exit ?_ | refine CW.condT rfl ?_ | refine CW.condF rfl ?_)
      refine CW.reg ?_
      refine WL.val rfl (run_move) ?_
      refine WL.val rfl (run_move) ?_
      refine WL.enter rfl (run_call en33 rfl rfl) (is_some o ok (hlw hs) hk) ?_
      rintro e w ⟨rfl, hq⟩
      refine ⟨_, rfl, ?_⟩
      replace hs := hs.callE hq
      refine WL.val rfl (run_move) ?_
      refine WL.val rfl (run_extract rfl rfl) ?_
      refine WL.val rfl (run_extract rfl rfl) ?_
      refine WL.val rfl (run_assign) ?_
      refine WL.val rfl (run_assign) ?_
      refine WL.nil ?_
      repeat (first | refine CW.seq ?_ | refine CW.block ?_ | refine CW.skip ?_ | refine CW.label ?_ | refine CW.exit ?_ | refine CW.condT rfl ?_ | refine CW.condF rfl ?_)
      refine CW.reg ?_
      refine WL.val rfl (run_move) ?_
      refine WL.val rfl (run_bF (run_neq rfl rfl) (by decide)) ?_
      refine WL.val rfl (run_assign) ?_
      refine WL.nil ?_
      repeat (first | refine CW.seq ?_ | refine CW.block ?_ | refine CW.skip ?_ | refine CW.label ?_ | refine CW.exit ?_)
      first | refine CW.condP rfl (fun h => ?_) (fun h => ?_) | refine CW.cond rfl (fun h => ?_) (fun h => ?_)
      · cases h
      repeat (first | refine CW.seq ?_ | refine CW.block ?_ | refine CW.skip ?_ | refine CW.label ?_ | refine CW.exit ?_ | refine CW.condT rfl ?_ | refine CW.condF rfl ?_)
      refine CW.reg ?_
      refine WL.val rfl (run_move) ?_
      refine WL.val rfl (run_nilCheck rfl) ?_
      refine WL.val rfl (run_field (o' := 2) Tryd.underlying93 rfl ty3 rfl rfl rfl) ?_
      refine WL.val rfl (run_load1 ty3 rfl ((hat.step hs (by simp)).cell (j := 2) rfl)) ?_
      refine WL.val rfl (run_bT (run_eql rfl rfl) (by omega)) ?_
      refine WL.val rfl (run_assign) ?_
      refine WL.nil ?_
      repeat (first | refine CW.seq ?_ | refine CW.block ?_ | refine CW.skip ?_ | refine CW.label ?_ | refine CW.exit ?_)
      first | refine CW.condP rfl (fun h => ?_) (fun h => ?_) | refine CW.cond rfl (fun h => ?_) (fun h => ?_)
      · repeat (first | refine CW.seq ?_ | refine CW.block ?_ | refine CW.skip ?_ | refine CW.label ?_ | refine CW.exit ?_ | refine CW.condT rfl ?_ | refine CW.condF rfl ?_)
        refine CW.reg ?_
        refine WL.val rfl (run_assign) ?_
        refine WL.nil ?_
        repeat (first | refine CW.seq ?_ | refine CW.block ?_ | refine CW.skip ?_ | refine CW.label ?_ | refine CW.exit ?_ | refine CW.condT rfl ?_ | refine CW.condF rfl ?_)
        refine CW.ret ?_
        refine fin_ret1 rfl ?_
        exact ⟨rfl, hs⟩
      · cases h
    rw [if_neg h0] at hmay
    by_cases hneg : n < 0
    · rw [show s.may (k : Int) n = 1 by rw [hmay, if_pos hneg]]
      refine calls (n := 64) Tryd.func34 rfl rfl rfl ?_
      repeat (first | refine CW.seq ?_ | refine CW.block ?_ | refine CW.skip ?_ | refine CW.label ?_ | refine CW.exit ?_ | refine CW.condT rfl ?_ | refine CW.condF rfl ?_)
      refine CW.reg ?_
      refine WL.val rfl (run_assign) ?_
      refine WL.nil ?_
      repeat (first | refine CW.seq ?_ | refine CW.block ?_ | refine CW.skip ?_ | refine CW.label ?_ | refine CW.exit ?_ | refine CW.condT rfl ?_ | refine CW.condF rfl ?_)
      refine CW.reg ?_
      refine WL.val rfl (run_move) ?_
      refine WL.val rfl (run_move) ?_
      refine WL.enter rfl (run_call en33 rfl rfl) (is_some o ok (hlw hs) hk) ?_
      rintro e w ⟨rfl, hq⟩
      refine ⟨_, rfl, ?_⟩
      replace hs := hs.callE hq
      refine WL.val rfl (run_move) ?_
      refine WL.val rfl (run_extract rfl rfl) ?_
      refine WL.val rfl (run_extract rfl rfl) ?_
      refine WL.val rfl (run_assign) ?_
      refine WL.val rfl (run_assign) ?_
      refine WL.nil ?_
      repeat (first | refine CW.seq ?_ | refine CW.block ?_ | refine CW.skip ?_ | refine CW.label ?_ | refine CW.exit ?_ | refine CW.condT rfl ?_ | refine CW.condF rfl ?_)
      refine CW.reg ?_
      refine WL.val rfl (run_move) ?_
      refine WL.val rfl (run_bF (run_neq rfl rfl) (by decide)) ?_
      refine WL.val rfl (run_assign) ?_
      refine WL.nil ?_
      repeat (first | refine CW.seq ?_ | refine CW.block ?_ | refine CW.skip ?_ | refine CW.label ?_ | refine CW.exit ?_)
      first | refine CW.condP rfl (fun h => ?_) (fun h => ?_) | refine CW.cond rfl (fun h => ?_) (fun h => ?_)
      · cases h
      repeat (first | refine CW.seq ?_ | refine CW.block ?_ | refine CW.skip ?_ | refine CW.label ?_ | refine CW.exit ?_ | refine CW.condT rfl ?_ | refine CW.condF rfl ?_)
      refine CW.reg ?_
      refine WL.val rfl (run_move) ?_
      refine WL.val rfl (run_nilCheck rfl) ?_
      refine WL.val rfl (run_field (o' := 2) Tryd.underlying93 rfl ty3 rfl rfl rfl) ?_
      refine WL.val rfl (run_load1 ty3 rfl ((hat.step hs (by simp)).cell (j := 2) rfl)) ?_
      refine WL.val rfl (run_bF (run_eql rfl rfl) (by omega)) ?_
      refine WL.val rfl (run_assign) ?_
      refine WL.nil ?_
      repeat (first | refine CW.seq ?_ | refine CW.block ?_ | refine CW.skip ?_ | refine CW.label ?_ | refine CW.exit ?_)
      first | refine CW.condP rfl (fun h => ?_) (fun h => ?_) | refine CW.cond rfl (fun h => ?_) (fun h => ?_)
      · cases h
      repeat (first | refine CW.seq ?_ | refine CW.block ?_ | refine CW.skip ?_ | refine CW.label ?_ | refine CW.exit ?_ | refine CW.condT rfl ?_ | refine CW.condF rfl ?_)
      refine CW.reg ?_
      refine WL.val rfl (run_move) ?_
      refine WL.val rfl (run_bT (run_lss rfl rfl) (by omega)) ?_
      refine WL.val rfl (run_assign) ?_
      refine WL.nil ?_
      repeat (first | refine CW.seq ?_ | refine CW.block ?_ | refine CW.skip ?_ | refine CW.label ?_ | refine CW.exit ?_)
      first | refine CW.condP rfl (fun h => ?_) (fun h => ?_) | refine CW.cond rfl (fun h => ?_) (fun h => ?_)
      · repeat (first | refine CW.seq ?_ | refine CW.block ?_ | refine CW.skip ?_ | refine CW.label ?_ | refine CW.exit ?_ | refine CW.condT rfl ?_ | refine CW.condF rfl ?_)
        refine CW.reg ?_
        refine WL.val rfl (run_assign) ?_
        refine WL.nil ?_
        repeat (first | refine CW.seq ?_ | refine CW.block ?_ | refine CW.skip ?_ | refine CW.label ?_ | refine CW.exit ?_ | refine CW.condT rfl ?_ | refine CW.condF rfl ?_)
        refine CW.ret ?_
        refine fin_ret1 rfl ?_
        exact ⟨rfl, hs⟩
      · cases h
    rw [if_neg hneg] at hmay
    by_cases hz : n = 0
    · rw [show s.may (k : Int) n = 0 by rw [hmay, if_pos hz]]
      refine calls (n := 64) Tryd.func34 rfl rfl rfl ?_
      repeat (first | refine CW.seq ?_ | refine CW.block ?_ | refine CW.skip ?_ | refine CW.label ?_ | refine CW.exit ?_ | refine CW.condT rfl ?_ | refine CW.condF rfl ?_)
      refine CW.reg ?_
      refine WL.val rfl (run_assign) ?_
      refine WL.nil ?_
      repeat (first | refine CW.seq ?_ | refine CW.block ?_ | refine CW.skip ?_ | refine CW.label ?_ | refine CW.exit ?_ | refine CW.condT rfl ?_ | refine CW.condF rfl ?_)
      refine CW.reg ?_
      refine WL.val rfl (run_move) ?_
      refine WL.val rfl (run_move) ?_
      refine WL.enter rfl (run_call en33 rfl rfl) (is_some o ok (hlw hs) hk) ?_
      rintro e w ⟨rfl, hq⟩
      refine ⟨_, rfl, ?_⟩
      replace hs := hs.callE hq
      refine WL.val rfl (run_move) ?_
      refine WL.val rfl (run_extract rfl rfl) ?_
      refine WL.val rfl (run_extract rfl rfl) ?_
      refine WL.val rfl (run_assign) ?_
      refine WL.val rfl (run_assign) ?_
      refine WL.nil ?_
      repeat (first | refine CW.seq ?_ | refine CW.block ?_ | refine CW.skip ?_ | refine CW.label ?_ | refine CW.exit ?_ | refine CW.condT rfl ?_ | refine CW.condF rfl ?_)
      refine CW.reg ?_
      refine WL.val rfl (run_move) ?_
      refine WL.val rfl (run_bF (run_neq rfl rfl) (by decide)) ?_
      refine WL.val rfl (run_assign) ?_
      refine WL.nil ?_
      repeat (first | refine CW.seq ?_ | refine CW.block ?_ | refine CW.skip ?_ | refine CW.label ?_ | refine CW.exit ?_)
      first | refine CW.condP rfl (fun h => ?_) (fun h => ?_) | refine CW.cond rfl (fun h => ?_) (fun h => ?_)
      · cases h
      repeat (first | refine CW.seq ?_ | refine CW.block ?_ | refine CW.skip ?_ | refine CW.label ?_ | refine CW.exit ?_ | refine CW.condT rfl ?_ | refine CW.condF rfl ?_)
      refine CW.reg ?_
      refine WL.val rfl (run_move) ?_
      refine WL.val rfl (run_nilCheck rfl) ?_
      refine WL.val rfl (run_field (o' := 2) Tryd.underlying93 rfl ty3 rfl rfl rfl) ?_
      refine WL.val rfl (run_load1 ty3 rfl ((hat.step hs (by simp)).cell (j := 2) rfl)) ?_
      refine WL.val rfl (run_bF (run_eql rfl rfl) (by omega)) ?_
      refine WL.val rfl (run_assign) ?_
      refine WL.nil ?_
      repeat (first | refine CW.seq ?_ | refine CW.block ?_ | refine CW.skip ?_ | refine CW.label ?_ | refine CW.exit ?_)
      first | refine CW.condP rfl (fun h => ?_) (fun h => ?_) | refine CW.cond rfl (fun h => ?_) (fun h => ?_)
      · cases h
      repeat (first | refine CW.seq ?_ | refine CW.block ?_ | refine CW.skip ?_ | refine CW.label ?_ | refine CW.exit ?_ | refine CW.condT rfl ?_ | refine CW.condF rfl ?_)
      refine CW.reg ?_
      refine WL.val rfl (run_move) ?_
      refine WL.val rfl (run_bF (run_lss rfl rfl) (by omega)) ?_
      refine WL.val rfl (run_assign) ?_
      refine WL.nil ?_
      repeat (first | refine CW.seq ?_ | refine CW.block ?_ | refine CW.skip ?_ | refine CW.label ?_ | refine CW.exit ?_)
      first | refine CW.condP rfl (fun h => ?_) (fun h => ?_) | refine CW.cond rfl (fun h => ?_) (fun h => ?_)
      · cases h
      repeat (first | refine CW.seq ?_ | refine CW.block ?_ | refine CW.skip ?_ | refine CW.label ?_ | refine CW.exit ?_ | refine CW.condT rfl ?_ | refine CW.condF rfl ?_)
      refine CW.reg ?_
      refine WL.val rfl (run_move) ?_
      refine WL.val rfl (run_bT (run_eql rfl rfl) (by omega)) ?_
      refine WL.val rfl (run_assign) ?_
      refine WL.nil ?_
      repeat (first | refine CW.seq ?_ | refine CW.block ?_ | refine CW.skip ?_ | refine CW.label ?_ | refine CW.exit ?_)
      first | refine CW.condP rfl (fun h => ?_) (fun h => ?_) | refine CW.cond rfl (fun h => ?_) (fun h => ?_)
      · repeat (first | refine CW.seq ?_ | refine CW.block ?_ | refine CW.skip ?_ | refine CW.label ?_ | refine CW.exit ?_ | refine CW.condT rfl ?_ | refine CW.condF rfl ?_)
        refine CW.reg ?_
        refine WL.val rfl (run_assign) ?_
        refine WL.nil ?_
        repeat (first | refine CW.seq ?_ | refine CW.block ?_ | refine CW.skip ?_ | refine CW.label ?_ | refine CW.exit ?_ | refine CW.condT rfl ?_ | refine CW.condF rfl ?_)
        refine CW.ret ?_
        refine fin_ret1 rfl ?_
        exact ⟨rfl, hs⟩
      · cases h
    rw [if_neg hz] at hmay
    by_cases hbig : 1048576 - (fr : Int) < n
    · rw [show s.may (k : Int) n = 96 by rw [hmay, if_pos hbig]]
      refine calls (n := 64) Tryd.func34 rfl rfl rfl ?_
      repeat (first | refine CW.seq ?_ | refine CW.block ?_ | refine CW.skip ?_ | refine CW.label ?_ | refine CW.exit ?_ | refine CW.condT rfl ?_ | refine CW.condF rfl ?_)
      refine CW.reg ?_
      refine WL.val rfl (run_assign) ?_
      refine WL.nil ?_
      repeat (first | refine CW.seq ?_ | refine CW.block ?_ | refine CW.skip ?_ | refine CW.label ?_ | refine CW.exit ?_ | refine CW.condT rfl ?_ | refine CW.condF rfl ?_)
      refine CW.reg ?_
      refine WL.val rfl (run_move) ?_
      refine WL.val rfl (run_move) ?_
      refine WL.enter rfl (run_call en33 rfl rfl) (is_some o ok (hlw hs) hk) ?_
      rintro e w ⟨rfl, hq⟩
      refine ⟨_, rfl, ?_⟩
      replace hs := hs.callE hq
      refine WL.val rfl (run_move) ?_
      refine WL.val rfl (run_extract rfl rfl) ?_
      refine WL.val rfl (run_extract rfl rfl) ?_
      refine WL.val rfl (run_assign) ?_
      refine WL.val rfl (run_assign) ?_
      refine WL.nil ?_
      repeat (first | refine CW.seq ?_ | refine CW.block ?_ | refine CW.skip ?_ | refine CW.label ?_ | refine CW.exit ?_ | refine CW.condT rfl ?_ | refine CW.condF rfl ?_)
      refine CW.reg ?_
      refine WL.val rfl (run_move) ?_
      refine WL.val rfl (run_bF (run_neq rfl rfl) (by decide)) ?_
      refine WL.val rfl (run_assign) ?_
      refine WL.nil ?_
      repeat (first | refine CW.seq ?_ | refine CW.block ?_ | refine CW.skip ?_ | refine CW.label ?_ | refine CW.exit ?_)
      first | refine CW.condP rfl (fun h => ?_) (fun h => ?_) | refine CW.cond rfl (fun h => ?_) (fun h => ?_)
      · cases h
      repeat (first | refine CW.seq ?_ | refine CW.block ?_ | refine CW.skip ?_ | refine CW.label ?_ | refine CW.exit ?_ | refine CW.condT rfl ?_ | refine CW.condF rfl ?_)
      refine CW.reg ?_
      refine WL.val rfl (run_move) ?_
      refine WL.val rfl (run_nilCheck rfl) ?_
      refine WL.val rfl (run_field (o' := 2) Tryd.underlying93 rfl ty3 rfl rfl rfl) ?_
      refine WL.val rfl (run_load1 ty3 rfl ((hat.step hs (by simp)).cell (j := 2) rfl)) ?_
      refine WL.val rfl (run_bF (run_eql rfl rfl) (by omega)) ?_
      refine WL.val rfl (run_assign) ?_
      refine WL.nil ?_
      repeat (first | refine CW.seq ?_ | refine CW.block ?_ | refine CW.skip ?_ | refine CW.label ?_ | refine CW.exit ?_)
      first | refine CW.condP rfl (fun h => ?_) (fun h => ?_) | refine CW.cond rfl (fun h => ?_) (fun h => ?_)
      · cases h
      repeat (first | refine CW.seq ?_ | refine CW.block ?_ | refine CW.skip ?_ | refine CW.label ?_ | refine CW.exit ?_ | refine CW.condT rfl ?_ | refine CW.condF rfl ?_)
      refine CW.reg ?_
      refine WL.val rfl (run_move) ?_
      refine WL.val rfl (run_bF (run_lss rfl rfl) (by omega)) ?_
      refine WL.val rfl (run_assign) ?_
      refine WL.nil ?_
      repeat (first | refine CW.seq ?_ | refine CW.block ?_ | refine CW.skip ?_ | refine CW.label ?_ | refine CW.exit ?_)
      first | refine CW.condP rfl (fun h => ?_) (fun h => ?_) | refine CW.cond rfl (fun h => ?_) (fun h => ?_)
      · cases h
      repeat (first | refine CW.seq ?_ | refine CW.block ?_ | refine CW.skip ?_ | refine CW.label ?_ | refine CW.exit ?_ | refine CW.condT rfl ?_ | refine CW.condF rfl ?_)
      refine CW.reg ?_
      refine WL.val rfl (run_move) ?_
      refine WL.val rfl (run_bF (run_eql rfl rfl) (by omega)) ?_
      refine WL.val rfl (run_assign) ?_
      refine WL.nil ?_
      repeat (first | refine CW.seq ?_ | refine CW.block ?_ | refine CW.skip ?_ | refine CW.label ?_ | refine CW.exit ?_)
      first | refine CW.condP rfl (fun h => ?_) (fun h => ?_) | refine CW.cond rfl (fun h => ?_) (fun h => ?_)
      · cases h
      repeat (first | refine CW.seq ?_ | refine CW.block ?_ | refine CW.skip ?_ | refine CW.label ?_ | refine CW.exit ?_ | refine CW.condT rfl ?_ | refine CW.condF rfl ?_)
      refine CW.reg ?_
      refine WL.val rfl (run_move) ?_
      refine WL.val rfl (run_move) ?_
      refine WL.enter rfl (run_call en35 rfl rfl) (hfrom (hlw hs)) ?_
      rintro e w ⟨rfl, hq⟩
      refine ⟨_, rfl, ?_⟩
      replace hs := hs.callE hq
      refine WL.val rfl (run_sub (c := (1048576 - (fr : Int))) rfl rfl (by omega) (by omega)) ?_
      refine WL.val rfl (run_bT (run_gtr rfl rfl) (by omega)) ?_
      refine WL.val rfl (run_assign) ?_
      refine WL.nil ?_
      repeat (first | refine CW.seq ?_ | refine CW.block ?_ | refine CW.skip ?_ | refine CW.label ?_ | refine CW.exit ?_)
      first | refine CW.condP rfl (fun h => ?_) (fun h => ?_) | refine CW.cond rfl (fun h => ?_) (fun h => ?_)
      · repeat (first | refine CW.seq ?_ | refine CW.block ?_ | refine CW.skip ?_ | refine CW.label ?_ | refine CW.exit ?_ | refine CW.condT rfl ?_ | refine CW.condF rfl ?_)
        refine CW.reg ?_
        refine WL.val rfl (run_assign) ?_
        refine WL.nil ?_
        repeat (first | refine CW.seq ?_ | refine CW.block ?_ | refine CW.skip ?_ | refine CW.label ?_ | refine CW.exit ?_ | refine CW.condT rfl ?_ | refine CW.condF rfl ?_)
        refine CW.ret ?_
        refine fin_ret1 rfl ?_
        exact ⟨rfl, hs⟩
      · cases h
    rw [if_neg hbig] at hmay
    by_cases hq : s.qb < (s.by_ : Int) + max 0 ((fr : Int) + n - (r.x.length : Int))
    · rw [show s.may (k : Int) n = 96 by rw [hmay, if_pos hq]]
      refine calls (n := 64) Tryd.func34 rfl rfl rfl ?_
      repeat (first | refine CW.seq ?_ | refine CW.block ?_ | refine CW.skip ?_ | refine CW.label ?_ | refine CW.exit ?_ | refine CW.condT rfl ?_ | refine CW.condF rfl ?_)
      refine CW.reg ?_
      refine WL.val rfl (run_assign) ?_
      refine WL.nil ?_
      repeat (first | refine CW.seq ?_ | refine CW.block ?_ | refine CW.skip ?_ | refine CW.label ?_ | refine CW.exit ?_ | refine CW.condT rfl ?_ | refine CW.condF rfl ?_)
      refine CW.reg ?_
      refine WL.val rfl (run_move) ?_
      refine WL.val rfl (run_move) ?_
      refine WL.enter rfl (run_call en33 rfl rfl) (is_some o ok (hlw hs) hk) ?_
      rintro e w ⟨rfl, hq⟩
      refine ⟨_, rfl, ?_⟩
      replace hs := hs.callE hq
      refine WL.val rfl (run_move) ?_
      refine WL.val rfl (run_extract rfl rfl) ?_
      refine WL.val rfl (run_extract rfl rfl) ?_
      refine WL.val rfl (run_assign) ?_
      refine WL.val rfl (run_assign) ?_
      refine WL.nil ?_
      repeat (first | refine CW.seq ?_ | refine CW.block ?_ | refine CW.skip ?_ | refine CW.label ?_ | refine CW.exit ?_ | refine CW.condT rfl ?_ | refine CW.condF rfl ?_)
      refine CW.reg ?_
      refine WL.val rfl (run_move) ?_
      refine WL.val rfl (run_bF (run_neq rfl rfl) (by decide)) ?_
      refine WL.val rfl (run_assign) ?_
      refine WL.nil ?_
      repeat (first | refine CW.seq ?_ | refine CW.block ?_ | refine CW.skip ?_ | refine CW.label ?_ | refine CW.exit ?_)
      first | refine CW.condP rfl (fun h => ?_) (fun h => ?_) | refine CW.cond rfl (fun h => ?_) (fun h => ?_)
      · cases h
      repeat (first | refine CW.seq ?_ | refine CW.block ?_ | refine CW.skip ?_ | refine CW.label ?_ | refine CW.exit ?_ | refine CW.condT rfl ?_ | refine CW.condF rfl ?_)
      refine CW.reg ?_
      refine WL.val rfl (run_move) ?_
      refine WL.val rfl (run_nilCheck rfl) ?_
      refine WL.val rfl (run_field (o' := 2) Tryd.underlying93 rfl ty3 rfl rfl rfl) ?_
      refine WL.val rfl (run_load1 ty3 rfl ((hat.step hs (by simp)).cell (j := 2) rfl)) ?_
      refine WL.val rfl (run_bF (run_eql rfl rfl) (by omega)) ?_
      refine WL.val rfl (run_assign) ?_
      refine WL.nil ?_
      repeat (first | refine CW.seq ?_ | refine CW.block ?_ | refine CW.skip ?_ | refine CW.label ?_ | refine CW.exit ?_)
      first | refine CW.condP rfl (fun h => ?_) (fun h => ?_) | refine CW.cond rfl (fun h => ?_) (fun h => ?_)
      · cases h
      repeat (first | refine CW.seq ?_ | refine CW.block ?_ | refine CW.skip ?_ | refine CW.label ?_ | refine CW.exit ?_ | refine CW.condT rfl ?_ | refine CW.condF rfl ?_)
      refine CW.reg ?_
      refine WL.val rfl (run_move) ?_
      refine WL.val rfl (run_bF (run_lss rfl rfl) (by omega)) ?_
      refine WL.val rfl (run_assign) ?_
      refine WL.nil ?_
      repeat (first | refine CW.seq ?_ | refine CW.block ?_ | refine CW.skip ?_ | refine CW.label ?_ | refine CW.exit ?_)
      first | refine CW.condP rfl (fun h => ?_) (fun h => ?_) | refine CW.cond rfl (fun h => ?_) (fun h => ?_)
      · cases h
      repeat (first | refine CW.seq ?_ | refine CW.block ?_ | refine CW.skip ?_ | refine CW.label ?_ | refine CW.exit ?_ | refine CW.condT rfl ?_ | refine CW.condF rfl ?_)
      refine CW.reg ?_
      refine WL.val rfl (run_move) ?_
      refine WL.val rfl (run_bF (run_eql rfl rfl) (by omega)) ?_
      refine WL.val rfl (run_assign) ?_
      refine WL.nil ?_
      repeat (first | refine CW.seq ?_ | refine CW.block ?_ | refine CW.skip ?_ | refine CW.label ?_ | refine CW.exit ?_)
      first | refine CW.condP rfl (fun h => ?_) (fun h => ?_) | refine CW.cond rfl (fun h => ?_) (fun h => ?_)
      · cases h
      repeat (first | refine CW.seq ?_ | refine CW.block ?_ | refine CW.skip ?_ | refine CW.label ?_ | refine CW.exit ?_ | refine CW.condT rfl ?_ | refine CW.condF rfl ?_)
      refine CW.reg ?_
      refine WL.val rfl (run_move) ?_
      refine WL.val rfl (run_move) ?_
      refine WL.enter rfl (run_call en35 rfl rfl) (hfrom (hlw hs)) ?_
      rintro e w ⟨rfl, hq⟩
      refine ⟨_, rfl, ?_⟩
      replace hs := hs.callE hq
      refine WL.val rfl (run_sub (c := (1048576 - (fr : Int))) rfl rfl (by omega) (by omega)) ?_
      refine WL.val rfl (run_bF (run_gtr rfl rfl) (by omega)) ?_
      refine WL.val rfl (run_assign) ?_
      refine WL.nil ?_
      repeat (first | refine CW.seq ?_ | refine CW.block ?_ | refine CW.skip ?_ | refine CW.label ?_ | refine CW.exit ?_)
      first | refine CW.condP rfl (fun h => ?_) (fun h => ?_) | refine CW.cond rfl (fun h => ?_) (fun h => ?_)
      · cases h
      repeat (first | refine CW.seq ?_ | refine CW.block ?_ | refine CW.skip ?_ | refine CW.label ?_ | refine CW.exit ?_ | refine CW.condT rfl ?_ | refine CW.condF rfl ?_)
      refine CW.quiet mixedP (by kernel_rfl) hs ?_
      refine QL.val rfl (fun w hs => run_move) ?_
      refine QL.enter rfl (fun w => run_call en35 rfl rfl) (fun w hs => hfrom (hlw hs)) ?_
      refine QL.val rfl (fun w hs => run_move) ?_
      refine QL.val rfl (fun w hs => run_add (c := ((fr : Int) + n)) rfl rfl (by omega) (by omega)) ?_
      refine QL.val rfl (fun w hs => run_move) ?_
      refine QL.val rfl (fun w hs => run_nilCheck rfl) ?_
      refine QL.val rfl (fun w hs => run_field (o' := 0) Tryd.underlying93 rfl ty86 rfl rfl rfl) ?_
      refine QL.val rfl (fun w hs => run_load1 ty86 rfl ((hat.step hs (by simp)).cell (j := 0) rfl)) ?_
      refine QL.val rfl (fun w hs => run_nilCheck rfl) ?_
      refine QL.val rfl (fun w hs => run_field (o' := 1) Tryd.underlying89 rfl ty34 rfl rfl rfl) ?_
      refine QL.val rfl (fun w hs => run_load1 ty34 rfl ((hf.step hs (by simp)).cell (j := 1) (v := .slice av r.x.length cv) (by rw [← hv]; rfl))) ?_
      refine QL.val rfl (fun w hs => run_lenSl Tryd.underlying34 rfl) ?_
      refine QL.val rfl (fun w hs => run_sub (c := ((fr : Int) + n - (r.x.length : Int))) rfl rfl (by omega) (by omega)) ?_
      refine QL.val rfl (fun w hs => run_maxE rfl rfl rfl) ?_
      refine QL.val rfl (fun w hs => run_assign) ?_
      refine QL.nil (fun w hs => ?_)
      repeat (first | refine CW.seq ?_ | refine CW.block ?_ | refine CW.skip ?_ | refine CW.label ?_ | refine CW.exit ?_ | refine CW.condT rfl ?_ | refine CW.condF rfl ?_)
      refine CW.quiet mixedP (by kernel_rfl) hs ?_
      refine QL.val rfl (fun w hs => run_move) ?_
      refine QL.val rfl (fun w hs => run_nilCheck rfl) ?_
      refine QL.val rfl (fun w hs => run_field (o' := 6) Tryd.underlying81 rfl ty3 rfl rfl rfl) ?_
      refine QL.val rfl (fun w hs => run_load1 ty3 rfl ((hfs.step hs (by simp)).cell (j := 6) rfl)) ?_
      refine QL.val rfl (fun w hs => run_move) ?_
      refine QL.val rfl (fun w hs => run_add (c := ((s.by_ : Int) + max 0 ((fr : Int) + n - (r.x.length : Int)))) rfl rfl (by omega) (by omega)) ?_
      refine QL.val rfl (fun w hs => run_move) ?_
      refine QL.val rfl (fun w hs => run_nilCheck rfl) ?_
      refine QL.val rfl (fun w hs => run_field (o' := 3) Tryd.underlying81 rfl ty30 rfl rfl rfl) ?_
      refine QL.val rfl (fun w hs => run_field (o' := 0) Tryd.underlying30 rfl ty3 rfl rfl rfl) ?_
      refine QL.val rfl (fun w hs => run_load1 ty3 rfl ((hfs.step hs (by simp)).cell (j := 3) rfl)) ?_
      refine QL.val rfl (fun w hs => run_bT (run_gtr rfl rfl) (by omega)) ?_
      refine QL.nil (fun w hs => ?_)
      repeat (first | refine CW.seq ?_ | refine CW.block ?_ | refine CW.skip ?_ | refine CW.label ?_ | refine CW.exit ?_)
      first | refine CW.condP rfl (fun h => ?_) (fun h => ?_) | refine CW.cond rfl (fun h => ?_) (fun h => ?_)
      · repeat (first | refine CW.seq ?_ | refine CW.block ?_ | refine CW.skip ?_ | refine CW.label ?_ | refine CW.exit ?_ | refine CW.condT rfl ?_ | refine CW.condF rfl ?_)
        refine CW.reg ?_
        refine WL.val rfl (run_assign) ?_
        refine WL.nil ?_
        repeat (first | refine CW.seq ?_ | refine CW.block ?_ | refine CW.skip ?_ | refine CW.label ?_ | refine CW.exit ?_ | refine CW.condT rfl ?_ | refine CW.condF rfl ?_)
        refine CW.ret ?_
        refine fin_ret1 rfl ?_
        exact ⟨rfl, hs⟩
      · cases h
    · rw [show s.may (k : Int) n = 0 by rw [hmay, if_neg hq]]
      refine calls (n := 64) Tryd.func34 rfl rfl rfl ?_
      repeat (first | refine CW.seq ?_ | refine CW.block ?_ | refine CW.skip ?_ | refine CW.label ?_ | refine CW.exit ?_ | refine CW.condT rfl ?_ | refine CW.condF rfl ?_)
      refine CW.reg ?_
      refine WL.val rfl (run_assign) ?_
      refine WL.nil ?_
      repeat (first | refine CW.seq ?_ | refine CW.block ?_ | refine CW.skip ?_ | refine CW.label ?_ | refine CW.exit ?_ | refine CW.condT rfl ?_ | refine CW.condF rfl ?_)
      refine CW.reg ?_
      refine WL.val rfl (run_move) ?_
      refine WL.val rfl (run_move) ?_
      refine WL.enter rfl (run_call en33 rfl rfl) (is_some o ok (hlw hs) hk) ?_
      rintro e w ⟨rfl, hq⟩
      refine ⟨_, rfl, ?_⟩
      replace hs := hs.callE hq
      refine WL.val rfl (run_move) ?_
      refine WL.val rfl (run_extract rfl rfl) ?_
      refine WL.val rfl (run_extract rfl rfl) ?_
      refine WL.val rfl (run_assign) ?_
      refine WL.val rfl (run_assign) ?_
      refine WL.nil ?_
      repeat (first | refine CW.seq ?_ | refine CW.block ?_ | refine CW.skip ?_ | refine CW.label ?_ | refine CW.exit ?_ | refine CW.condT rfl ?_ | refine CW.condF rfl ?_)
      refine CW.reg ?_
      refine WL.val rfl (run_move) ?_
      refine WL.val rfl (run_bF (run_neq rfl rfl) (by decide)) ?_
      refine WL.val rfl (run_assign) ?_
      refine WL.nil ?_
      repeat (first | refine CW.seq ?_ | refine CW.block ?_ | refine CW.skip ?_ | refine CW.label ?_ | refine CW.exit ?_)
      first | refine CW.condP rfl (fun h => ?_) (fun h => ?_) | refine CW.cond rfl (fun h => ?_) (fun h => ?_)
      · cases h
      repeat (first | refine CW.seq ?_ | refine CW.block ?_ | refine CW.skip ?_ | refine CW.label ?_ | refine CW.exit ?_ | refine CW.condT rfl ?_ | refine CW.condF rfl ?_)
      refine CW.reg ?_
      refine WL.val rfl (run_move) ?_
      refine WL.val rfl (run_nilCheck rfl) ?_
      refine WL.val rfl (run_field (o' := 2) Tryd.underlying93 rfl ty3 rfl rfl rfl) ?_
      refine WL.val rfl (run_load1 ty3 rfl ((hat.step hs (by simp)).cell (j := 2) rfl)) ?_
      refine WL.val rfl (run_bF (run_eql rfl rfl) (by omega)) ?_
      refine WL.val rfl (run_assign) ?_
      refine WL.nil ?_
      repeat (first | refine CW.seq ?_ | refine CW.block ?_ | refine CW.skip ?_ | refine CW.label ?_ | refine CW.exit ?_)
      first | refine CW.condP rfl (fun h => ?_) (fun h => ?_) | refine CW.cond rfl (fun h => ?_) (fun h => ?_)
      · cases h
      repeat (first | refine CW.seq ?_ | refine CW.block ?_ | refine CW.skip ?_ | refine CW.label ?_ | refine CW.exit ?_ | refine CW.condT rfl ?_ | refine CW.condF rfl ?_)
      refine CW.reg ?_
      refine WL.val rfl (run_move) ?_
      refine WL.val rfl (run_bF (run_lss rfl rfl) (by omega)) ?_
      refine WL.val rfl (run_assign) ?_
      refine WL.nil ?_
      repeat (first | refine CW.seq ?_ | refine CW.block ?_ | refine CW.skip ?_ | refine CW.label ?_ | refine CW.exit ?_)
      first | refine CW.condP rfl (fun h => ?_) (fun h => ?_) | refine CW.cond rfl (fun h => ?_) (fun h => ?_)
      · cases h
      repeat (first | refine CW.seq ?_ | refine CW.block ?_ | refine CW.skip ?_ | refine CW.label ?_ | refine CW.exit ?_ | refine CW.condT rfl ?_ | refine CW.condF rfl ?_)
      refine CW.reg ?_
      refine WL.val rfl (run_move) ?_
      refine WL.val rfl (run_bF (run_eql rfl rfl) (by omega)) ?_
      refine WL.val rfl (run_assign) ?_
      refine WL.nil ?_
      repeat (first | refine CW.seq ?_ | refine CW.block ?_ | refine CW.skip ?_ | refine CW.label ?_ | refine CW.exit ?_)
      first | refine CW.condP rfl (fun h => ?_) (fun h => ?_) | refine CW.cond rfl (fun h => ?_) (fun h => ?_)
      · cases h
      repeat (first | refine CW.seq ?_ | refine CW.block ?_ | refine CW.skip ?_ | refine CW.label ?_ | refine CW.exit ?_ | refine CW.condT rfl ?_ | refine CW.condF rfl ?_)
      refine CW.reg ?_
      refine WL.val rfl (run_move) ?_
      refine WL.val rfl (run_move) ?_
      refine WL.enter rfl (run_call en35 rfl rfl) (hfrom (hlw hs)) ?_
      rintro e w ⟨rfl, hq⟩
      refine ⟨_, rfl, ?_⟩
      replace hs := hs.callE hq
      refine WL.val rfl (run_sub (c := (1048576 - (fr : Int))) rfl rfl (by omega) (by omega)) ?_
      refine WL.val rfl (run_bF (run_gtr rfl rfl) (by omega)) ?_
      refine WL.val rfl (run_assign) ?_
      refine WL.nil ?_
      repeat (first | refine CW.seq ?_ | refine CW.block ?_ | refine CW.skip ?_ | refine CW.label ?_ | refine CW.exit ?_)
      first | refine CW.condP rfl (fun h => ?_) (fun h => ?_) | refine CW.cond rfl (fun h => ?_) (fun h => ?_)
      · cases h
      repeat (first | refine CW.seq ?_ | refine CW.block ?_ | refine CW.skip ?_ | refine CW.label ?_ | refine CW.exit ?_ | refine CW.condT rfl ?_ | refine CW.condF rfl ?_)
      refine CW.quiet mixedP (by kernel_rfl) hs ?_
      refine QL.val rfl (fun w hs => run_move) ?_
      refine QL.enter rfl (fun w => run_call en35 rfl rfl) (fun w hs => hfrom (hlw hs)) ?_
      refine QL.val rfl (fun w hs => run_move) ?_
      refine QL.val rfl (fun w hs => run_add (c := ((fr : Int) + n)) rfl rfl (by omega) (by omega)) ?_
      refine QL.val rfl (fun w hs => run_move) ?_
      refine QL.val rfl (fun w hs => run_nilCheck rfl) ?_
      refine QL.val rfl (fun w hs => run_field (o' := 0) Tryd.underlying93 rfl ty86 rfl rfl rfl) ?_
      refine QL.val rfl (fun w hs => run_load1 ty86 rfl ((hat.step hs (by simp)).cell (j := 0) rfl)) ?_
      refine QL.val rfl (fun w hs => run_nilCheck rfl) ?_
      refine QL.val rfl (fun w hs => run_field (o' := 1) Tryd.underlying89 rfl ty34 rfl rfl rfl) ?_
      refine QL.val rfl (fun w hs => run_load1 ty34 rfl ((hf.step hs (by simp)).cell (j := 1) (v := .slice av r.x.length cv) (by rw [← hv]; rfl))) ?_
      refine QL.val rfl (fun w hs => run_lenSl Tryd.underlying34 rfl) ?_
      refine QL.val rfl (fun w hs => run_sub (c := ((fr : Int) + n - (r.x.length : Int))) rfl rfl (by omega) (by omega)) ?_
      refine QL.val rfl (fun w hs => run_maxE rfl rfl rfl) ?_
      refine QL.val rfl (fun w hs => run_assign) ?_
      refine QL.nil (fun w hs => ?_)
      repeat (first | refine CW.seq ?_ | refine CW.block ?_ | refine CW.skip ?_ | refine CW.label ?_ | refine CW.exit ?_ | refine CW.condT rfl ?_ | refine CW.condF rfl ?_)
      refine CW.quiet mixedP (by kernel_rfl) hs ?_
      refine QL.val rfl (fun w hs => run_move) ?_
      refine QL.val rfl (fun w hs => run_nilCheck rfl) ?_
      refine QL.val rfl (fun w hs => run_field (o' := 6) Tryd.underlying81 rfl ty3 rfl rfl rfl) ?_
      refine QL.val rfl (fun w hs => run_load1 ty3 rfl ((hfs.step hs (by simp)).cell (j := 6) rfl)) ?_
      refine QL.val rfl (fun w hs => run_move) ?_
      refine QL.val rfl (fun w hs => run_add (c := ((s.by_ : Int) + max 0 ((fr : Int) + n - (r.x.length : Int)))) rfl rfl (by omega) (by omega)) ?_
      refine QL.val rfl (fun w hs => run_move) ?_
      refine QL.val rfl (fun w hs => run_nilCheck rfl) ?_
      refine QL.val rfl (fun w hs => run_field (o' := 3) Tryd.underlying81 rfl ty30 rfl rfl rfl) ?_
      refine QL.val rfl (fun w hs => run_field (o' := 0) Tryd.underlying30 rfl ty3 rfl rfl rfl) ?_
      refine QL.val rfl (fun w hs => run_load1 ty3 rfl ((hfs.step hs (by simp)).cell (j := 3) rfl)) ?_
      refine QL.val rfl (fun w hs => run_bF (run_gtr rfl rfl) (by omega)) ?_
      refine QL.nil (fun w hs => ?_)
      repeat (first | refine CW.seq ?_ | refine CW.block ?_ | refine CW.skip ?_ | refine CW.label ?_ | refine CW.exit ?_)
      first | refine CW.condP rfl (fun h => ?_) (fun h => ?_) | refine CW.cond rfl (fun h => ?_) (fun h => ?_)
      · cases h
      repeat (first | refine CW.seq ?_ | refine CW.block ?_ | refine CW.skip ?_ | refine CW.label ?_ | refine CW.exit ?_ | refine CW.condT rfl ?_ | refine CW.condF rfl ?_)
      refine CW.reg ?_
      refine WL.val rfl (run_assign) ?_
      refine WL.nil ?_
      repeat (first | refine CW.seq ?_ | refine CW.block ?_ | refine CW.skip ?_ | refine CW.label ?_ | refine CW.exit ?_ | refine CW.condT rfl ?_ | refine CW.condF rfl ?_)
      refine CW.ret ?_
      refine fin_ret1 rfl ?_
      exact ⟨rfl, hs⟩
theorem place_spec (o : VOpen bf s L mf md vh Lh Fs Ds Hs) (ok : s.Ok) (hw : ∀ p ∈ L, w0.heap[p.1]? = some p.2) {h : Int} : Calls Tryd.prog 22 #[.pointer (some ⟨bf, 0, none⟩), .int .i64 h] w0 (Ret0 (.tuple #[str (s.place h).1, .int .i64 ((s.place h).2.1 : Nat), .int .i64 (s.place h).2.2]) w0) := by
  have hs : Step [] [] w0 w0 := Step.refl w0
  have hlw : ∀ {w : World}, Step [] [] w0 w → ∀ p ∈ L, w.heap[p.1]? = some p.2 := fun hs p hp => hs.old (hw p hp) (by simp)
  rcases o.his h with ⟨hi, _⟩ | ⟨k, hb, rfl, hk, hi⟩
  · rw [show s.place h = ([], 0, 95) by unfold VS.place; rw [hi]]
    refine calls (n := 30) Tryd.func22 rfl rfl rfl ?_
    repeat (first | refine CW.seq ?_ | refine CW.block ?_ | refine CW.skip ?_ | refine CW.label ?_ | refine CW.exit ?_ | refine CW.condT rfl ?_ | refine CW.condF rfl ?_)
    refine CW.reg ?_
    refine WL.val rfl (run_assign) ?_
    refine WL.val rfl (run_assign) ?_
    refine WL.val rfl (run_assign) ?_
    refine WL.nil ?_
    repeat (first | refine CW.seq ?_ | refine CW.block ?_ | refine CW.skip ?_ | refine CW.label ?_ | refine CW.exit ?_ | refine CW.condT rfl ?_ | refine CW.condF rfl ?_)
    refine CW.reg ?_
    refine WL.val rfl (run_move) ?_
    refine WL.val rfl (run_move) ?_
    refine WL.enter rfl (run_call en33 rfl rfl) (is_none o ok (hlw hs) hi) ?_
    rintro e w ⟨rfl, hq⟩
    refine ⟨_, rfl, ?_⟩
    replace hs := hs.callE hq
    refine WL.val rfl (run_move) ?_
    refine WL.val rfl (run_extract rfl rfl) ?_
    refine WL.val rfl (run_extract rfl rfl) ?_
    refine WL.val rfl (run_assign) ?_
    refine WL.val rfl (run_assign) ?_
    refine WL.nil ?_
    repeat (first | refine CW.seq ?_ | refine CW.block ?_ | refine CW.skip ?_ | refine CW.label ?_ | refine CW.exit ?_ | refine CW.condT rfl ?_ | refine CW.condF rfl ?_)
    refine CW.reg ?_
    refine WL.val rfl (run_move) ?_
    refine WL.val rfl (run_bT (run_neq rfl rfl) (by decide)) ?_
    refine WL.nil ?_
    repeat (first | refine CW.seq ?_ | refine CW.block ?_ | refine CW.skip ?_ | refine CW.label ?_ | refine CW.exit ?_)
    first | refine CW.condP rfl (fun h => ?_) (fun h => ?_) | refine CW.cond rfl (fun h => ?_) (fun h => ?_)
    · repeat (first | refine CW.seq ?_ | refine CW.block ?_ | refine CW.skip ?_ | refine CW.label ?_ | refine CW.exit ?_ | refine CW.condT rfl ?_ | refine CW.condF rfl ?_)
      refine CW.reg ?_
      refine WL.val rfl (run_move) ?_
      refine WL.val rfl (run_assign) ?_
      refine WL.val rfl (run_assign) ?_
      refine WL.val rfl (run_assign) ?_
      refine WL.nil ?_
      repeat (first | refine CW.seq ?_ | refine CW.block ?_ | refine CW.skip ?_ | refine CW.label ?_ | refine CW.exit ?_ | refine CW.condT rfl ?_ | refine CW.condF rfl ?_)
      refine CW.ret ?_
      refine fin_ret3 rfl ?_
      exact ⟨rfl, hs⟩
    · cases h
  · have hobt := o.file hk
    obtain ⟨r, hr, hfb⟩ := hobt
    have hat := o.hat hw hk
    have hobt := o.fat hw hr
    obtain ⟨hf, hsl⟩ := hobt
    rw [← hfb] at hf
    rw [show s.place (k : Int) = (r.p, hb.pl, 0) by
      unfold VS.place
      rw [hi]
      simp only
      rw [← o.F, List.getElem?_map, hr]
      rfl]
    refine calls (n := 30) Tryd.func22 rfl rfl rfl ?_
    repeat (first | refine CW.seq ?_ | refine CW.block ?_ | refine CW.skip ?_ | refine CW.label ?_ | refine CW.exit ?_ | refine CW.condT rfl ?_ | refine CW.condF rfl ?_)
    refine CW.reg ?_
    refine WL.val rfl (run_assign) ?_
    refine WL.val rfl (run_assign) ?_
    refine WL.val rfl (run_assign) ?_
    refine WL.nil ?_
    repeat (first | refine CW.seq ?_ | refine CW.block ?_ | refine CW.skip ?_ | refine CW.label ?_ | refine CW.exit ?_ | refine CW.condT rfl ?_ | refine CW.condF rfl ?_)
    refine CW.reg ?_
    refine WL.val rfl (run_move) ?_
    refine WL.val rfl (run_move) ?_
    refine WL.enter rfl (run_call en33 rfl rfl) (is_some o ok (hlw hs) hk) ?_
    rintro e w ⟨rfl, hq⟩
    refine ⟨_, rfl, ?_⟩
    replace hs := hs.callE hq
    refine WL.val rfl (run_move) ?_
    refine WL.val rfl (run_extract rfl rfl) ?_
    refine WL.val rfl (run_extract rfl rfl) ?_
    refine WL.val rfl (run_assign) ?_
    refine WL.val rfl (run_assign) ?_
    refine WL.nil ?_
    repeat (first | refine CW.seq ?_ | refine CW.block ?_ | refine CW.skip ?_ | refine CW.label ?_ | refine CW.exit ?_ | refine CW.condT rfl ?_ | refine CW.condF rfl ?_)
    refine CW.reg ?_
    refine WL.val rfl (run_move) ?_
    refine WL.val rfl (run_bF (run_neq rfl rfl) (by decide)) ?_
    refine WL.nil ?_
    repeat (first | refine CW.seq ?_ | refine CW.block ?_ | refine CW.skip ?_ | refine CW.label ?_ | refine CW.exit ?_)
    first | refine CW.condP rfl (fun h => ?_) (fun h => ?_) | refine CW.cond rfl (fun h => ?_) (fun h => ?_)
    · cases h
    repeat (first | refine CW.seq ?_ | refine CW.block ?_ | refine CW.skip ?_ | refine CW.label ?_ | refine CW.exit ?_ | refine CW.condT rfl ?_ | refine CW.condF rfl ?_)
    refine CW.quiet mixedP (by kernel_rfl) hs ?_
    refine QL.val rfl (fun w hs => run_move) ?_
    refine QL.val rfl (fun w hs => run_nilCheck rfl) ?_
    refine QL.val rfl (fun w hs => run_field (o' := 0) Tryd.underlying93 rfl ty86 rfl rfl rfl) ?_
    refine QL.val rfl (fun w hs => run_load1 ty86 rfl ((hat.step hs (by simp)).cell (j := 0) rfl)) ?_
    refine QL.val rfl (fun w hs => run_nilCheck rfl) ?_
    refine QL.val rfl (fun w hs => run_field (o' := 0) Tryd.underlying89 rfl ty75 rfl rfl rfl) ?_
    refine QL.val rfl (fun w hs => run_field (o' := 0) Tryd.underlying75 rfl ty9 rfl rfl rfl) ?_
    refine QL.val rfl (fun w hs => run_load1 ty9 rfl ((hf.step hs (by simp)).cell (j := 0) rfl)) ?_
    refine QL.val rfl (fun w hs => run_move) ?_
    refine QL.val rfl (fun w hs => run_nilCheck rfl) ?_
    refine QL.val rfl (fun w hs => run_field (o' := 1) Tryd.underlying93 rfl ty3 rfl rfl rfl) ?_
    refine QL.val rfl (fun w hs => run_load1 ty3 rfl ((hat.step hs (by simp)).cell (j := 1) rfl)) ?_
    refine QL.val rfl (fun w hs => run_assign) ?_
    refine QL.val rfl (fun w hs => run_assign) ?_
    refine QL.val rfl (fun w hs => run_assign) ?_
    refine QL.nil (fun w hs => ?_)
    repeat (first | refine CW.seq ?_ | refine CW.block ?_ | refine CW.skip ?_ | refine CW.label ?_ | refine CW.exit ?_ | refine CW.condT rfl ?_ | refine CW.condF rfl ?_)
    refine CW.ret ?_
    refine fin_ret3 rfl ?_
    exact ⟨rfl, hs⟩
theorem items_spec (o : VOpen bf s L mf md vh Lh Fs Ds Hs) (ok : s.Ok) (hD : 0 < s.D.length) (hw : ∀ p ∈ L, w0.heap[p.1]? = some p.2) : Calls Tryd.prog 44 #[.pointer (some ⟨bf, 0, none⟩)] w0 (Ret0 (.int .i64 (s.items : Nat)) w0) := by
  have hs : Step [] [] w0 w0 := Step.refl w0
  have hlw : ∀ {w : World}, Step [] [] w0 w → ∀ p ∈ L, w.heap[p.1]? = some p.2 := fun hs p hp => hs.old (hw p hp) (by simp)
  have hfs := o.at hw
  have e1 : Fs.length = s.F.length := by rw [← o.F, List.length_map]
  have e2 : Ds.length = s.D.length := by rw [← o.D, List.length_map]
  have h1 := ok.f
  have h2 := ok.d
  have hl1 := mapF_len Fs 0
  have hl2 := mapDi_len Ds 0
  have hi : ((s.items : Nat) : Int) = (s.F.length : Int) + s.D.length - 1 := by unfold VS.items; omega
  refine calls (n := 15) Tryd.func44 rfl rfl rfl ?_
  repeat (first | refine CW.seq ?_ | refine CW.block ?_ | refine CW.skip ?_ | refine CW.label ?_ | refine CW.exit ?_ | refine CW.condT rfl ?_ | refine CW.condF rfl ?_)
  refine CW.reg ?_
  refine WL.val rfl (run_assign) ?_
  refine WL.nil ?_
  repeat (first | refine CW.seq ?_ | refine CW.block ?_ | refine CW.skip ?_ | refine CW.label ?_ | refine CW.exit ?_ | refine CW.condT rfl ?_ | refine CW.condF rfl ?_)
  refine CW.quiet mixedP (by kernel_rfl) hs ?_
  refine QL.val rfl (fun w hs => run_move) ?_
  refine QL.val rfl (fun w hs => run_nilCheck rfl) ?_
  refine QL.val rfl (fun w hs => run_field (o' := 0) Tryd.underlying81 rfl ty72 rfl rfl rfl) ?_
  refine QL.val rfl (fun w hs => run_load1 ty72 rfl ((hfs.step hs (by simp)).cell (j := 0) rfl)) ?_
  refine QL.val rfl (fun w hs => run_lenS Tryd.underlying72 rfl (o.mf_ (hlw hs))) ?_
  refine QL.val rfl (fun w hs => run_move) ?_
  refine QL.val rfl (fun w hs => run_nilCheck rfl) ?_
  refine QL.val rfl (fun w hs => run_field (o' := 1) Tryd.underlying81 rfl ty78 rfl rfl rfl) ?_
  refine QL.val rfl (fun w hs => run_load1 ty78 rfl ((hfs.step hs (by simp)).cell (j := 1) rfl)) ?_
  refine QL.val rfl (fun w hs => run_lenS Tryd.underlying78 rfl (o.md_ (hlw hs))) ?_
  refine QL.val rfl (fun w hs => run_add (c := ((s.F.length : Int) + s.D.length)) rfl rfl (by omega) (by omega)) ?_
  refine QL.val rfl (fun w hs => run_sub (c := ((s.items : Nat) : Int)) rfl rfl (by omega) (by omega)) ?_
  refine QL.val rfl (fun w hs => run_assign) ?_
  refine QL.nil (fun w hs => ?_)
  repeat (first | refine CW.seq ?_ | refine CW.block ?_ | refine CW.skip ?_ | refine CW.label ?_ | refine CW.exit ?_ | refine CW.condT rfl ?_ | refine CW.condF rfl ?_)
  refine CW.ret ?_
  refine fin_ret1 rfl ?_
  exact ⟨rfl, hs⟩
def quoC (a b c : Int) : List Value := [.int .i64 a, .int .i64 b, .int .i64 c]
theorem bld_quo (a b c : Int) (w : World) : (Instr.build 30 #[(0, .int .i64 a), (1, .int .i64 b), (2, .int .i64 c)]).run Tryd.prog w = .ok (.agg (quoC a b c).toArray) w := by kernel_rfl
theorem used_spec (o : VOpen bf s L mf md vh Lh Fs Ds Hs) (ok : s.Ok) (hD : 0 < s.D.length) (hw : ∀ p ∈ L, w0.heap[p.1]? = some p.2) : Calls Tryd.prog 23 #[.pointer (some ⟨bf, 0, none⟩)] w0 (Ret0 (.agg (quoC (s.by_ : Nat) (s.items : Nat) (s.op : Nat)).toArray) w0) := by
  have hs : Step [] [] w0 w0 := Step.refl w0
  have hlw : ∀ {w : World}, Step [] [] w0 w → ∀ p ∈ L, w.heap[p.1]? = some p.2 := fun hs p hp => hs.old (hw p hp) (by simp)
  have hfs := o.at hw
  refine calls (n := 14) Tryd.func23 rfl rfl rfl ?_
  repeat (first | refine CW.seq ?_ | refine CW.block ?_ | refine CW.skip ?_ | refine CW.label ?_ | refine CW.exit ?_ | refine CW.condT rfl ?_ | refine CW.condF rfl ?_)
  refine CW.reg ?_
  refine WL.alloc ty30 rfl hs (fun b2 w hs => ?_)
  refine WL.nil ?_
  repeat (first | refine CW.seq ?_ | refine CW.block ?_ | refine CW.skip ?_ | refine CW.label ?_ | refine CW.exit ?_ | refine CW.condT rfl ?_ | refine CW.condF rfl ?_)
  refine CW.quietT (l1 := [_, _, _, _, _, _, _, _, _, _, _]) (l2 := [_]) 11 rfl mixedP rfl (by kernel_rfl) hs ?_
  refine QL.val rfl (fun w hs => run_move) ?_
  refine QL.val rfl (fun w hs => run_nilCheck rfl) ?_
  refine QL.val rfl (fun w hs => run_field (o' := 6) Tryd.underlying81 rfl ty3 rfl rfl rfl) ?_
  refine QL.val rfl (fun w hs => run_load1 ty3 rfl ((hfs.step hs.clear (by simp)).cell (j := 6) rfl)) ?_
  refine QL.val rfl (fun w hs => run_move) ?_
  refine QL.enter rfl (fun w => run_call en44 rfl rfl) (fun w hs => items_spec o ok hD (hlw hs.clear)) ?_
  refine QL.val rfl (fun w hs => run_move) ?_
  refine QL.val rfl (fun w hs => run_nilCheck rfl) ?_
  refine QL.val rfl (fun w hs => run_field (o' := 7) Tryd.underlying81 rfl ty3 rfl rfl rfl) ?_
  refine QL.val rfl (fun w hs => run_load1 ty3 rfl ((hfs.step hs.clear (by simp)).cell (j := 7) rfl)) ?_
  refine QL.val rfl (fun w hs => run_build rfl ((bld_quo _ _ _ _))) ?_
  refine QL.nil (fun w hs => ?_)
  first | refine WL.storeAll ty30 rfl rfl ((rfl)) (Cells1.of_all rfl) hs (by first | rfl | assumption) (fun w hs => ?_) | refine WL.storeAll_1 ty30 rfl rfl ((rfl)) (Cells1.of_all rfl) hs (by first | rfl | assumption) (fun w hs => ?_) | refine WL.storeAll_2 ty30 rfl rfl ((rfl)) (Cells1.of_all rfl) hs (by first | rfl | assumption) (fun w hs => ?_) | refine WL.storeAll_3 ty30 rfl rfl ((rfl)) (Cells1.of_all rfl) hs (by first | rfl | assumption) (fun w hs => ?_) | refine WL.storeAll_4 ty30 rfl rfl ((rfl)) (Cells1.of_all rfl) hs (by first | rfl | assumption) (fun w hs => ?_) | refine WL.storeAll ty30 rfl rfl ((rfl)) (Cells1.of_all rfl) hs (by first | rfl | assumption) (fun w hs => ?_)
  refine WL.nil ?_
  repeat (first | refine CW.seq ?_ | refine CW.block ?_ | refine CW.skip ?_ | refine CW.label ?_ | refine CW.exit ?_ | refine CW.condT rfl ?_ | refine CW.condF rfl ?_)
  refine CW.ret ?_
  first | refine fin_cell1 rfl rfl (run_loadVarN ty30 (by first | rfl | assumption | (simp; done)) hs.a0) ?_ | refine fin_cell1 rfl rfl (run_loadVarN ty30 (by first | rfl | assumption | (simp; done)) hs.a1) ?_ | refine fin_cell1 rfl rfl (run_loadVarN ty30 (by first | rfl | assumption | (simp; done)) hs.a2) ?_ | refine fin_cell1 rfl rfl (run_loadVarN ty30 (by first | rfl | assumption | (simp; done)) hs.a3) ?_ | refine fin_cell1 rfl rfl (run_loadVarN ty30 (by first | rfl | assumption | (simp; done)) hs.a4) ?_ | refine fin_cell1 rfl rfl (run_loadVarN ty30 (by first | rfl | assumption | (simp; done)) hs.a5) ?_
  exact ⟨rfl, hs.clear⟩
end
end Go.Gx
