/- Files in memory: one step of a script, whatever is answered. Two states of files alike but for the order of files and directories. No program in sight. Two states of files alike: Open. No program in sight. Two states of files alike: all that is done. No program in sight. Two states of files alike: handles; one step. No program in sight. The document's SameItems, and places, where both are alike. Files in memory: what the laws ask of file systems that stand side by side. -/
import Derived.Test.YtepaojbhjgefiaaDoorA9
import Derived.Test.YtepaojbhjgefiaaDoorVtA
/-! Vt14 -/
namespace Go.Gx
open Go.Proofs
set_option linter.unusedVariables false
set_option linter.unusedSimpArgs false
set_option maxRecDepth 100000
theorem perm_t1 {α : Type} {a b c : List α} : ((a ++ b) ++ c).Perm (a ++ (b ++ c)) := by rw [List.append_assoc]
def VS.doS (s : VS) (x : Stv) : VS × Int :=
  if x.k = 1 then ((s.open x.p x.n).2.2, if (s.open x.p x.n).2.1 = 0 then (s.open x.p x.n).1 else -1) else
  if x.k = 2 then ((s.read x.h x.n).2.2, -1) else
  if x.k = 4 then ((s.write x.h x.b).2, -1) else
  if x.k = 7 then ((s.close x.h).2, -1) else (s, -1)
theorem read_tree {s : VS} (t : s.Tree) (h n : Int) : (s.read h n).2.2.Tree := by
  unfold VS.read
  split
  · exact t
  · split
    · exact t
    · exact t.of rfl rfl
theorem close_tree {s : VS} (t : s.Tree) (h : Int) : (s.close h).2.Tree := by
  unfold VS.close
  split
  · exact t
  · exact t.of rfl rfl
theorem set_fst {F : List (List UInt8 × List UInt8)} {i : Nat} {x : List UInt8} : (F.set i (((F[i]?).map (·.1)).getD [], x)).map (·.1) = F.map (·.1) := by
  rw [List.map_set]
  apply List.ext_getElem?
  intro k
  by_cases hk : i = k
  · subst hk
    by_cases hi : i < F.length
    · rw [List.getElem?_set_self (by simpa using hi), List.getElem?_map, List.getElem?_eq_getElem hi]
      rfl
    · rw [List.getElem?_eq_none (by simpa using hi), List.getElem?_eq_none (by simpa using hi)]
  · rw [List.getElem?_set_ne hk]
theorem write_tree {s : VS} (t : s.Tree) (h : Int) (b : List UInt8) : (s.write h b).2.Tree := by
  unfold VS.write
  split
  · exact t
  · split
    · exact t
    · exact t.of rfl set_fst
theorem do_keeps {s : VS} (sn : s.Sane) (t : s.Tree) (x : Stv) : (s.doS x).1.Sane ∧ (s.doS x).1.Tree := by
  unfold VS.doS
  split
  · exact open_keeps sn t x.p x.n
  · split
    · exact ⟨sn.read x.h x.n, read_tree t x.h x.n⟩
    · split
      · exact ⟨sn.write x.h x.b, write_tree t x.h x.b⟩
      · split
        · exact ⟨sn.close x.h, close_tree t x.h⟩
        · exact ⟨sn, t⟩
theorem is_op {s : VS} (sn : s.Sane) {h : Int} (hi : (s.is h).isSome) : 1 ≤ s.op := by
  have hobt := Option.isSome_iff_exists.1 hi
  obtain ⟨a, ha⟩ := hobt
  have hobt := is_at ha
  obtain ⟨k, _, hk⟩ := hobt
  have := count_none hk
  have := sn.op
  omega
theorem Stv.cells1 {w : World} {x : Stv} (h : x.Ok w) : Cells1 x.cells := by
  intro v hv
  simp only [Stv.cells, List.mem_cons, List.not_mem_nil, or_false] at hv
  have hobt := h.hb.form
  obtain ⟨a, c, he⟩ := hobt
  rcases hv with rfl | rfl | rfl | rfl | rfl
  · rfl
  · rfl
  · rfl
  · rfl
  · rw [he]; rfl
section
variable {bf : Nat} {s : VS} {L : List (Nat × Obj)} {w0 : World}
set_option maxHeartbeats 4000000 in
theorem do_spec (hR : VRep bf s L) (sn : s.Sane) (t : s.Tree) (hg : Gl w0) (h0 : 0 ∉ L.map (·.1)) (hw : Step (L.map (·.1)) L w0 w0) {x : Stv} (hx : x.Ok w0) (hv : ∀ {L' w}, Step (L.map (·.1)) L' w0 w → Sl w 1 x.v x.b.length (u8s x.b)) : Calls Tryd.prog 13 #[.pointer (some ⟨bf, 0, none⟩), .agg x.cells.toArray] w0 fun e w' => ∃ L', e = .returned (.int .i64 (s.doS x).2) ∧ VRep bf (s.doS x).1 L' ∧ Step (L.map (·.1)) L' w0 w' := by
  have hs : Step (L.map (·.1)) L w0 w0 := hw
  have hc1 := Stv.cells1 hx
  obtain ⟨k, h, n, p, v, b⟩ := x
  have hobt := hx.hb.form
  obtain ⟨av, cv, hve⟩ := hobt
  have hve : v = .slice av b.length cv := hve
  subst hve
  have hk := hx.hk
  have hh := hx.hh
  have hn := hx.hn
  have hpl := hx.hp
  have hlb := hx.lb
  have hR0 := hR
  have ok := sn.ok
  obtain ⟨mf, md, vh, Lh, Fs, Ds, Hs, o⟩ := hR
  have hobt : ∃ S, L.map (·.1) = S := ⟨_, rfl⟩
  obtain ⟨S, hS⟩ := hobt
  rw [hS] at hs h0 ⊢
  simp only [hS] at hv
  have hcell := fun {A : List (Nat × Obj)} {b3 : Nat} {w : World} (hs : Step S (A ++ [(b3, blk 47 [.int .i64 k, .int .i64 h, .int .i64 n, str p, .slice av b.length cv])]) w0 w) => At.of_blk (hs.has (b3, blk 47 [.int .i64 k, .int .i64 h, .int .i64 n, str p, .slice av b.length cv]) (by simp))
  have hz0 : ∀ {A R : List (Nat × Obj)} {w : World}, Step S (A ++ R) w0 w → 0 ∉ A.map (·.1) := fun hs => hs.dropR.zero h0 hg
  refine calls (n := 67) Tryd.func13 rfl rfl rfl ?_
  refine CW.seq ?_
  refine CW.reg ?_
  refine WL.box (cs := [.int .i64 k, .int .i64 h, .int .i64 n, str p, .slice av b.length cv]) rfl rfl rfl hs (fun b3 w hs => ?_)
  refine WL.val rfl (run_assign) ?_
  refine WL.nil ?_
  replace hs := hs.perm perm_k3
  refine CW.seq <| CW.seq ?_
  refine CW.reg ?_
  refine WL.val rfl (run_field (o' := 0) Tryd.underlying47 rfl ty3 rfl rfl rfl) ?_
  refine WL.val rfl (run_load1 ty3 rfl ((hcell hs).cell (j := 0) rfl)) ?_
  refine WL.nil ?_
  by_cases h1 : k = 1
  · have e1 : s.doS ⟨k, h, n, p, .slice av b.length cv, b⟩ = ((s.open p n).2.2, if (s.open p n).2.1 = 0 then (s.open p n).1 else -1) := if_pos h1
    rw [e1]
    have hop := fun {w} hg h0 hw => open_spec (w0 := w) (p := p) (mode := n) hR0 sn hg h0 hw hpl
    have hobt : ∃ r1 r2 s2, s.open p n = (r1, r2, s2) := ⟨_, _, _, rfl⟩
    obtain ⟨r1, r2, s2, hr⟩ := hobt
    simp only [hr] at hop ⊢
    repeat (first | refine CW.seq ?_ | refine CW.block ?_)
    refine CW.reg ?_
    refine WL.val rfl (run_bT (run_eql rfl rfl) (by exact h1)) ?_
    refine WL.val rfl (run_assign) ?_
    refine WL.nil ?_
    refine CW.cond rfl (fun hc => ?_) (fun hc => ?_)
    · refine CW.seq ?_
      refine CW.reg ?_
      refine WL.val rfl (run_move) ?_
      refine WL.val rfl (run_field (o' := 3) Tryd.underlying47 rfl ty9 rfl rfl rfl) ?_
      refine WL.val rfl (run_load1 ty9 rfl ((hcell hs).cell (j := 3) rfl)) ?_
      refine WL.val rfl (run_field (o' := 2) Tryd.underlying47 rfl ty3 rfl rfl rfl) ?_
      refine WL.val rfl (run_load1 ty3 rfl ((hcell hs).cell (j := 2) rfl)) ?_
      refine WL.enter rfl (run_call en9 rfl rfl) (hop (hg.stepS hs h0) (hz0 hs) hs.own) ?_
      rintro e w ⟨L2, rfl, hR2, hq⟩
      refine ⟨_, rfl, ?_⟩
      replace hs := hs.call hq
      refine WL.val rfl (run_move) ?_
      refine WL.val rfl (run_extract rfl rfl) ?_
      refine WL.val rfl (run_extract rfl rfl) ?_
      refine WL.val rfl (run_assign) ?_
      refine WL.val rfl (run_assign) ?_
      refine WL.nil ?_
      by_cases h2 : r2 = 0
      · rw [if_pos h2]
        refine CW.seq ?_
        refine CW.reg ?_
        refine WL.val rfl (run_move) ?_
        refine WL.val rfl (run_bT (run_eql rfl rfl) (by exact h2)) ?_
        refine WL.nil ?_
        refine CW.cond rfl (fun hc2 => ?_) (fun hc2 => ?_)
        · refine CW.seq ?_
          refine CW.reg ?_
          refine WL.val rfl (run_move) ?_
          refine WL.val rfl (run_assign) ?_
          refine WL.nil ?_
          refine CW.ret ?_
          refine fin_ret1 rfl ?_
          exact ⟨L2, rfl, hR2, hs.dropR⟩
        · cases hc2
      · have he : (if r2 = 0 then r1 else -1) = -1 := if_neg h2
        refine CW.seq ?_
        refine CW.reg ?_
        refine WL.val rfl (run_move) ?_
        refine WL.val rfl (run_bF (run_eql rfl rfl) (by exact h2)) ?_
        refine WL.nil ?_
        refine CW.cond rfl (fun hc2 => ?_) (fun hc2 => ?_)
        · cases hc2
        repeat (first | refine CW.seq ?_ | refine CW.skip ?_)
        refine CW.reg ?_
        refine WL.val rfl (run_assign) ?_
        refine WL.nil ?_
        refine CW.ret ?_
        refine fin_ret1 rfl ?_
        exact ⟨_, congrArg (fun z => Ending.returned (.int .i64 z)) he.symm, hR2, hs.dropR⟩
    · cases hc
  by_cases h2 : k = 2
  · have he : (s.doS ⟨k, h, n, p, .slice av b.length cv, b⟩).2 = -1 := by unfold VS.doS; rw [if_neg h1, if_pos h2]
    have e2 : (s.doS ⟨k, h, n, p, .slice av b.length cv, b⟩).1 = (s.read h n).2.2 := by unfold VS.doS; rw [if_neg h1, if_pos h2]
    rw [he, e2]
    have he : (-1 : Int) = -1 := rfl
    have hrd := fun {w} hw => read_spec (w0 := w) (h := h) (n := n) hR0 ok hw hn
    repeat (first | refine CW.seq ?_ | refine CW.block ?_)
    refine CW.reg ?_
    refine WL.val rfl (run_bF (run_eql rfl rfl) (by exact h1)) ?_
    refine WL.val rfl (run_assign) ?_
    refine WL.nil ?_
    refine CW.cond rfl (fun hc => ?_) (fun hc => ?_)
    · cases hc
    refine CW.seq ?_
    refine CW.reg ?_
    refine WL.val rfl (run_bT (run_eql rfl rfl) (by exact h2)) ?_
    refine WL.val rfl (run_assign) ?_
    refine WL.nil ?_
    refine CW.cond rfl (fun hc => ?_) (fun hc => ?_)
    · skip
      refine CW.reg ?_
      refine WL.val rfl (run_move) ?_
      refine WL.val rfl (run_field (o' := 1) Tryd.underlying47 rfl ty3 rfl rfl rfl) ?_
      refine WL.val rfl (run_load1 ty3 rfl ((hcell hs).cell (j := 1) rfl)) ?_
      refine WL.val rfl (run_field (o' := 2) Tryd.underlying47 rfl ty3 rfl rfl rfl) ?_
      refine WL.val rfl (run_load1 ty3 rfl ((hcell hs).cell (j := 2) rfl)) ?_
      refine WL.enter rfl (run_call en16 rfl rfl) (hrd hs.own) ?_
      rintro e w ⟨v', Lv, L2, rfl, hu, hR2, hq⟩
      refine ⟨_, rfl, ?_⟩
      replace hs := (hs.call hq)
      replace hs := (hs.perm perm_t1).dropL
      refine WL.nil ?_
      refine CW.seq ?_
      refine CW.reg ?_
      refine WL.val rfl (run_assign) ?_
      refine WL.nil ?_
      refine CW.ret ?_
      refine fin_ret1 rfl ?_
      exact ⟨_, congrArg (fun z => Ending.returned (.int .i64 z)) he.symm, hR2, hs.dropR⟩
    · cases hc
  by_cases h3 : k = 3
  · have e2 : s.doS ⟨k, h, n, p, .slice av b.length cv, b⟩ = (s, -1) := by unfold VS.doS; rw [if_neg h1, if_neg h2, if_neg (show ¬ k = 4 by omega), if_neg (show ¬ k = 7 by omega)]
    rw [e2]
    have he : (-1 : Int) = -1 := rfl
    have hR2 := hR0
    have hpk := fun {w} hw => peek_spec (w0 := w) (h := h) (n := n) o ok hw hn
    repeat (first | refine CW.seq ?_ | refine CW.block ?_)
    refine CW.reg ?_
    refine WL.val rfl (run_bF (run_eql rfl rfl) (by exact h1)) ?_
    refine WL.val rfl (run_assign) ?_
    refine WL.nil ?_
    refine CW.cond rfl (fun hc => ?_) (fun hc => ?_)
    · cases hc
    refine CW.seq ?_
    refine CW.reg ?_
    refine WL.val rfl (run_bF (run_eql rfl rfl) (by exact h2)) ?_
    refine WL.val rfl (run_assign) ?_
    refine WL.nil ?_
    refine CW.cond rfl (fun hc => ?_) (fun hc => ?_)
    · cases hc
    refine CW.seq ?_
    refine CW.reg ?_
    refine WL.val rfl (run_bT (run_eql rfl rfl) (by exact h3)) ?_
    refine WL.val rfl (run_assign) ?_
    refine WL.nil ?_
    refine CW.cond rfl (fun hc => ?_) (fun hc => ?_)
    · skip
      refine CW.reg ?_
      refine WL.val rfl (run_move) ?_
      refine WL.val rfl (run_field (o' := 1) Tryd.underlying47 rfl ty3 rfl rfl rfl) ?_
      refine WL.val rfl (run_load1 ty3 rfl ((hcell hs).cell (j := 1) rfl)) ?_
      refine WL.val rfl (run_field (o' := 2) Tryd.underlying47 rfl ty3 rfl rfl rfl) ?_
      refine WL.val rfl (run_load1 ty3 rfl ((hcell hs).cell (j := 2) rfl)) ?_
      refine WL.enter rfl (run_call en36 rfl rfl) (hpk (fun p hp => hs.has p (by simp [hp]))) ?_
      rintro e w ⟨rfl, hq⟩
      refine ⟨_, rfl, ?_⟩
      replace hs := hs.callE hq
      refine WL.nil ?_
      refine CW.seq ?_
      refine CW.reg ?_
      refine WL.val rfl (run_assign) ?_
      refine WL.nil ?_
      refine CW.ret ?_
      refine fin_ret1 rfl ?_
      exact ⟨_, congrArg (fun z => Ending.returned (.int .i64 z)) he.symm, hR2, hs.dropR⟩
    · cases hc
  by_cases h4 : k = 4
  · have he : (s.doS ⟨k, h, n, p, .slice av b.length cv, b⟩).2 = -1 := by unfold VS.doS; rw [if_neg h1, if_neg h2, if_pos h4]
    have e2 : (s.doS ⟨k, h, n, p, .slice av b.length cv, b⟩).1 = (s.write h b).2 := by unfold VS.doS; rw [if_neg h1, if_neg h2, if_pos h4]
    rw [he, e2]
    have he : (-1 : Int) = -1 := rfl
    have hwr := fun {w} hw (hsb : ∀ {L' w'}, Step (L.map (·.1)) L' w w' → Sl w' 1 (.slice av b.length cv) b.length (u8s b)) => write_spec (w0 := w) (h := h) (b := b) hR0 ok hw hlb hsb
    repeat (first | refine CW.seq ?_ | refine CW.block ?_)
    refine CW.reg ?_
    refine WL.val rfl (run_bF (run_eql rfl rfl) (by exact h1)) ?_
    refine WL.val rfl (run_assign) ?_
    refine WL.nil ?_
    refine CW.cond rfl (fun hc => ?_) (fun hc => ?_)
    · cases hc
    refine CW.seq ?_
    refine CW.reg ?_
    refine WL.val rfl (run_bF (run_eql rfl rfl) (by exact h2)) ?_
    refine WL.val rfl (run_assign) ?_
    refine WL.nil ?_
    refine CW.cond rfl (fun hc => ?_) (fun hc => ?_)
    · cases hc
    refine CW.seq ?_
    refine CW.reg ?_
    refine WL.val rfl (run_bF (run_eql rfl rfl) (by exact h3)) ?_
    refine WL.val rfl (run_assign) ?_
    refine WL.nil ?_
    refine CW.cond rfl (fun hc => ?_) (fun hc => ?_)
    · cases hc
    refine CW.seq ?_
    refine CW.reg ?_
    refine WL.val rfl (run_bT (run_eql rfl rfl) (by exact h4)) ?_
    refine WL.val rfl (run_assign) ?_
    refine WL.nil ?_
    refine CW.cond rfl (fun hc => ?_) (fun hc => ?_)
    · skip
      refine CW.reg ?_
      refine WL.val rfl (run_move) ?_
      refine WL.val rfl (run_field (o' := 1) Tryd.underlying47 rfl ty3 rfl rfl rfl) ?_
      refine WL.val rfl (run_load1 ty3 rfl ((hcell hs).cell (j := 1) rfl)) ?_
      refine WL.val rfl (run_field (o' := 4) Tryd.underlying47 rfl ty34 rfl rfl rfl) ?_
      refine WL.val rfl (run_load1 ty34 rfl ((hcell hs).cell (j := 4) rfl)) ?_
      refine WL.enter rfl (run_call en11 rfl rfl) (hwr hs.own (fun h => hv (hs.dropR.call1 h))) ?_
      rintro e w ⟨L2, rfl, hR2, hq⟩
      refine ⟨_, rfl, ?_⟩
      replace hs := hs.call hq
      refine WL.nil ?_
      refine CW.seq ?_
      refine CW.reg ?_
      refine WL.val rfl (run_assign) ?_
      refine WL.nil ?_
      refine CW.ret ?_
      refine fin_ret1 rfl ?_
      exact ⟨_, congrArg (fun z => Ending.returned (.int .i64 z)) he.symm, hR2, hs.dropR⟩
    · cases hc
  by_cases h5 : k = 5
  · have e2 : s.doS ⟨k, h, n, p, .slice av b.length cv, b⟩ = (s, -1) := by unfold VS.doS; rw [if_neg h1, if_neg h2, if_neg (show ¬ k = 4 by omega), if_neg (show ¬ k = 7 by omega)]
    rw [e2]
    have he : (-1 : Int) = -1 := rfl
    have hR2 := hR0
    have hmy := fun {w} hw => may_spec (w0 := w) (h := h) (n := n) o ok hw hn
    repeat (first | refine CW.seq ?_ | refine CW.block ?_)
    refine CW.reg ?_
    refine WL.val rfl (run_bF (run_eql rfl rfl) (by exact h1)) ?_
    refine WL.val rfl (run_assign) ?_
    refine WL.nil ?_
    refine CW.cond rfl (fun hc => ?_) (fun hc => ?_)
    · cases hc
    refine CW.seq ?_
    refine CW.reg ?_
    refine WL.val rfl (run_bF (run_eql rfl rfl) (by exact h2)) ?_
    refine WL.val rfl (run_assign) ?_
    refine WL.nil ?_
    refine CW.cond rfl (fun hc => ?_) (fun hc => ?_)
    · cases hc
    refine CW.seq ?_
    refine CW.reg ?_
    refine WL.val rfl (run_bF (run_eql rfl rfl) (by exact h3)) ?_
    refine WL.val rfl (run_assign) ?_
    refine WL.nil ?_
    refine CW.cond rfl (fun hc => ?_) (fun hc => ?_)
    · cases hc
    refine CW.seq ?_
    refine CW.reg ?_
    refine WL.val rfl (run_bF (run_eql rfl rfl) (by exact h4)) ?_
    refine WL.val rfl (run_assign) ?_
    refine WL.nil ?_
    refine CW.cond rfl (fun hc => ?_) (fun hc => ?_)
    · cases hc
    refine CW.seq ?_
    refine CW.reg ?_
    refine WL.val rfl (run_bT (run_eql rfl rfl) (by exact h5)) ?_
    refine WL.val rfl (run_assign) ?_
    refine WL.nil ?_
    refine CW.cond rfl (fun hc => ?_) (fun hc => ?_)
    · skip
      refine CW.reg ?_
      refine WL.val rfl (run_move) ?_
      refine WL.val rfl (run_field (o' := 1) Tryd.underlying47 rfl ty3 rfl rfl rfl) ?_
      refine WL.val rfl (run_load1 ty3 rfl ((hcell hs).cell (j := 1) rfl)) ?_
      refine WL.val rfl (run_field (o' := 2) Tryd.underlying47 rfl ty3 rfl rfl rfl) ?_
      refine WL.val rfl (run_load1 ty3 rfl ((hcell hs).cell (j := 2) rfl)) ?_
      refine WL.enter rfl (run_call en34 rfl rfl) (hmy (fun p hp => hs.has p (by simp [hp]))) ?_
      rintro e w ⟨rfl, hq⟩
      refine ⟨_, rfl, ?_⟩
      replace hs := hs.callE hq
      refine WL.nil ?_
      refine CW.seq ?_
      refine CW.reg ?_
      refine WL.val rfl (run_assign) ?_
      refine WL.nil ?_
      refine CW.ret ?_
      refine fin_ret1 rfl ?_
      exact ⟨_, congrArg (fun z => Ending.returned (.int .i64 z)) he.symm, hR2, hs.dropR⟩
    · cases hc
  by_cases h6 : k = 6
  · have e2 : s.doS ⟨k, h, n, p, .slice av b.length cv, b⟩ = (s, -1) := by unfold VS.doS; rw [if_neg h1, if_neg h2, if_neg (show ¬ k = 4 by omega), if_neg (show ¬ k = 7 by omega)]
    rw [e2]
    have he : (-1 : Int) = -1 := rfl
    have hR2 := hR0
    have hls := fun {w} hg hw => list_spec (w0 := w) (p := p) o ok t hg hw hpl
    repeat (first | refine CW.seq ?_ | refine CW.block ?_)
    refine CW.reg ?_
    refine WL.val rfl (run_bF (run_eql rfl rfl) (by exact h1)) ?_
    refine WL.val rfl (run_assign) ?_
    refine WL.nil ?_
    refine CW.cond rfl (fun hc => ?_) (fun hc => ?_)
    · cases hc
    refine CW.seq ?_
    refine CW.reg ?_
    refine WL.val rfl (run_bF (run_eql rfl rfl) (by exact h2)) ?_
    refine WL.val rfl (run_assign) ?_
    refine WL.nil ?_
    refine CW.cond rfl (fun hc => ?_) (fun hc => ?_)
    · cases hc
    refine CW.seq ?_
    refine CW.reg ?_
    refine WL.val rfl (run_bF (run_eql rfl rfl) (by exact h3)) ?_
    refine WL.val rfl (run_assign) ?_
    refine WL.nil ?_
    refine CW.cond rfl (fun hc => ?_) (fun hc => ?_)
    · cases hc
    refine CW.seq ?_
    refine CW.reg ?_
    refine WL.val rfl (run_bF (run_eql rfl rfl) (by exact h4)) ?_
    refine WL.val rfl (run_assign) ?_
    refine WL.nil ?_
    refine CW.cond rfl (fun hc => ?_) (fun hc => ?_)
    · cases hc
    refine CW.seq ?_
    refine CW.reg ?_
    refine WL.val rfl (run_bF (run_eql rfl rfl) (by exact h5)) ?_
    refine WL.val rfl (run_assign) ?_
    refine WL.nil ?_
    refine CW.cond rfl (fun hc => ?_) (fun hc => ?_)
    · cases hc
    refine CW.seq ?_
    refine CW.reg ?_
    refine WL.val rfl (run_bT (run_eql rfl rfl) (by exact h6)) ?_
    refine WL.val rfl (run_assign) ?_
    refine WL.nil ?_
    refine CW.cond rfl (fun hc => ?_) (fun hc => ?_)
    · skip
      refine CW.reg ?_
      refine WL.val rfl (run_move) ?_
      refine WL.val rfl (run_field (o' := 3) Tryd.underlying47 rfl ty9 rfl rfl rfl) ?_
      refine WL.val rfl (run_load1 ty9 rfl ((hcell hs).cell (j := 3) rfl)) ?_
      refine WL.enter rfl (run_call en15 rfl rfl) (hls (hg.stepS hs h0) (fun p hp => hs.has p (by simp [hp]))) ?_
      rintro e w ⟨u, Lu, rfl, hu, hq⟩
      refine ⟨_, rfl, ?_⟩
      replace hs := (hs.call0 hq).dropL
      refine WL.nil ?_
      refine CW.seq ?_
      refine CW.reg ?_
      refine WL.val rfl (run_assign) ?_
      refine WL.nil ?_
      refine CW.ret ?_
      refine fin_ret1 rfl ?_
      exact ⟨_, congrArg (fun z => Ending.returned (.int .i64 z)) he.symm, hR2, hs.dropR⟩
    · cases hc
  by_cases h7 : k = 7
  · have he : (s.doS ⟨k, h, n, p, .slice av b.length cv, b⟩).2 = -1 := by unfold VS.doS; rw [if_neg h1, if_neg h2, if_neg h4, if_pos h7]
    have e2 : (s.doS ⟨k, h, n, p, .slice av b.length cv, b⟩).1 = (s.close h).2 := by unfold VS.doS; rw [if_neg h1, if_neg h2, if_neg h4, if_pos h7]
    rw [he, e2]
    have he : (-1 : Int) = -1 := rfl
    have hcl := fun {w} hw => close_spec (w0 := w) (h := h) hR0 ok (is_op sn) hw
    repeat (first | refine CW.seq ?_ | refine CW.block ?_)
    refine CW.reg ?_
    refine WL.val rfl (run_bF (run_eql rfl rfl) (by exact h1)) ?_
    refine WL.val rfl (run_assign) ?_
    refine WL.nil ?_
    refine CW.cond rfl (fun hc => ?_) (fun hc => ?_)
    · cases hc
    refine CW.seq ?_
    refine CW.reg ?_
    refine WL.val rfl (run_bF (run_eql rfl rfl) (by exact h2)) ?_
    refine WL.val rfl (run_assign) ?_
    refine WL.nil ?_
    refine CW.cond rfl (fun hc => ?_) (fun hc => ?_)
    · cases hc
    refine CW.seq ?_
    refine CW.reg ?_
    refine WL.val rfl (run_bF (run_eql rfl rfl) (by exact h3)) ?_
    refine WL.val rfl (run_assign) ?_
    refine WL.nil ?_
    refine CW.cond rfl (fun hc => ?_) (fun hc => ?_)
    · cases hc
    refine CW.seq ?_
    refine CW.reg ?_
    refine WL.val rfl (run_bF (run_eql rfl rfl) (by exact h4)) ?_
    refine WL.val rfl (run_assign) ?_
    refine WL.nil ?_
    refine CW.cond rfl (fun hc => ?_) (fun hc => ?_)
    · cases hc
    refine CW.seq ?_
    refine CW.reg ?_
    refine WL.val rfl (run_bF (run_eql rfl rfl) (by exact h5)) ?_
    refine WL.val rfl (run_assign) ?_
    refine WL.nil ?_
    refine CW.cond rfl (fun hc => ?_) (fun hc => ?_)
    · cases hc
    refine CW.seq ?_
    refine CW.reg ?_
    refine WL.val rfl (run_bF (run_eql rfl rfl) (by exact h6)) ?_
    refine WL.val rfl (run_assign) ?_
    refine WL.nil ?_
    refine CW.cond rfl (fun hc => ?_) (fun hc => ?_)
    · cases hc
    refine CW.seq ?_
    refine CW.reg ?_
    refine WL.val rfl (run_bT (run_eql rfl rfl) (by exact h7)) ?_
    refine WL.val rfl (run_assign) ?_
    refine WL.nil ?_
    refine CW.cond rfl (fun hc => ?_) (fun hc => ?_)
    · skip
      refine CW.reg ?_
      refine WL.val rfl (run_move) ?_
      refine WL.val rfl (run_field (o' := 1) Tryd.underlying47 rfl ty3 rfl rfl rfl) ?_
      refine WL.val rfl (run_load1 ty3 rfl ((hcell hs).cell (j := 1) rfl)) ?_
      refine WL.enter rfl (run_call en10 rfl rfl) (hcl hs.own) ?_
      rintro e w ⟨L2, rfl, hR2, hq⟩
      refine ⟨_, rfl, ?_⟩
      replace hs := hs.call hq
      refine WL.nil ?_
      refine CW.seq ?_
      refine CW.reg ?_
      refine WL.val rfl (run_assign) ?_
      refine WL.nil ?_
      refine CW.ret ?_
      refine fin_ret1 rfl ?_
      exact ⟨_, congrArg (fun z => Ending.returned (.int .i64 z)) he.symm, hR2, hs.dropR⟩
    · cases hc
  have e2 : s.doS ⟨k, h, n, p, .slice av b.length cv, b⟩ = (s, -1) := by unfold VS.doS; rw [if_neg h1, if_neg h2, if_neg h4, if_neg h7]
  rw [e2]
  have he : (-1 : Int) = -1 := rfl
  have hR2 := hR0
  repeat (first | refine CW.seq ?_ | refine CW.block ?_)
  refine CW.reg ?_
  refine WL.val rfl (run_bF (run_eql rfl rfl) (by exact h1)) ?_
  refine WL.val rfl (run_assign) ?_
  refine WL.nil ?_
  refine CW.cond rfl (fun hc => ?_) (fun hc => ?_)
  · cases hc
  refine CW.seq ?_
  refine CW.reg ?_
  refine WL.val rfl (run_bF (run_eql rfl rfl) (by exact h2)) ?_
  refine WL.val rfl (run_assign) ?_
  refine WL.nil ?_
  refine CW.cond rfl (fun hc => ?_) (fun hc => ?_)
  · cases hc
  refine CW.seq ?_
  refine CW.reg ?_
  refine WL.val rfl (run_bF (run_eql rfl rfl) (by exact h3)) ?_
  refine WL.val rfl (run_assign) ?_
  refine WL.nil ?_
  refine CW.cond rfl (fun hc => ?_) (fun hc => ?_)
  · cases hc
  refine CW.seq ?_
  refine CW.reg ?_
  refine WL.val rfl (run_bF (run_eql rfl rfl) (by exact h4)) ?_
  refine WL.val rfl (run_assign) ?_
  refine WL.nil ?_
  refine CW.cond rfl (fun hc => ?_) (fun hc => ?_)
  · cases hc
  refine CW.seq ?_
  refine CW.reg ?_
  refine WL.val rfl (run_bF (run_eql rfl rfl) (by exact h5)) ?_
  refine WL.val rfl (run_assign) ?_
  refine WL.nil ?_
  refine CW.cond rfl (fun hc => ?_) (fun hc => ?_)
  · cases hc
  refine CW.seq ?_
  refine CW.reg ?_
  refine WL.val rfl (run_bF (run_eql rfl rfl) (by exact h6)) ?_
  refine WL.val rfl (run_assign) ?_
  refine WL.nil ?_
  refine CW.cond rfl (fun hc => ?_) (fun hc => ?_)
  · cases hc
  refine CW.seq ?_
  refine CW.reg ?_
  refine WL.val rfl (run_bF (run_eql rfl rfl) (by exact h7)) ?_
  refine WL.val rfl (run_assign) ?_
  refine WL.nil ?_
  refine CW.cond rfl (fun hc => ?_) (fun hc => ?_)
  · cases hc
  repeat (first | refine CW.seq ?_ | refine CW.skip ?_)
  refine CW.reg ?_
  refine WL.val rfl (run_assign) ?_
  refine WL.nil ?_
  refine CW.ret ?_
  refine fin_ret1 rfl ?_
  exact ⟨_, congrArg (fun z => Ending.returned (.int .i64 z)) he.symm, hR2, hs.dropR⟩
end
end Go.Gx
/-! Vw1 -/
namespace Go.Gx
open Go.Proofs
set_option linter.unusedVariables false
set_option linter.unusedSimpArgs false
/-- The handles, with their files' paths. -/
def hv (s : VS) : List (Option (List UInt8 × Nat × Nat)) := s.H.map (Option.map fun h => (s.pth h.1, h.2.1, h.2.2))
structure Eqv (s s' : VS) : Prop where
  F : s.F.Perm s'.F
  D : s.D.Perm s'.D
  H : hv s = hv s'
  qb : s.qb = s'.qb
  qf : s.qf = s'.qf
  qo : s.qo = s'.qo
  by_ : s.by_ = s'.by_
  op : s.op = s'.op
theorem Eqv.refl (s : VS) : Eqv s s := ⟨List.Perm.refl _, List.Perm.refl _, rfl, rfl, rfl, rfl, rfl, rfl⟩
theorem Eqv.symm {s s' : VS} (e : Eqv s s') : Eqv s' s := ⟨e.F.symm, e.D.symm, e.H.symm, e.qb.symm, e.qf.symm, e.qo.symm, e.by_.symm, e.op.symm⟩
theorem Eqv.trans {s s' s2 : VS} (e : Eqv s s') (f : Eqv s' s2) : Eqv s s2 := ⟨e.F.trans f.F, e.D.trans f.D, e.H.trans f.H, e.qb.trans f.qb, e.qf.trans f.qf, e.qo.trans f.qo, e.by_.trans f.by_, e.op.trans f.op⟩
theorem perm_get {α β : Type} {l l' : List (α × β)} (h : l.Perm l') {i : Nat} {e : α × β} (he : l[i]? = some e) : ∃ j : Nat, l'[j]? = some e := List.mem_iff_getElem?.1 (h.mem_iff.1 (List.mem_of_getElem? he))
section
variable {α β : Type} [DecidableEq α]
/-- The entry of a key, once only. -/
theorem find_nodup {l : List (α × β)} {p : α} {i : Nat} (hn : (l.map (·.1)).Nodup) : l.findIdx? (fun e => decide (e.1 = p)) = some i ↔ ∃ e, l[i]? = some e ∧ e.1 = p := by
  rw [List.findIdx?_eq_some_iff_getElem]
  constructor
  · rintro ⟨h1, h2, _⟩
    exact ⟨l[i], List.getElem?_eq_getElem h1, of_decide_eq_true h2⟩
  · rintro ⟨e, he, hp⟩
    have hobt := List.getElem?_eq_some_iff.1 he
    obtain ⟨h1, h2⟩ := hobt
    refine ⟨h1, by rw [h2]; simpa using hp, fun j hj => ?_⟩
    intro h
    have h3 : l[j].1 = p := by simpa using h
    have h4 := List.pairwise_iff_getElem.1 hn j i (by simpa using Nat.lt_trans hj h1) (by simpa using h1) hj
    simp only [List.getElem_map] at h4
    exact h4 (h3.trans (by rw [h2, hp]))
theorem set_map {l : List (α × β)} {p : α} {i : Nat} {x : β} (hn : (l.map (·.1)).Nodup) {e : α × β} (he : l[i]? = some e) (hp : e.1 = p) : l.set i (p, x) = l.map fun e => if e.1 = p then (p, x) else e := by
  apply List.ext_getElem?
  intro k
  have hobt := List.getElem?_eq_some_iff.1 he
  obtain ⟨h1, h2⟩ := hobt
  by_cases hk : i = k
  · subst hk
    rw [List.getElem?_set_self h1, List.getElem?_map, he]
    simp [hp]
  · rw [List.getElem?_set_ne hk, List.getElem?_map]
    cases hx : l[k]? with
    | none => rfl
    | some f =>
      have hne : f.1 ≠ p := fun h => by
        have a1 := (find_nodup hn).2 ⟨e, he, hp⟩
        have a2 := (find_nodup hn).2 ⟨f, hx, h⟩
        rw [a1] at a2
        exact hk (Option.some.inj a2)
      simp [hne]
theorem modify_map {l : List (α × Nat)} {p : α} {i : Nat} (hn : (l.map (·.1)).Nodup) {e : α × Nat} (he : l[i]? = some e) (hp : e.1 = p) : (l.modify i fun e => (e.1, e.2 + 1)) = l.map fun e => if e.1 = p then (e.1, e.2 + 1) else e := by
  apply List.ext_getElem?
  intro k
  rw [List.getElem?_modify, List.getElem?_map]
  cases hx : l[k]? with
  | none => rfl
  | some f =>
    by_cases hk : i = k
    · subst hk
      rw [he] at hx
      obtain rfl := Option.some.inj hx
      simp [hp]
    · have hne : f.1 ≠ p := fun h => by
        have a1 := (find_nodup hn).2 ⟨e, he, hp⟩
        have a2 := (find_nodup hn).2 ⟨f, hx, h⟩
        rw [a1] at a2
        exact hk (Option.some.inj a2)
      simp [hk, hne]
end
section
variable {s s' : VS}
theorem Eqv.file (e : Eqv s s') (t : s.Tree) (t' : s'.Tree) {p : List UInt8} {i : Nat} (h : s.file p = some i) : ∃ j x, s'.file p = some j ∧ s.F[i]? = some (p, x) ∧ s'.F[j]? = some (p, x) := by
  have hobt := (find_nodup t.ndF).1 h
  obtain ⟨c, hc, hp⟩ := hobt
  have hobt := perm_get e.F hc
  obtain ⟨j, hj⟩ := hobt
  refine ⟨j, c.2, (find_nodup t'.ndF).2 ⟨c, hj, hp⟩, by rw [hc, ← hp], by rw [hj, ← hp]⟩
theorem Eqv.dir (e : Eqv s s') (t : s.Tree) (t' : s'.Tree) {p : List UInt8} {i : Nat} (h : s.dir p = some i) : ∃ j n, s'.dir p = some j ∧ s.D[i]? = some (p, n) ∧ s'.D[j]? = some (p, n) := by
  have hobt := (find_nodup t.ndD).1 h
  obtain ⟨c, hc, hp⟩ := hobt
  have hobt := perm_get e.D hc
  obtain ⟨j, hj⟩ := hobt
  refine ⟨j, c.2, (find_nodup t'.ndD).2 ⟨c, hj, hp⟩, by rw [hc, ← hp], by rw [hj, ← hp]⟩
theorem Eqv.fileS (e : Eqv s s') (t : s.Tree) (t' : s'.Tree) (p : List UInt8) : (s.file p).isSome = (s'.file p).isSome := by
  cases h : s.file p with
  | some i => obtain ⟨j, x, h1, _⟩ := e.file t t' h; rw [h1]; rfl
  | none =>
    cases h2 : s'.file p with
    | none => rfl
    | some j => obtain ⟨i, x, h1, _⟩ := e.symm.file t' t h2; rw [h] at h1; cases h1
theorem Eqv.dirS (e : Eqv s s') (t : s.Tree) (t' : s'.Tree) (p : List UInt8) : (s.dir p).isSome = (s'.dir p).isSome := by
  cases h : s.dir p with
  | some i => obtain ⟨j, x, h1, _⟩ := e.dir t t' h; rw [h1]; rfl
  | none =>
    cases h2 : s'.dir p with
    | none => rfl
    | some j => obtain ⟨i, x, h1, _⟩ := e.symm.dir t' t h2; rw [h] at h1; cases h1
theorem Eqv.way (e : Eqv s s') (t : s.Tree) (t' : s'.Tree) (mend : Bool) : ∀ l acc, s.way mend l acc = s'.way mend l acc
  | [], acc => rfl
  | u :: l, acc => by rw [VS.way, VS.way, e.fileS t t', e.dirS t t', Eqv.way e t t' mend l acc, Eqv.way e t t' mend l (acc ++ [u])]
theorem Eqv.items (e : Eqv s s') : s.items = s'.items := by unfold VS.items; rw [e.F.length_eq, e.D.length_eq]
theorem Eqv.below (e : Eqv s s') (t : s.Tree) (t' : s'.Tree) (p : List UInt8) : s.below p = s'.below p := by
  unfold VS.below
  cases h : s.dir p with
  | some i =>
    have hobt := e.dir t t' h
    obtain ⟨j, n, h1, h2, h3⟩ := hobt
    rw [h1]
    simp only [h2, h3]
  | none =>
    have := e.dirS t t' p
    rw [h] at this
    cases h2 : s'.dir p with
    | none => rfl
    | some j => rw [h2] at this; cases this
/-- The same items. -/
theorem Eqv.itemsU (e : Eqv s s') : s.itemsU.Perm s'.itemsU := by
  unfold VS.itemsU
  exact (((e.D.map _).filter _).map _).append (e.F.map _)
theorem Eqv.itemsL (e : Eqv s s') (t : s.Tree) (t' : s'.Tree) : s.itemsL = s'.itemsL :=
  sorted_eq (itemsL_sorted (items_nodup t)) (itemsL_sorted (items_nodup t')) (((itemsL_perm _).trans e.itemsU).trans (itemsL_perm _).symm)
theorem Eqv.isH (e : Eqv s s') (k : Nat) : (s.H[k]?).map (Option.map fun h => (s.pth h.1, h.2.1, h.2.2)) = (s'.H[k]?).map (Option.map fun h => (s'.pth h.1, h.2.1, h.2.2)) := by
  have := congrArg (·[k]?) e.H
  simpa [hv, List.getElem?_map] using this
theorem Eqv.len (e : Eqv s s') : s.H.length = s'.H.length := by
  have := congrArg List.length e.H
  simpa [hv] using this
theorem Eqv.noneH (e : Eqv s s') : s.H.map Option.isNone = s'.H.map Option.isNone := by
  have h := congrArg (List.map Option.isNone) e.H
  unfold hv at h
  rw [List.map_map, List.map_map] at h
  have h2 : ∀ (g : Nat × Nat × Nat → List UInt8 × Nat × Nat) (l : List HT), l.map (Option.isNone ∘ Option.map g) = l.map Option.isNone := fun g l => List.map_congr_left fun x _ => by cases x <;> rfl
  rwa [h2, h2] at h
theorem Eqv.slot (e : Eqv s s') : s.slotI = s'.slotI := by
  unfold VS.slotI
  have h1 : ∀ l : List HT, l.findIdx? Option.isNone = (l.map Option.isNone).findIdx? id := fun l => by rw [List.findIdx?_map]; rfl
  rw [h1, h1, e.noneH, e.len]
end
end Go.Gx
/-! Vw2 -/
namespace Go.Gx
open Go.Proofs
set_option linter.unusedVariables false
set_option linter.unusedSimpArgs false
def incr (u : List UInt8) (e : List UInt8 × Nat) : List UInt8 × Nat := if e.1 = u then (e.1, e.2 + 1) else e
def NdD (s : VS) : Prop := (s.D.map (·.1)).Nodup
theorem addDir_D {s : VS} (n : NdD s) {d : List UInt8} (hp : (s.dir (splitR d).1).isSome) : (s.addDir d).D = s.D.map (incr (splitR d).1) ++ [(d, 0)] := by
  have hobt := Option.isSome_iff_exists.1 hp
  obtain ⟨j, hj⟩ := hobt
  have hobt := (find_nodup n).1 hj
  obtain ⟨e, he, h2⟩ := hobt
  have h3 : (s.addDir d).D = (s.bump j).D ++ [(d, 0)] := by unfold VS.addDir; rw [hj]
  rw [h3]
  show (s.D.modify j fun e => (e.1, e.2 + 1)) ++ _ = _
  rw [modify_map n he h2]
  rfl
theorem addFile_D {s : VS} (n : NdD s) {d x : List UInt8} (hp : (s.dir (splitR d).1).isSome) : (s.addFile d x).D = s.D.map (incr (splitR d).1) ∧ (s.addFile d x).F = s.F ++ [(d, x)] ∧ (s.addFile d x).H = s.H ∧ (s.addFile d x).by_ = s.by_ + x.length ∧ (s.addFile d x).op = s.op ∧ (s.addFile d x).qb = s.qb ∧ (s.addFile d x).qf = s.qf ∧ (s.addFile d x).qo = s.qo := by
  have hobt := Option.isSome_iff_exists.1 hp
  obtain ⟨j, hj⟩ := hobt
  have hobt := (find_nodup n).1 hj
  obtain ⟨e, he, h2⟩ := hobt
  have h3 : s.addFile d x = { s.bump j with F := s.F ++ [(d, x)], by_ := s.by_ + x.length } := by unfold VS.addFile; rw [hj]
  rw [h3]
  refine ⟨?_, rfl, rfl, rfl, rfl, rfl, rfl, rfl⟩
  show (s.D.modify j fun e => (e.1, e.2 + 1)) = _
  rw [modify_map n he h2]
  rfl
theorem nd_addDir {s : VS} (n : NdD s) {d : List UInt8} (hp : (s.dir (splitR d).1).isSome) (hd : s.dir d = none) : NdD (s.addDir d) := by
  unfold NdD
  rw [addDir_D n hp, List.map_append, List.map_map]
  have e : List.map ((fun x : List UInt8 × Nat => x.1) ∘ incr (splitR d).1) s.D = s.D.map (·.1) := List.map_congr_left fun x _ => by
    show (incr _ x).1 = x.1
    unfold incr
    split <;> rfl
  rw [e, List.nodup_append]
  refine ⟨n, by simp, fun a ha b hb => ?_⟩
  have hb2 : b = d := by simpa using hb
  rw [hb2]
  exact fun h => dir_not hd (h ▸ ha)
section
variable {s s' : VS}
theorem Eqv.dirN (e : Eqv s s') (n : NdD s) (n' : NdD s') (p : List UInt8) : (s.dir p).isSome = (s'.dir p).isSome := by
  have hgo : ∀ {a b : VS}, a.D.Perm b.D → (a.dir p).isSome → (b.dir p).isSome := fun {a b} h h1 => by
    have h2 := dir_mem.1 h1
    exact dir_mem.2 ((h.map _).mem_iff.1 h2)
  cases h : (s.dir p).isSome with
  | true => exact (hgo e.D h).symm
  | false =>
    cases h2 : (s'.dir p).isSome with
    | true => rw [hgo e.D.symm h2] at h; cases h
    | false => rfl
theorem hv_same {a b : VS} (hH : a.H = b.H) (hF : ∀ i pl mo, some (i, pl, mo) ∈ a.H → a.pth i = b.pth i) : hv a = hv b := by
  unfold hv
  rw [← hH]
  apply List.map_congr_left
  intro x hx
  cases x with
  | none => rfl
  | some h =>
    obtain ⟨i, pl, mo⟩ := h
    have := hF i pl mo hx
    show some (a.pth i, pl, mo) = some (b.pth i, pl, mo)
    rw [this]
theorem Eqv.addDir (e : Eqv s s') (n : NdD s) (n' : NdD s') {d : List UInt8} (hp : (s.dir (splitR d).1).isSome) : Eqv (s.addDir d) (s'.addDir d) := by
  have hp' : (s'.dir (splitR d).1).isSome := by rw [← e.dirN n n']; exact hp
  have hobt := addDir_F s d
  obtain ⟨a1, a2, a3, a4, a5, a6, a7⟩ := hobt
  have hobt := addDir_F s' d
  obtain ⟨b1, b2, b3, b4, b5, b6, b7⟩ := hobt
  refine ⟨by rw [a1, b1]; exact e.F, by rw [addDir_D n hp, addDir_D n' hp']; exact (e.D.map _).append_right _, ?_, by rw [a5, b5, e.qb], by rw [a6, b6, e.qf], by rw [a7, b7, e.qo], by rw [a2, b2, e.by_], by rw [a4, b4, e.op]⟩
  rw [hv_same (b := s) a3 fun i _ _ _ => by unfold VS.pth; rw [a1], hv_same (b := s') b3 fun i _ _ _ => by unfold VS.pth; rw [b1]]
  exact e.H
theorem Eqv.fold : ∀ {M : List (List UInt8)} {s s' : VS}, Eqv s s' → NdD s → NdD s' → Made s M → Eqv (M.foldl VS.addDir s) (M.foldl VS.addDir s') ∧ NdD (M.foldl VS.addDir s) ∧ NdD (M.foldl VS.addDir s')
  | [], s, s', e, n, n', _ => ⟨e, n, n'⟩
  | d :: M, s, s', e, n, n', ⟨h1, h2, h3⟩ => by
    have h1' : (s'.dir (splitR d).1).isSome := by rw [← e.dirN n n']; exact h1
    have h2' : s'.dir d = none := by
      have := e.dirN n n' d
      rw [h2] at this
      cases h : s'.dir d with
      | none => rfl
      | some j => rw [h] at this; cases this
    rw [List.foldl_cons, List.foldl_cons]
    exact Eqv.fold (e.addDir n n' h1) (nd_addDir n h1 h2) (nd_addDir n' h1' h2') h3
theorem Eqv.addFile (e : Eqv s s') (n : NdD s) (n' : NdD s') (sf : ∀ i pl mo, some (i, pl, mo) ∈ s.H → i < s.F.length) (sf' : ∀ i pl mo, some (i, pl, mo) ∈ s'.H → i < s'.F.length) {d x : List UInt8} (hp : (s.dir (splitR d).1).isSome) : Eqv (s.addFile d x) (s'.addFile d x) := by
  have hp' : (s'.dir (splitR d).1).isSome := by rw [← e.dirN n n']; exact hp
  have hobt := addFile_D (x := x) n hp
  obtain ⟨a1, a2, a3, a4, a5, a6, a7, a8⟩ := hobt
  have hobt := addFile_D (x := x) n' hp'
  obtain ⟨b1, b2, b3, b4, b5, b6, b7, b8⟩ := hobt
  have hpth : ∀ (a b : VS) (F : List (List UInt8 × List UInt8)), a.F = b.F ++ F → ∀ i, i < b.F.length → a.pth i = b.pth i := fun a b F h i hi => by
    unfold VS.pth
    rw [h, List.getElem?_append_left hi]
  refine ⟨by rw [a2, b2]; exact e.F.append_right _, by rw [a1, b1]; exact e.D.map _, ?_, by rw [a6, b6, e.qb], by rw [a7, b7, e.qf], by rw [a8, b8, e.qo], by rw [a4, b4, e.by_], by rw [a5, b5, e.op]⟩
  rw [hv_same (b := s) a3 fun i pl mo hm => hpth _ _ _ a2 i (sf i pl mo (by rw [a3] at hm; exact hm)), hv_same (b := s') b3 fun i pl mo hm => hpth _ _ _ b2 i (sf' i pl mo (by rw [b3] at hm; exact hm))]
  exact e.H
/-- A file's bytes set, at its place in each. -/
theorem Eqv.setF (e : Eqv s s') (nF : (s.F.map (·.1)).Nodup) (nF' : (s'.F.map (·.1)).Nodup) {i j : Nat} {p x y : List UInt8} (hi : s.F[i]? = some (p, x)) (hj : s'.F[j]? = some (p, x)) (by1 : Nat) : Eqv { s with F := s.F.set i (p, y), by_ := by1 } { s' with F := s'.F.set j (p, y), by_ := by1 } := by
  have hfst : ∀ (F : List (List UInt8 × List UInt8)) (k : Nat), F[k]? = some (p, x) → (F.set k (p, y)).map (·.1) = F.map (·.1) := fun F k hk => by
    have := set_fst (F := F) (i := k) (x := y)
    rw [hk] at this
    exact this
  have hpth : ∀ (a b : VS), a.F.map (·.1) = b.F.map (·.1) → ∀ i, a.pth i = b.pth i := fun a b h i => by
    have := congrArg (·[i]?) h
    unfold VS.pth
    simpa [List.getElem?_map] using congrArg (fun o => o.getD []) this
  refine ⟨?_, e.D, ?_, e.qb, e.qf, e.qo, rfl, e.op⟩
  · show (s.F.set i (p, y)).Perm (s'.F.set j (p, y))
    rw [set_map nF hi rfl, set_map nF' hj rfl]
    exact e.F.map _
  · rw [hv_same (a := { s with F := s.F.set i (p, y), by_ := by1 }) (b := s) rfl fun k _ _ _ => hpth _ _ (hfst _ _ hi) k, hv_same (a := { s' with F := s'.F.set j (p, y), by_ := by1 }) (b := s') rfl fun k _ _ _ => hpth _ _ (hfst _ _ hj) k]
    exact e.H
theorem Eqv.grab (e : Eqv s s') {i j m : Nat} (hp : s.pth i = s'.pth j) : Eqv (s.grab i m) (s'.grab j m) := by
  have hsl := e.slot
  have hln := e.len
  refine ⟨e.F, e.D, ?_, e.qb, e.qf, e.qo, e.by_, congrArg (· + 1) e.op⟩
  have key : ∀ (a : VS) (i : Nat), hv (a.grab i m) = if a.slotI < a.H.length then (hv a).set a.slotI (some (a.pth i, 0, m)) else hv a ++ [some (a.pth i, 0, m)] := fun a i => by
    unfold VS.grab hv
    show List.map (Option.map fun h : Nat × Nat × Nat => (a.pth h.1, h.2.1, h.2.2)) (if a.slotI < a.H.length then _ else _) = _
    split
    · rw [List.map_set]; rfl
    · rw [List.map_append]; rfl
  rw [key, key, ← hsl, ← hln, e.H, hp]
end
end Go.Gx
/-! Vw3 -/
namespace Go.Gx
open Go.Proofs
set_option linter.unusedVariables false
set_option linter.unusedSimpArgs false
section
variable {s s' : VS}
theorem Eqv.mayO (e : Eqv s s') (t : s.Tree) (t' : s'.Tree) (q : List UInt8) (mode : Int) (M : List (List UInt8)) : s.mayO q (s.file q) mode M = s'.mayO q (s'.file q) mode M := by
  have hx : (s.file q = none) = (s'.file q = none) := by
    have := e.fileS t t' q
    cases h : s.file q <;> cases h2 : s'.file q <;> simp_all
  unfold VS.mayO
  simp only [hx, e.dirS t t' q, e.qf, e.qo, e.items, e.below t t', e.op]
/-- What an Open leaves, and what stands where. -/
theorem Eqv.put1 (e : Eqv s s') (sn : s.Sane) (sn' : s'.Sane) (t : s.Tree) (t' : s'.Tree) {q : List UInt8} {M : List (List UInt8)} (hm : Made s M) (hp : ((M.foldl VS.addDir s).dir (splitR q).1).isSome) :
    Eqv (s.put1 q M (s.file q)).1 (s'.put1 q M (s'.file q)).1 ∧ ((s.put1 q M (s.file q)).1.F.map (·.1)).Nodup ∧ ((s'.put1 q M (s'.file q)).1.F.map (·.1)).Nodup ∧ ∃ x, (s.put1 q M (s.file q)).1.F[(s.put1 q M (s.file q)).2]? = some (q, x) ∧ (s'.put1 q M (s'.file q)).1.F[(s'.put1 q M (s'.file q)).2]? = some (q, x) := by
  have hobt := e.fold t.ndD t'.ndD hm
  obtain ⟨e1, n1, n1'⟩ := hobt
  have hF := (foldDir_F M s).1
  have hF' := (foldDir_F M s').1
  have hH := (foldDir_F M s).2.2.1
  have hH' := (foldDir_F M s').2.2.1
  cases h : s.file q with
  | some i =>
    have hobt := e.file t t' h
    obtain ⟨j, x, h1, h2, h3⟩ := hobt
    rw [h1]
    refine ⟨e1, ?_, ?_, x, ?_, ?_⟩
    · show ((M.foldl VS.addDir s).F.map _).Nodup; rw [hF]; exact t.ndF
    · show ((M.foldl VS.addDir s').F.map _).Nodup; rw [hF']; exact t'.ndF
    · show (M.foldl VS.addDir s).F[i]? = _; rw [hF]; exact h2
    · show (M.foldl VS.addDir s').F[j]? = _; rw [hF']; exact h3
  | none =>
    have h1 : s'.file q = none := by
      have := e.fileS t t' q
      rw [h] at this
      cases h2 : s'.file q with
      | none => rfl
      | some j => rw [h2] at this; cases this
    rw [h1]
    have hp' : ((M.foldl VS.addDir s').dir (splitR q).1).isSome := by rw [← e1.dirN n1 n1']; exact hp
    have hobt := addFile_D (x := []) n1 hp
    obtain ⟨a1, a2, _⟩ := hobt
    have hobt := addFile_D (x := []) n1' hp'
    obtain ⟨b1, b2, _⟩ := hobt
    refine ⟨e1.addFile n1 n1' (fun i pl mo hm => by rw [hH] at hm; rw [hF]; exact sn.fi i pl mo hm) (fun i pl mo hm => by rw [hH'] at hm; rw [hF']; exact sn'.fi i pl mo hm) hp, ?_, ?_, [], ?_, ?_⟩
    · show (((M.foldl VS.addDir s).addFile q []).F.map _).Nodup
      rw [a2, hF, List.map_append, List.nodup_append]
      refine ⟨t.ndF, by simp, fun a ha b hb => ?_⟩
      have hb2 : b = q := by simpa using hb
      rw [hb2]
      exact fun h3 => file_not h (h3 ▸ ha)
    · show (((M.foldl VS.addDir s').addFile q []).F.map _).Nodup
      rw [b2, hF', List.map_append, List.nodup_append]
      refine ⟨t'.ndF, by simp, fun a ha b hb => ?_⟩
      have hb2 : b = q := by simpa using hb
      rw [hb2]
      exact fun h3 => file_not h1 (h3 ▸ ha)
    · show ((M.foldl VS.addDir s).addFile q []).F[(M.foldl VS.addDir s).F.length]? = _
      rw [a2, List.getElem?_append_right (Nat.le_refl _), Nat.sub_self]
      rfl
    · show ((M.foldl VS.addDir s').addFile q []).F[(M.foldl VS.addDir s').F.length]? = _
      rw [b2, List.getElem?_append_right (Nat.le_refl _), Nat.sub_self]
      rfl
theorem Eqv.open_ (e : Eqv s s') (sn : s.Sane) (sn' : s'.Sane) (t : s.Tree) (t' : s'.Tree) (p : List UInt8) (mode : Int) : (s.open p mode).1 = (s'.open p mode).1 ∧ (s.open p mode).2.1 = (s'.open p mode).2.1 ∧ Eqv (s.open p mode).2.2 (s'.open p mode).2.2 := by
  unfold VS.open
  rw [← e.way t t', ← e.mayO t t']
  split
  · exact ⟨rfl, rfl, e⟩
  split
  · exact ⟨rfl, rfl, e⟩
  rename_i hce
  split
  · exact ⟨rfl, rfl, e⟩
  rename_i hq0
  split
  · exact ⟨rfl, rfl, e⟩
  rename_i hw0
  split
  · exact ⟨rfl, rfl, e⟩
  have hcl := clean_isClean (s := p) (Classical.byContradiction hce)
  have hobt : ∃ M ew, s.way (decide (4 ≤ mode)) (upsF [] (cleanS p)) [] = (M, ew) := ⟨_, _, rfl⟩
  obtain ⟨M, ew, hW⟩ := hobt
  rw [hW] at hw0 ⊢
  obtain rfl : ew = 0 := Classical.byContradiction hw0
  have hobt := way_made hcl hq0 sn.root hW
  obtain ⟨hmade, hpar⟩ := hobt
  have hobt := e.put1 sn sn' t t' (q := cleanS p) hmade hpar
  obtain ⟨e1, nF, nF', x, hx, hx'⟩ := hobt
  have hobt : ∃ a, s.put1 (cleanS p) M (s.file (cleanS p)) = a := ⟨_, rfl⟩
  obtain ⟨a, ha⟩ := hobt
  have hobt : ∃ b, s'.put1 (cleanS p) M (s'.file (cleanS p)) = b := ⟨_, rfl⟩
  obtain ⟨b, hb⟩ := hobt
  simp only
  rw [ha] at e1 nF hx ⊢
  rw [hb] at e1 nF' hx' ⊢
  have hpth : ∀ {c : VS × Nat}, c.1.F[c.2]? = some (cleanS p, x) → c.1.pth c.2 = cleanS p ∧ c.1.len c.2 = x.length := fun {c} h => by
    unfold VS.pth VS.len
    rw [h]
    exact ⟨rfl, rfl⟩
  have hobt := hpth hx
  obtain ⟨p1, l1⟩ := hobt
  have hobt := hpth hx'
  obtain ⟨p2, l2⟩ := hobt
  have hcut : Eqv (a.1.cutI mode.toNat a.2) (b.1.cutI mode.toNat b.2) ∧ (a.1.cutI mode.toNat a.2).pth a.2 = (b.1.cutI mode.toNat b.2).pth b.2 := by
    unfold VS.cutI
    split
    · unfold VS.trunc
      rw [p1, p2, l1, l2, ← e1.by_]
      refine ⟨e1.setF nF nF' hx hx' _, ?_⟩
      unfold VS.pth
      show ((((a.1.F.set a.2 (cleanS p, []))[a.2]?).map (·.1)).getD []) = (((b.1.F.set b.2 (cleanS p, []))[b.2]?).map (·.1)).getD []
      rw [List.getElem?_set_self (List.getElem?_eq_some_iff.1 hx).1, List.getElem?_set_self (List.getElem?_eq_some_iff.1 hx').1]
    · exact ⟨e1, by rw [p1, p2]⟩
  obtain ⟨e2, hpp⟩ := hcut
  exact ⟨congrArg (fun z : Nat => (z : Int)) e2.slot, trivial, e2.grab hpp⟩
end
end Go.Gx
/-! Vw4 -/
namespace Go.Gx
open Go.Proofs
set_option linter.unusedVariables false
set_option linter.unusedSimpArgs false
section
variable {s s' : VS}
theorem Eqv.is_ (e : Eqv s s') (sn : s.Sane) (sn' : s'.Sane) (t' : s'.Tree) {h : Int} {i pl mo : Nat} (hi : s.is h = some (i, pl, mo)) : ∃ j p x, s'.is h = some (j, pl, mo) ∧ s.F[i]? = some (p, x) ∧ s'.F[j]? = some (p, x) := by
  have hobt := is_at hi
  obtain ⟨k, rfl, hk⟩ := hobt
  have h1 := e.isH k
  rw [hk] at h1
  cases hk' : s'.H[k]? with
  | none => rw [hk'] at h1; cases h1
  | some a =>
    rw [hk'] at h1
    cases a with
    | none => simp at h1
    | some b =>
      obtain ⟨j, pl', mo'⟩ := b
      simp only [Option.map_some, Option.some.injEq, Prod.mk.injEq] at h1
      obtain ⟨g1, g2, g3⟩ := h1
      subst g2 g3
      have f1 := sn.fi i pl mo (List.mem_of_getElem? hk)
      have f2 := sn'.fi j pl mo (List.mem_of_getElem? hk')
      have p1 : s.pth i = s.F[i].1 := by unfold VS.pth; rw [List.getElem?_eq_getElem f1]; rfl
      have p2 : s'.pth j = s'.F[j].1 := by unfold VS.pth; rw [List.getElem?_eq_getElem f2]; rfl
      have hobt := perm_get e.F (List.getElem?_eq_getElem f1)
      obtain ⟨j2, hj2⟩ := hobt
      have a1 := (find_nodup t'.ndF).2 ⟨s.F[i], hj2, rfl⟩
      have a2 := (find_nodup (p := s.F[i].1) t'.ndF).2 ⟨s'.F[j], List.getElem?_eq_getElem f2, by rw [← p2, ← g1, p1]⟩
      rw [a1] at a2
      have hjj := Option.some.inj a2
      subst hjj
      refine ⟨j2, s.F[i].1, s.F[i].2, ?_, by rw [List.getElem?_eq_getElem f1], hj2⟩
      unfold VS.is
      rw [if_pos (by omega), Int.toNat_natCast, hk']
      rfl
theorem Eqv.is0 (e : Eqv s s') (sn : s.Sane) (sn' : s'.Sane) (t : s.Tree) (t' : s'.Tree) {h : Int} (hi : s.is h = none) : s'.is h = none := by
  cases h2 : s'.is h with
  | none => rfl
  | some a =>
    have hobt := e.symm.is_ sn' sn t (i := a.1) (pl := a.2.1) (mo := a.2.2) h2
    obtain ⟨j, p, x, h3, _⟩ := hobt
    rw [hi] at h3
    cases h3
theorem len_at {s : VS} {i : Nat} {p x : List UInt8} (h : s.F[i]? = some (p, x)) : s.len i = x.length ∧ s.data i = x ∧ s.pth i = p := by
  unfold VS.len VS.data VS.pth
  rw [h]
  exact ⟨rfl, rfl, rfl⟩
theorem Eqv.peek (e : Eqv s s') (sn : s.Sane) (sn' : s'.Sane) (t : s.Tree) (t' : s'.Tree) (h n : Int) : s.peek h n = s'.peek h n := by
  unfold VS.peek
  cases hi : s.is h with
  | none => rw [e.is0 sn sn' t t' hi]
  | some a =>
    obtain ⟨i, pl, mo⟩ := a
    have hobt := e.is_ sn sn' t' hi
    obtain ⟨j, p, x, h1, h2, h3⟩ := hobt
    rw [h1]
    simp only [(len_at h2).1, (len_at h3).1]
theorem Eqv.may (e : Eqv s s') (sn : s.Sane) (sn' : s'.Sane) (t : s.Tree) (t' : s'.Tree) (h n : Int) : s.may h n = s'.may h n := by
  unfold VS.may
  cases hi : s.is h with
  | none => rw [e.is0 sn sn' t t' hi]
  | some a =>
    obtain ⟨i, pl, mo⟩ := a
    have hobt := e.is_ sn sn' t' hi
    obtain ⟨j, p, x, h1, h2, h3⟩ := hobt
    rw [h1]
    unfold VS.from_
    simp only [(len_at h2).1, (len_at h3).1, e.qb, e.by_]
theorem Eqv.place (e : Eqv s s') (sn : s.Sane) (sn' : s'.Sane) (t : s.Tree) (t' : s'.Tree) (h : Int) : s.place h = s'.place h := by
  unfold VS.place
  cases hi : s.is h with
  | none => rw [e.is0 sn sn' t t' hi]
  | some a =>
    obtain ⟨i, pl, mo⟩ := a
    have hobt := e.is_ sn sn' t' hi
    obtain ⟨j, p, x, h1, h2, h3⟩ := hobt
    rw [h1]
    simp only [h2, h3]
theorem hv_setH {s : VS} {k : Nat} {a : HT} : hv { s with H := s.H.set k a } = (hv s).set k (a.map fun h => (s.pth h.1, h.2.1, h.2.2)) := by
  unfold hv
  show List.map (Option.map fun h : Nat × Nat × Nat => (s.pth h.1, h.2.1, h.2.2)) (s.H.set k a) = _
  rw [List.map_set]
theorem Eqv.read (e : Eqv s s') (sn : s.Sane) (sn' : s'.Sane) (t : s.Tree) (t' : s'.Tree) (h n : Int) : (s.read h n).1 = (s'.read h n).1 ∧ (s.read h n).2.1 = (s'.read h n).2.1 ∧ Eqv (s.read h n).2.2 (s'.read h n).2.2 := by
  unfold VS.read
  rw [← e.peek sn sn' t t']
  split
  · exact ⟨rfl, rfl, e⟩
  · cases hi : s.is h with
    | none => rw [e.is0 sn sn' t t' hi]; exact ⟨rfl, rfl, e⟩
    | some a =>
      obtain ⟨i, pl, mo⟩ := a
      have hobt := e.is_ sn sn' t' hi
      obtain ⟨j, p, x, h1, h2, h3⟩ := hobt
      have hobt := len_at h2
      obtain ⟨l1, d1, p1⟩ := hobt
      have hobt := len_at h3
      obtain ⟨l2, d2, p2⟩ := hobt
      rw [h1]
      simp only [d1, d2]
      refine ⟨trivial, trivial, e.F, e.D, ?_, e.qb, e.qf, e.qo, e.by_, e.op⟩
      rw [hv_setH, hv_setH, e.H]
      simp only [Option.map_some, p1, p2]
theorem Eqv.close (e : Eqv s s') (sn : s.Sane) (sn' : s'.Sane) (t : s.Tree) (t' : s'.Tree) (h : Int) : (s.close h).1 = (s'.close h).1 ∧ Eqv (s.close h).2 (s'.close h).2 := by
  unfold VS.close
  cases hi : s.is h with
  | none => rw [e.is0 sn sn' t t' hi]; exact ⟨rfl, e⟩
  | some a =>
    obtain ⟨i, pl, mo⟩ := a
    have hobt := e.is_ sn sn' t' hi
    obtain ⟨j, p, x, h1, h2, h3⟩ := hobt
    rw [h1]
    refine ⟨rfl, e.F, e.D, ?_, e.qb, e.qf, e.qo, e.by_, congrArg (· - 1) e.op⟩
    have k1 : ∀ a : VS, hv { a with H := a.H.set h.toNat none, op := a.op - 1 } = (hv a).set h.toNat none := fun a => hv_setH (s := a) (k := h.toNat) (a := none)
    show hv { s with H := s.H.set h.toNat none, op := s.op - 1 } = hv { s' with H := s'.H.set h.toNat none, op := s'.op - 1 }
    rw [k1, k1, e.H]
theorem Eqv.write (e : Eqv s s') (sn : s.Sane) (sn' : s'.Sane) (t : s.Tree) (t' : s'.Tree) (h : Int) (b : List UInt8) : (s.write h b).1 = (s'.write h b).1 ∧ Eqv (s.write h b).2 (s'.write h b).2 := by
  unfold VS.write
  rw [← e.may sn sn' t t']
  split
  · exact ⟨rfl, e⟩
  · cases hi : s.is h with
    | none => rw [e.is0 sn sn' t t' hi]; exact ⟨rfl, e⟩
    | some a =>
      obtain ⟨i, pl, mo⟩ := a
      have hobt := e.is_ sn sn' t' hi
      obtain ⟨j, p, x, h1, h2, h3⟩ := hobt
      have hobt := len_at h2
      obtain ⟨l1, d1, p1⟩ := hobt
      have hobt := len_at h3
      obtain ⟨l2, d2, p2⟩ := hobt
      rw [h1]
      have hfr : s.from_ i pl mo = s'.from_ j pl mo := by unfold VS.from_; rw [l1, l2]
      simp only [d1, d2, p1, p2, l1, l2, ← hfr, ← e.by_]
      refine ⟨trivial, ?_⟩
      have hobt : ∃ fr, s.from_ i pl mo = fr := ⟨_, rfl⟩
      obtain ⟨fr, hfr2⟩ := hobt
      rw [hfr2]
      have e2 := e.setF t.ndF t'.ndF (y := overL x fr b) h2 h3 (s.by_ + (fr + b.length - x.length))
      refine ⟨e2.F, e.D, ?_, e.qb, e.qf, e.qo, rfl, e.op⟩
      have q1 : ({ s with F := s.F.set i (p, overL x fr b), by_ := s.by_ + (fr + b.length - x.length) } : VS).pth i = p := by
        unfold VS.pth
        show ((((s.F.set i (p, overL x fr b))[i]?).map (·.1)).getD []) = p
        rw [List.getElem?_set_self (List.getElem?_eq_some_iff.1 h2).1]
        rfl
      have q2 : ({ s' with F := s'.F.set j (p, overL x fr b), by_ := s.by_ + (fr + b.length - x.length) } : VS).pth j = p := by
        unfold VS.pth
        show ((((s'.F.set j (p, overL x fr b))[j]?).map (·.1)).getD []) = p
        rw [List.getElem?_set_self (List.getElem?_eq_some_iff.1 h3).1]
        rfl
      have k1 := hv_setH (s := { s with F := s.F.set i (p, overL x fr b), by_ := s.by_ + (fr + b.length - x.length) }) (k := h.toNat) (a := some (i, fr + b.length, mo))
      have k2 := hv_setH (s := { s' with F := s'.F.set j (p, overL x fr b), by_ := s.by_ + (fr + b.length - x.length) }) (k := h.toNat) (a := some (j, fr + b.length, mo))
      refine k1.trans (Eq.trans ?_ k2.symm)
      rw [e2.H]
      simp only [Option.map_some, q1, q2]
/-- One step more: alike again, the same answer. -/
theorem Eqv.doS (e : Eqv s s') (sn : s.Sane) (sn' : s'.Sane) (t : s.Tree) (t' : s'.Tree) (x : Stv) : (s.doS x).2 = (s'.doS x).2 ∧ Eqv (s.doS x).1 (s'.doS x).1 := by
  unfold VS.doS
  split
  · have hobt := e.open_ sn sn' t t' x.p x.n
    obtain ⟨h1, h2, h3⟩ := hobt
    exact ⟨by show (if _ then _ else _) = if _ then _ else _; rw [h1, h2], h3⟩
  · split
    · exact ⟨rfl, (e.read sn sn' t t' x.h x.n).2.2⟩
    · split
      · exact ⟨rfl, (e.write sn sn' t t' x.h x.b).2⟩
      · split
        · exact ⟨rfl, (e.close sn sn' t t' x.h).2⟩
        · exact ⟨rfl, e⟩
end
end Go.Gx
/-! Vw5 -/
namespace Go.Gx
open Go.Proofs Go.RowKit
set_option linter.unusedVariables false
set_option linter.unusedSimpArgs false
set_option maxRecDepth 100000
theorem rows_cell {w0 : World} {R : List RowI} {u : Value} {n : Nat} {Lu : List (Nat × Obj)} (hu : OwnSl 50 3 u n (rowsI R) Lu) (hw : ∀ p ∈ Lu, w0.heap[p.1]? = some p.2) (h0 : 0 < n) : ∃ b c, u = .slice (some ⟨b, 0, none⟩) n c ∧ ∀ (j : Nat) q, R[j]? = some q → At w0 b (0 + j * 3) q.enc := by
  have hobt := hu.some1 h0
  obtain ⟨b, c, more, hq, hL, hc⟩ := hobt
  have hb : w0.heap[b]? = some (blk 50 (rowsI R ++ more)) := hw (b, blk 50 (rowsI R ++ more)) (by rw [hL]; simp)
  exact ⟨b, c, hq, fun j q hj => rowsI_blk (b := b) (T := 50) (more := more) (A := [(b, blk 50 (rowsI R ++ more))]) (Step.start (L := [(b, blk 50 (rowsI R ++ more))]) (w := w0) (by simp) (fun p hp => by rw [List.mem_singleton.1 hp]; exact hb)) (by simp) hj⟩
set_option maxHeartbeats 4000000 in
theorem same_spec {u u' : Value} {R R' : List RowI} {n : Nat} {Lu Lu' : List (Nat × Obj)} (w0 : World) (hn : R.length = n) (hn' : R'.length = n) (hnl : n ≤ 131072) (he : absR R = absR R') (hu : OwnSl 50 3 u n (rowsI R) Lu) (hu' : OwnSl 50 3 u' n (rowsI R') Lu') (hw : ∀ p ∈ Lu, w0.heap[p.1]? = some p.2) (hw' : ∀ p ∈ Lu', w0.heap[p.1]? = some p.2) (hd : ∀ r ∈ R, Sl w0 1 r.v r.x.length (u8s r.x)) (hd' : ∀ r ∈ R', Sl w0 1 r.v r.x.length (u8s r.x)) (hx : ∀ r ∈ R, r.x.length ≤ 1048576) : Calls Tryd.prog 20 #[u, u'] w0 (Ret0 (.bool true) w0) := by
  have hs : Step [] [] w0 w0 := Step.refl w0
  have hobt := hu.form
  obtain ⟨a1, c1, rfl⟩ := hobt
  have hobt := hu'.form
  obtain ⟨a2, c2, rfl⟩ := hobt
  by_cases h0 : n = 0
  · subst h0
    refine calls (n := 56) Tryd.func20 rfl rfl rfl ?_
    refine CW.seq ?_
    refine CW.reg ?_
    refine WL.val rfl (run_assign) ?_
    refine WL.nil ?_
    refine CW.seq <| CW.seq ?_
    refine CW.reg ?_
    refine WL.val rfl (run_move) ?_
    refine WL.val rfl (run_lenSl Tryd.underlying40 rfl) ?_
    refine WL.val rfl (run_move) ?_
    refine WL.val rfl (run_lenSl Tryd.underlying40 rfl) ?_
    refine WL.val rfl (run_bF (run_neq rfl rfl) (by exact fun h => h rfl)) ?_
    refine WL.nil ?_
    refine CW.cond rfl (fun h => ?_) (fun h => ?_)
    · cases h
    repeat (first | refine CW.seq ?_ | refine CW.skip ?_)
    refine CW.reg ?_
    refine WL.val rfl (run_assign) ?_
    refine WL.nil ?_
    refine CW.block ?_
    refine CW.loop (fun z f w => z = 0 ∧ Step [] [] w0 w ∧ Holds f [(0, .slice a1 0 c1), (5, .int .i64 0)]) (m := 0) ?_ ?_
    · exact ⟨rfl, hs, rfl, rfl, trivial⟩
    clear hs
    rintro z f w ⟨rfl, hs, hf⟩
    have hobt := hf.chain
    obtain ⟨g, rfl⟩ := hobt
    refine CW.seq <| CW.seq ?_
    refine CW.reg ?_
    refine WL.val rfl (run_move) ?_
    refine WL.val rfl (run_move) ?_
    refine WL.val rfl (run_lenSl Tryd.underlying40 rfl) ?_
    refine WL.val rfl (run_bF (run_lss rfl rfl) (by omega)) ?_
    refine WL.nil ?_
    refine CW.cond rfl (fun h => ?_) (fun h => ?_)
    · cases h
    repeat (first | refine CW.seq ?_ | refine CW.exit ?_)
    refine CW.reg ?_
    refine WL.val rfl (run_assign) ?_
    refine WL.nil ?_
    refine CW.ret ?_
    refine fin_ret1 rfl ?_
    exact ⟨rfl, hs⟩
  have hobt := rows_cell hu hw (by omega)
  obtain ⟨b1, d1, hq1, hr1⟩ := hobt
  have hobt := rows_cell hu' hw' (by omega)
  obtain ⟨b2, d2, hq2, hr2⟩ := hobt
  injection hq1 with hq1 hq3 hq4
  injection hq2 with hq2 hq5 hq6
  subst hq1
  subst hq2
  refine calls (n := 56) Tryd.func20 rfl rfl rfl ?_
  refine CW.seq ?_
  refine CW.reg ?_
  refine WL.val rfl (run_assign) ?_
  refine WL.nil ?_
  refine CW.seq <| CW.seq ?_
  refine CW.reg ?_
  refine WL.val rfl (run_move) ?_
  refine WL.val rfl (run_lenSl Tryd.underlying40 rfl) ?_
  refine WL.val rfl (run_move) ?_
  refine WL.val rfl (run_lenSl Tryd.underlying40 rfl) ?_
  refine WL.val rfl (run_bF (run_neq rfl rfl) (by exact fun h => h rfl)) ?_
  refine WL.nil ?_
  refine CW.cond rfl (fun h => ?_) (fun h => ?_)
  · cases h
  repeat (first | refine CW.seq ?_ | refine CW.skip ?_)
  refine CW.reg ?_
  refine WL.val rfl (run_assign) ?_
  refine WL.nil ?_
  refine CW.block ?_
  refine CW.loop (fun z f w => ∃ i : Nat, i ≤ n ∧ z = n - i ∧ Step [] [] w0 w ∧ Holds f [(0, .slice (some ⟨b1, 0, none⟩) n c1), (1, .slice (some ⟨b2, 0, none⟩) n c2), (5, .int .i64 i)]) (m := n) ?_ ?_
  · exact ⟨0, by omega, by omega, hs, rfl, rfl, rfl, trivial⟩
  clear hs
  rintro z f w ⟨i, hi, rfl, hs, hf⟩
  have hobt := hf.chain
  obtain ⟨g, rfl⟩ := hobt
  by_cases hlt : i < n
  · have hobt : ∃ r, R[i]? = some r := ⟨_, List.getElem?_eq_getElem (by omega)⟩
    obtain ⟨r, hr⟩ := hobt
    have hobt : ∃ r, R'[i]? = some r := ⟨_, List.getElem?_eq_getElem (by omega)⟩
    obtain ⟨r', hr'⟩ := hobt
    have hy : (r.p, r.d, r.x) = (r'.p, r'.d, r'.x) := by
      have h1 := congrArg (·[i]?) he
      simpa [absR, List.getElem?_map, hr, hr'] using h1
    simp only [Prod.mk.injEq] at hy
    obtain ⟨hyp, hyd, hyx⟩ := hy
    have c1' := fun {L w} (hs : Step [] L w0 w) => (hr1 i r hr).step hs (by simp)
    have c2' := fun {L w} (hs : Step [] L w0 w) => (hr2 i r' hr').step hs (by simp)
    have s1 := hd r (List.mem_of_getElem? hr)
    have s2 := hd' r' (List.mem_of_getElem? hr')
    have hxl := hx r (List.mem_of_getElem? hr)
    have hxl' : r'.x.length ≤ 1048576 := by rw [← hyx]; exact hxl
    have hf1 := s1.form
    have hf2 := s2.form
    obtain ⟨a3, c3, hv3⟩ := hf1
    obtain ⟨a4, c4, hv4⟩ := hf2
    have e3 : r.enc[2]? = some (.slice a3 r.x.length c3) := by show some r.v = _; rw [hv3]
    have e4 : r'.enc[2]? = some (.slice a4 r'.x.length c4) := by show some r'.v = _; rw [hv4]
    rw [hv3] at s1
    rw [hv4] at s2
    have hdb : r.d = true ∨ r.d = false := by cases r.d <;> simp
    rcases hdb with hdd | hdd
    · have e1 : r.enc[1]? = some (.bool true) := by show some (Value.bool r.d) = _; rw [hdd]
      have e2 : r'.enc[1]? = some (.bool true) := by show some (Value.bool r'.d) = _; rw [← hyd, hdd]
      refine CW.seq <| CW.seq ?_
      refine CW.reg ?_
      refine WL.val rfl (run_move) ?_
      refine WL.val rfl (run_move) ?_
      refine WL.val rfl (run_lenSl Tryd.underlying40 rfl) ?_
      refine WL.val rfl (run_bT (run_lss rfl rfl) (by omega)) ?_
      refine WL.nil ?_
      refine CW.cond rfl (fun h => ?_) (fun h => ?_)
      · repeat (first | refine CW.seq ?_ | refine CW.block ?_ | refine CW.skip ?_)
        refine CW.quiet mixedP (by kernel_rfl) hs ?_
        refine QL.val rfl (fun w hs => run_move) ?_
        refine QL.val rfl (fun w hs => run_move) ?_
        refine QL.val rfl (fun w hs => run_ixSlN Tryd.underlying40 ty50 rfl rfl (by omega)) ?_
        refine QL.val rfl (fun w hs => run_field (o' := 0) Tryd.underlying50 rfl ty9 rfl rfl rfl) ?_
        refine QL.val rfl (fun w hs => run_load1 ty9 rfl ((c1' hs).cell (j := 0) (v := str r.p) rfl)) ?_
        refine QL.val rfl (fun w hs => run_move) ?_
        refine QL.val rfl (fun w hs => run_move) ?_
        refine QL.val rfl (fun w hs => run_ixSlN Tryd.underlying40 ty50 rfl rfl (by omega)) ?_
        refine QL.val rfl (fun w hs => run_field (o' := 0) Tryd.underlying50 rfl ty9 rfl rfl rfl) ?_
        refine QL.val rfl (fun w hs => run_load1 ty9 rfl ((c2' hs).cell (j := 0) (v := str r'.p) rfl)) ?_
        refine QL.val rfl (fun w hs => run_bF (run_strNe rfl rfl) (by exact fun h => h hyp)) ?_
        refine QL.val rfl (fun w hs => run_move) ?_
        refine QL.yes rfl rfl rfl ?_; refine QL.val rfl (fun w hs => run_move) ?_
        refine QL.yes rfl rfl rfl ?_; refine QL.val rfl (fun w hs => run_move) ?_
        refine QL.yes rfl rfl rfl ?_; (first | refine QL.val rfl (fun w hs => run_ixSlN Tryd.underlying40 ty50 rfl rfl (by omega)) ?_ | refine QL.val rfl (fun w hs => run_ixSl Tryd.underlying40 ty50 rfl rfl (by omega)) ?_)
        refine QL.yes rfl rfl rfl ?_; refine QL.val rfl (fun w hs => run_field (o' := 1) Tryd.underlying50 rfl ty4 rfl rfl rfl) ?_
        refine QL.yes rfl rfl rfl ?_
        refine QL.val rfl (fun w hs => run_load1 ty4 rfl ((c1' hs).cell (j := 1) e1)) ?_
        refine QL.yes rfl rfl rfl ?_; refine QL.val rfl (fun w hs => run_move) ?_
        refine QL.yes rfl rfl rfl ?_; refine QL.val rfl (fun w hs => run_move) ?_
        refine QL.yes rfl rfl rfl ?_; (first | refine QL.val rfl (fun w hs => run_ixSlN Tryd.underlying40 ty50 rfl rfl (by omega)) ?_ | refine QL.val rfl (fun w hs => run_ixSl Tryd.underlying40 ty50 rfl rfl (by omega)) ?_)
        refine QL.yes rfl rfl rfl ?_; refine QL.val rfl (fun w hs => run_field (o' := 1) Tryd.underlying50 rfl ty4 rfl rfl rfl) ?_
        refine QL.yes rfl rfl rfl ?_
        refine QL.val rfl (fun w hs => run_load1 ty4 rfl ((c2' hs).cell (j := 1) e2)) ?_
        refine QL.yes rfl rfl rfl ?_; refine QL.val rfl (fun w hs => run_neqB Tryd.underlying4 rfl rfl) ?_
        refine QL.val rfl (fun w hs => run_pickF rfl) ?_
        refine QL.val rfl (fun w hs => run_move) ?_
        refine QL.yes rfl rfl rfl ?_; refine QL.val rfl (fun w hs => run_move) ?_
        refine QL.yes rfl rfl rfl ?_; refine QL.val rfl (fun w hs => run_move) ?_
        refine QL.yes rfl rfl rfl ?_; (first | refine QL.val rfl (fun w hs => run_ixSlN Tryd.underlying40 ty50 rfl rfl (by omega)) ?_ | refine QL.val rfl (fun w hs => run_ixSl Tryd.underlying40 ty50 rfl rfl (by omega)) ?_)
        refine QL.yes rfl rfl rfl ?_; refine QL.val rfl (fun w hs => run_field (o' := 2) Tryd.underlying50 rfl ty34 rfl rfl rfl) ?_
        refine QL.yes rfl rfl rfl ?_
        refine QL.val rfl (fun w hs => run_load1 ty34 rfl ((c1' hs).cell (j := 2) e3)) ?_
        refine QL.yes rfl rfl rfl ?_
        refine QL.val rfl (fun w hs => run_toString Tryd.underlying34 Tryd.underlying9 Tryd.underlying5 rfl (s1.step0 hs)) ?_
        refine QL.yes rfl rfl rfl ?_; refine QL.val rfl (fun w hs => run_move) ?_
        refine QL.yes rfl rfl rfl ?_; refine QL.val rfl (fun w hs => run_move) ?_
        refine QL.yes rfl rfl rfl ?_; (first | refine QL.val rfl (fun w hs => run_ixSlN Tryd.underlying40 ty50 rfl rfl (by omega)) ?_ | refine QL.val rfl (fun w hs => run_ixSl Tryd.underlying40 ty50 rfl rfl (by omega)) ?_)
        refine QL.yes rfl rfl rfl ?_; refine QL.val rfl (fun w hs => run_field (o' := 2) Tryd.underlying50 rfl ty34 rfl rfl rfl) ?_
        refine QL.yes rfl rfl rfl ?_
        refine QL.val rfl (fun w hs => run_load1 ty34 rfl ((c2' hs).cell (j := 2) e4)) ?_
        refine QL.yes rfl rfl rfl ?_
        refine QL.val rfl (fun w hs => run_toString Tryd.underlying34 Tryd.underlying9 Tryd.underlying5 rfl (s2.step0 hs)) ?_
        refine QL.yes rfl rfl rfl ?_
        refine QL.val rfl (fun w hs => run_bF (run_strNe rfl rfl) (by exact fun h => h hyx)) ?_
        refine QL.val rfl (fun w hs => run_pickF rfl) ?_
        refine QL.nil (fun w hs => ?_)
        refine CW.cond rfl (fun h2 => ?_) (fun h2 => ?_)
        · cases h2
        refine CW.skip ?_
        refine CW.reg ?_
        refine WL.val rfl (run_move) ?_
        refine WL.val rfl (run_add (c := ((i + 1 : Nat) : Int)) rfl rfl (by omega) (by omega)) ?_
        refine WL.val rfl (run_assign) ?_
        refine WL.nil ?_
        refine (show _ ∧ _ from ⟨rfl, _, ?_, i + 1, by omega, rfl, hs, rfl, rfl, rfl, trivial⟩)
        omega
      · cases h
    · have e1 : r.enc[1]? = some (.bool false) := by show some (Value.bool r.d) = _; rw [hdd]
      have e2 : r'.enc[1]? = some (.bool false) := by show some (Value.bool r'.d) = _; rw [← hyd, hdd]
      refine CW.seq <| CW.seq ?_
      refine CW.reg ?_
      refine WL.val rfl (run_move) ?_
      refine WL.val rfl (run_move) ?_
      refine WL.val rfl (run_lenSl Tryd.underlying40 rfl) ?_
      refine WL.val rfl (run_bT (run_lss rfl rfl) (by omega)) ?_
      refine WL.nil ?_
      refine CW.cond rfl (fun h => ?_) (fun h => ?_)
      · repeat (first | refine CW.seq ?_ | refine CW.block ?_ | refine CW.skip ?_)
        refine CW.quiet mixedP (by kernel_rfl) hs ?_
        refine QL.val rfl (fun w hs => run_move) ?_
        refine QL.val rfl (fun w hs => run_move) ?_
        refine QL.val rfl (fun w hs => run_ixSlN Tryd.underlying40 ty50 rfl rfl (by omega)) ?_
        refine QL.val rfl (fun w hs => run_field (o' := 0) Tryd.underlying50 rfl ty9 rfl rfl rfl) ?_
        refine QL.val rfl (fun w hs => run_load1 ty9 rfl ((c1' hs).cell (j := 0) (v := str r.p) rfl)) ?_
        refine QL.val rfl (fun w hs => run_move) ?_
        refine QL.val rfl (fun w hs => run_move) ?_
        refine QL.val rfl (fun w hs => run_ixSlN Tryd.underlying40 ty50 rfl rfl (by omega)) ?_
        refine QL.val rfl (fun w hs => run_field (o' := 0) Tryd.underlying50 rfl ty9 rfl rfl rfl) ?_
        refine QL.val rfl (fun w hs => run_load1 ty9 rfl ((c2' hs).cell (j := 0) (v := str r'.p) rfl)) ?_
        refine QL.val rfl (fun w hs => run_bF (run_strNe rfl rfl) (by exact fun h => h hyp)) ?_
        refine QL.val rfl (fun w hs => run_move) ?_
        refine QL.yes rfl rfl rfl ?_; refine QL.val rfl (fun w hs => run_move) ?_
        refine QL.yes rfl rfl rfl ?_; refine QL.val rfl (fun w hs => run_move) ?_
        refine QL.yes rfl rfl rfl ?_; (first | refine QL.val rfl (fun w hs => run_ixSlN Tryd.underlying40 ty50 rfl rfl (by omega)) ?_ | refine QL.val rfl (fun w hs => run_ixSl Tryd.underlying40 ty50 rfl rfl (by omega)) ?_)
        refine QL.yes rfl rfl rfl ?_; refine QL.val rfl (fun w hs => run_field (o' := 1) Tryd.underlying50 rfl ty4 rfl rfl rfl) ?_
        refine QL.yes rfl rfl rfl ?_
        refine QL.val rfl (fun w hs => run_load1 ty4 rfl ((c1' hs).cell (j := 1) e1)) ?_
        refine QL.yes rfl rfl rfl ?_; refine QL.val rfl (fun w hs => run_move) ?_
        refine QL.yes rfl rfl rfl ?_; refine QL.val rfl (fun w hs => run_move) ?_
        refine QL.yes rfl rfl rfl ?_; (first | refine QL.val rfl (fun w hs => run_ixSlN Tryd.underlying40 ty50 rfl rfl (by omega)) ?_ | refine QL.val rfl (fun w hs => run_ixSl Tryd.underlying40 ty50 rfl rfl (by omega)) ?_)
        refine QL.yes rfl rfl rfl ?_; refine QL.val rfl (fun w hs => run_field (o' := 1) Tryd.underlying50 rfl ty4 rfl rfl rfl) ?_
        refine QL.yes rfl rfl rfl ?_
        refine QL.val rfl (fun w hs => run_load1 ty4 rfl ((c2' hs).cell (j := 1) e2)) ?_
        refine QL.yes rfl rfl rfl ?_; refine QL.val rfl (fun w hs => run_neqB Tryd.underlying4 rfl rfl) ?_
        refine QL.val rfl (fun w hs => run_pickF rfl) ?_
        refine QL.val rfl (fun w hs => run_move) ?_
        refine QL.yes rfl rfl rfl ?_; refine QL.val rfl (fun w hs => run_move) ?_
        refine QL.yes rfl rfl rfl ?_; refine QL.val rfl (fun w hs => run_move) ?_
        refine QL.yes rfl rfl rfl ?_; (first | refine QL.val rfl (fun w hs => run_ixSlN Tryd.underlying40 ty50 rfl rfl (by omega)) ?_ | refine QL.val rfl (fun w hs => run_ixSl Tryd.underlying40 ty50 rfl rfl (by omega)) ?_)
        refine QL.yes rfl rfl rfl ?_; refine QL.val rfl (fun w hs => run_field (o' := 2) Tryd.underlying50 rfl ty34 rfl rfl rfl) ?_
        refine QL.yes rfl rfl rfl ?_
        refine QL.val rfl (fun w hs => run_load1 ty34 rfl ((c1' hs).cell (j := 2) e3)) ?_
        refine QL.yes rfl rfl rfl ?_
        refine QL.val rfl (fun w hs => run_toString Tryd.underlying34 Tryd.underlying9 Tryd.underlying5 rfl (s1.step0 hs)) ?_
        refine QL.yes rfl rfl rfl ?_; refine QL.val rfl (fun w hs => run_move) ?_
        refine QL.yes rfl rfl rfl ?_; refine QL.val rfl (fun w hs => run_move) ?_
        refine QL.yes rfl rfl rfl ?_; (first | refine QL.val rfl (fun w hs => run_ixSlN Tryd.underlying40 ty50 rfl rfl (by omega)) ?_ | refine QL.val rfl (fun w hs => run_ixSl Tryd.underlying40 ty50 rfl rfl (by omega)) ?_)
        refine QL.yes rfl rfl rfl ?_; refine QL.val rfl (fun w hs => run_field (o' := 2) Tryd.underlying50 rfl ty34 rfl rfl rfl) ?_
        refine QL.yes rfl rfl rfl ?_
        refine QL.val rfl (fun w hs => run_load1 ty34 rfl ((c2' hs).cell (j := 2) e4)) ?_
        refine QL.yes rfl rfl rfl ?_
        refine QL.val rfl (fun w hs => run_toString Tryd.underlying34 Tryd.underlying9 Tryd.underlying5 rfl (s2.step0 hs)) ?_
        refine QL.yes rfl rfl rfl ?_
        refine QL.val rfl (fun w hs => run_bF (run_strNe rfl rfl) (by exact fun h => h hyx)) ?_
        refine QL.val rfl (fun w hs => run_pickF rfl) ?_
        refine QL.nil (fun w hs => ?_)
        refine CW.cond rfl (fun h2 => ?_) (fun h2 => ?_)
        · cases h2
        refine CW.skip ?_
        refine CW.reg ?_
        refine WL.val rfl (run_move) ?_
        refine WL.val rfl (run_add (c := ((i + 1 : Nat) : Int)) rfl rfl (by omega) (by omega)) ?_
        refine WL.val rfl (run_assign) ?_
        refine WL.nil ?_
        refine (show _ ∧ _ from ⟨rfl, _, ?_, i + 1, by omega, rfl, hs, rfl, rfl, rfl, trivial⟩)
        omega
      · cases h
  · refine CW.seq <| CW.seq ?_
    refine CW.reg ?_
    refine WL.val rfl (run_move) ?_
    refine WL.val rfl (run_move) ?_
    refine WL.val rfl (run_lenSl Tryd.underlying40 rfl) ?_
    refine WL.val rfl (run_bF (run_lss rfl rfl) (by omega)) ?_
    refine WL.nil ?_
    refine CW.cond rfl (fun h => ?_) (fun h => ?_)
    · cases h
    repeat (first | refine CW.seq ?_ | refine CW.exit ?_)
    refine CW.reg ?_
    refine WL.val rfl (run_assign) ?_
    refine WL.nil ?_
    refine CW.ret ?_
    refine fin_ret1 rfl ?_
    exact ⟨rfl, hs⟩
section
variable {bf mf md bf' mf' md' : Nat} {s s' : VS} {L Lh L' Lh' : List (Nat × Obj)} {vh vh' : Value} {Fs Fs' : List FB} {Ds Ds' : List DB} {Hs Hs' : List (Option HB)} {w0 : World}
theorem places_spec (o : VOpen bf s L mf md vh Lh Fs Ds Hs) (o' : VOpen bf' s' L' mf' md' vh' Lh' Fs' Ds' Hs') (ok : s.Ok) (ok' : s'.Ok) (hw : ∀ p ∈ L, w0.heap[p.1]? = some p.2) (hw' : ∀ p ∈ L', w0.heap[p.1]? = some p.2) (he : ∀ h : Int, s.place h = s'.place h) : Calls Tryd.prog 26 #[.pointer (some ⟨bf, 0, none⟩), .pointer (some ⟨bf', 0, none⟩)] w0 (Ret0 (.bool true) w0) := by
  have hs : Step [] [] w0 w0 := Step.refl w0
  have hlw : ∀ {w : World}, Step [] [] w0 w → ∀ p ∈ L, w.heap[p.1]? = some p.2 := fun hs p hp => hs.old (hw p hp) (by simp)
  have hlw' : ∀ {w : World}, Step [] [] w0 w → ∀ p ∈ L', w.heap[p.1]? = some p.2 := fun hs p hp => hs.old (hw' p hp) (by simp)
  have hp := fun {w} k hw => place_spec (w0 := w) (h := k) o ok hw
  have hp' := fun {w} k hw => place_spec (w0 := w) (h := k) o' ok' hw
  refine calls (n := 43) Tryd.func26 rfl rfl rfl ?_
  refine CW.seq ?_
  refine CW.reg ?_
  refine WL.val rfl (run_assign) ?_
  refine WL.nil ?_
  refine CW.seq <| CW.seq ?_
  refine CW.reg ?_
  refine WL.val rfl (run_assign) ?_
  refine WL.nil ?_
  refine CW.block ?_
  refine CW.loop (fun z f w => ∃ i : Nat, i ≤ 64 ∧ z = 64 - i ∧ Step [] [] w0 w ∧ Holds f [(0, .pointer (some ⟨bf, 0, none⟩)), (1, .pointer (some ⟨bf', 0, none⟩)), (5, .int .i64 i)]) (m := 64) ?_ ?_
  · exact ⟨0, by omega, by omega, hs, rfl, rfl, rfl, trivial⟩
  clear hs
  rintro z f w ⟨i, hi, rfl, hs, hf⟩
  have hobt := hf.chain
  obtain ⟨g, rfl⟩ := hobt
  by_cases hlt : i < 64
  · have h1 := fun {w} hw => hp (w := w) (i : Nat) hw
    have h2 := fun {w} hw => hp' (w := w) (i : Nat) hw
    rw [← he] at h2
    have hobt : ∃ pp pl pe, s.place (i : Nat) = (pp, pl, pe) := ⟨_, _, _, rfl⟩
    obtain ⟨pp, pl, pe, hpe⟩ := hobt
    simp only [hpe] at h1 h2
    refine CW.seq <| CW.seq ?_
    refine CW.reg ?_
    refine WL.val rfl (run_move) ?_
    refine WL.val rfl (run_bT (run_lss rfl rfl) (by omega)) ?_
    refine WL.nil ?_
    refine CW.cond rfl (fun h => ?_) (fun h => ?_)
    · repeat (first | refine CW.seq ?_ | refine CW.block ?_ | refine CW.skip ?_)
      refine CW.reg ?_
      refine WL.val rfl (run_move) ?_
      refine WL.val rfl (run_move) ?_
      refine WL.enter rfl (run_call en22 rfl rfl) (h1 (hlw hs)) ?_
      rintro e w ⟨rfl, hq⟩
      refine ⟨_, rfl, ?_⟩
      replace hs := hs.callE hq
      refine WL.val rfl (run_move) ?_
      refine WL.val rfl (run_extract rfl rfl) ?_
      refine WL.val rfl (run_extract rfl rfl) ?_
      refine WL.val rfl (run_extract rfl rfl) ?_
      refine WL.val rfl (run_assign) ?_
      refine WL.val rfl (run_assign) ?_
      refine WL.val rfl (run_assign) ?_
      refine WL.nil ?_
      refine CW.seq ?_
      refine CW.reg ?_
      refine WL.val rfl (run_move) ?_
      refine WL.val rfl (run_move) ?_
      refine WL.enter rfl (run_call en22 rfl rfl) (h2 (hlw' hs)) ?_
      rintro e w ⟨rfl, hq⟩
      refine ⟨_, rfl, ?_⟩
      replace hs := hs.callE hq
      refine WL.val rfl (run_move) ?_
      refine WL.val rfl (run_extract rfl rfl) ?_
      refine WL.val rfl (run_extract rfl rfl) ?_
      refine WL.val rfl (run_extract rfl rfl) ?_
      refine WL.val rfl (run_assign) ?_
      refine WL.val rfl (run_assign) ?_
      refine WL.val rfl (run_assign) ?_
      refine WL.nil ?_
      refine CW.seq ?_
      refine CW.reg ?_
      refine WL.val rfl (run_move) ?_
      refine WL.val rfl (run_move) ?_
      refine WL.val rfl (run_bF (run_strNe rfl rfl) (by exact fun h => h rfl)) ?_
      refine WL.val rfl (run_move) ?_
      refine WL.yes rfl rfl rfl ?_; refine WL.val rfl (run_move) ?_
      refine WL.yes rfl rfl rfl ?_; refine WL.val rfl (run_move) ?_
      refine WL.yes rfl rfl rfl ?_
      refine WL.val rfl (run_bF (run_neq rfl rfl) (by exact fun h => h rfl)) ?_
      refine WL.val rfl (run_pickF rfl) ?_
      refine WL.val rfl (run_move) ?_
      refine WL.yes rfl rfl rfl ?_; refine WL.val rfl (run_move) ?_
      refine WL.yes rfl rfl rfl ?_; refine WL.val rfl (run_move) ?_
      refine WL.yes rfl rfl rfl ?_
      refine WL.val rfl (run_bF (run_neq rfl rfl) (by exact fun h => h rfl)) ?_
      refine WL.val rfl (run_pickF rfl) ?_
      refine WL.nil ?_
      refine CW.cond rfl (fun h2 => ?_) (fun h2 => ?_)
      · cases h2
      refine CW.skip ?_
      refine CW.reg ?_
      refine WL.val rfl (run_move) ?_
      refine WL.val rfl (run_add (c := ((i + 1 : Nat) : Int)) rfl rfl (by omega) (by omega)) ?_
      refine WL.val rfl (run_assign) ?_
      refine WL.nil ?_
      refine (show _ ∧ _ from ⟨rfl, _, ?_, i + 1, by omega, rfl, hs, rfl, rfl, rfl, trivial⟩)
      omega
    · cases h
  · refine CW.seq <| CW.seq ?_
    refine CW.reg ?_
    refine WL.val rfl (run_move) ?_
    refine WL.val rfl (run_bF (run_lss rfl rfl) (by omega)) ?_
    refine WL.nil ?_
    refine CW.cond rfl (fun h => ?_) (fun h => ?_)
    · cases h
    repeat (first | refine CW.seq ?_ | refine CW.exit ?_)
    refine CW.reg ?_
    refine WL.val rfl (run_assign) ?_
    refine WL.nil ?_
    refine CW.ret ?_
    refine fin_ret1 rfl ?_
    exact ⟨rfl, hs⟩
end
end Go.Gx
/-! VwC -/
namespace Go.Gx
open Go.Proofs Go.RowKit
set_option linter.unusedVariables false
set_option linter.unusedSimpArgs false
set_option maxRecDepth 100000
/-- A script's steps, one after the other. -/
def VS.goS (s : VS) (l : List Stv) : VS := l.foldl (fun s x => (s.doS x).1) s
theorem goS_keeps : ∀ (l : List Stv) {s : VS}, s.Sane → s.Tree → (s.goS l).Sane ∧ (s.goS l).Tree
  | [], s, sn, t => ⟨sn, t⟩
  | x :: l, s, sn, t => goS_keeps l (do_keeps sn t x).1 (do_keeps sn t x).2
theorem goS_step {s : VS} {l : List Stv} {i : Nat} {x : Stv} (h : l[i]? = some x) : s.goS (l.take (i + 1)) = ((s.goS (l.take i)).doS x).1 := by
  have hobt := List.getElem?_eq_some_iff.1 h
  obtain ⟨h1, h2⟩ := hobt
  rw [← List.take_append_getElem h1, h2, VS.goS, List.foldl_append]
  rfl
theorem goS_all {s : VS} {l : List Stv} {i : Nat} (h : l.length ≤ i) : s.goS (l.take i) = s.goS l := by rw [List.take_of_length_le h]
theorem open_low {s : VS} {p : List UInt8} {m : Int} : 0 ≤ (s.open p m).1 := by
  unfold VS.open
  split
  · exact Int.le_refl _
  split
  · exact Int.le_refl _
  split
  · exact Int.le_refl _
  split
  · exact Int.le_refl _
  split
  · exact Int.le_refl _
  exact Int.natCast_nonneg _
theorem do_low {s : VS} {x : Stv} : -1 ≤ (s.doS x).2 := by
  have h := open_low (s := s) (p := x.p) (m := x.n)
  unfold VS.doS
  split
  · show -1 ≤ (if (s.open x.p x.n).2.1 = 0 then (s.open x.p x.n).1 else -1)
    split <;> omega
  · split
    · exact Int.le_refl _
    · split
      · exact Int.le_refl _
      · split <;> exact Int.le_refl _
theorem itemsL_x {s : VS} (ok : s.Ok) : ∀ t ∈ s.itemsL, t.2.2.length ≤ 1048576 := fun t ht => by
  have h1 : t ∈ s.itemsU := (itemsL_perm s.itemsU).mem_iff.1 ht
  unfold VS.itemsU at h1
  rcases List.mem_append.1 h1 with h | h
  · have hobt := List.mem_map.1 h
    obtain ⟨p, _, rfl⟩ := hobt
    exact Nat.zero_le _
  · have hobt := List.mem_map.1 h
    obtain ⟨e, he, rfl⟩ := hobt
    exact ok.x e he
theorem itemsL_n {s : VS} (sn : s.Sane) : s.itemsL.length ≤ 131072 := by
  have h1 : s.itemsL.length = s.itemsU.length := (itemsL_perm s.itemsU).length_eq
  rw [h1]
  unfold VS.itemsU
  rw [List.length_append, List.length_map, List.length_map]
  have h2 := List.length_filter_le (fun p : List UInt8 => decide (p ≠ [])) (s.D.map (·.1))
  rw [List.length_map] at h2
  have := sn.lim
  omega
section
variable {bf bf' : Nat} {s s' : VS} {L L' R : List (Nat × Obj)} {w0 w : World}
/-- A file system's blocks in their place. -/
theorem do_at (hs : Step [] (L ++ R) w0 w) (hR : VRep bf s L) (sn : s.Sane) (t : s.Tree) (hg : Gl w0) {x : Stv} (hx : x.Ok w0) : Calls Tryd.prog 13 #[.pointer (some ⟨bf, 0, none⟩), .agg x.cells.toArray] w fun e w' => ∃ L', e = .returned (.int .i64 (s.doS x).2) ∧ VRep bf (s.doS x).1 L' ∧ Step [] (L' ++ R) w0 w' :=
  (do_spec (x := x) hR sn t (hg.step hs) (hs.dropR.zero (by simp) hg) hs.own ⟨hx.hk, hx.hh, hx.hn, hx.hp, hx.hb.step0 hs, hx.lb⟩ (fun h => hx.hb.step0 (hs.call h))).mono fun e w' ⟨L', h1, h2, h3⟩ => ⟨L', h1, h2, hs.call h3⟩
theorem items_at (hs : Step [] R w0 w) (hR : VRep bf s L) (hL : ∀ p ∈ L, p ∈ R) (sn : s.Sane) (t : s.Tree) (hg : Gl w0) : Calls Tryd.prog 14 #[.pointer (some ⟨bf, 0, none⟩)] w fun e w' => ∃ u Lu RR, e = .returned u ∧ absR RR = s.itemsL ∧ OwnSl 50 3 u RR.length (rowsI RR) Lu ∧ (∀ r ∈ RR, OwnSl 5 1 r.v r.x.length (u8s r.x) r.Lv) ∧ Step [] ((Lu ++ RR.flatMap (·.Lv)) ++ R) w0 w' := by
  obtain ⟨mf, md, vh, Lh, Fs, Ds, Hs, o⟩ := hR
  exact (allItems_spec o sn.ok t (hg.step hs) fun p hp => hs.has p (hL p hp)).mono fun e w' ⟨u, Lu, RR, h1, h2, h3, h4, h5⟩ => ⟨u, Lu, RR, h1, h2, h3, h4, hs.call0 h5⟩
theorem used_at (hs : Step [] R w0 w) (hR : VRep bf s L) (hL : ∀ p ∈ L, p ∈ R) (sn : s.Sane) : Calls Tryd.prog 23 #[.pointer (some ⟨bf, 0, none⟩)] w (Ret0 (.agg (quoC (s.by_ : Nat) (s.items : Nat) (s.op : Nat)).toArray) w) := by
  obtain ⟨mf, md, vh, Lh, Fs, Ds, Hs, o⟩ := hR
  have hD0 : 0 < s.D.length := by
    have hobt := Option.isSome_iff_exists.1 sn.root
    obtain ⟨j, hj⟩ := hobt
    unfold VS.dir at hj
    have := (List.findIdx?_eq_some_iff_getElem.1 hj).1
    omega
  exact used_spec o sn.ok hD0 fun p hp => hs.has p (hL p hp)
theorem same_at {u u' : Value} {A A' : List RowI} {Lu Lu' : List (Nat × Obj)} {X : List Tri} (hs : Step [] R w0 w) (hx : ∀ t ∈ X, t.2.2.length ≤ 1048576) (hn : X.length ≤ 131072) (hA : absR A = X) (hA' : absR A' = X) (hu : OwnSl 50 3 u A.length (rowsI A) Lu) (hu' : OwnSl 50 3 u' A'.length (rowsI A') Lu') (ho : ∀ r ∈ A, OwnSl 5 1 r.v r.x.length (u8s r.x) r.Lv) (ho' : ∀ r ∈ A', OwnSl 5 1 r.v r.x.length (u8s r.x) r.Lv) (hL : ∀ p ∈ Lu ++ A.flatMap (·.Lv), p ∈ R) (hL' : ∀ p ∈ Lu' ++ A'.flatMap (·.Lv), p ∈ R) : Calls Tryd.prog 20 #[u, u'] w (Ret0 (.bool true) w) := by
  have h1 : A.length = X.length := by rw [← hA, absR, List.length_map]
  have h2 : A'.length = X.length := by rw [← hA', absR, List.length_map]
  rw [h1] at hu
  rw [h2] at hu'
  exact same_spec w h1 h2 hn (hA.trans hA'.symm) hu hu' (fun p hp => hs.has p (hL p (List.mem_append_left _ hp))) (fun p hp => hs.has p (hL' p (List.mem_append_left _ hp)))
    (fun r hr => (ho r hr).slW fun p hp => hs.has p (hL p (List.mem_append_right _ (List.mem_flatMap.2 ⟨r, hr, hp⟩))))
    (fun r hr => (ho' r hr).slW fun p hp => hs.has p (hL' p (List.mem_append_right _ (List.mem_flatMap.2 ⟨r, hr, hp⟩))))
    (fun r hr => hx (r.p, r.d, r.x) (by rw [← hA]; exact List.mem_map.2 ⟨r, hr, rfl⟩))
end
end Go.Gx
