/- Files in memory: one step of a script, whatever is answered. The document's trees: parent and find. Files in memory: their items are a tree. No program in sight. The document's IsTree, walked on files' items. The document's IsTree, walked on files' items. Files in memory: never above the quota. No program in sight. VfsBounds in plain words: which handles are open. VfsBounds, walked. -/
import Derived.Test.YtepaojbhjgefiaaDoorA9
import Derived.Test.YtepaojbhjgefiaaDoorVtA
/-! Vt14 -/
namespace Go.Gx
open Go.Proofs
set_option linter.unusedVariables false
set_option linter.unusedSimpArgs false
set_option maxRecDepth 100000
theorem perm_t1 {α : Type} {a b c : List α} : ((a ++ b) ++ c).Perm (a ++ (b ++ c)) := by rw [List.append_assoc]
def VS.doS (s : VS) (x : Stv) : VS × Int :=
  if x.k = 1 then ((s.open x.p x.n).2.2, if (s.open x.p x.n).2.1 = 0 then (s.open x.p x.n).1 else -1) else
  if x.k = 2 then ((s.read x.h x.n).2.2, -1) else
  if x.k = 4 then ((s.write x.h x.b).2, -1) else
  if x.k = 7 then ((s.close x.h).2, -1) else (s, -1)
theorem read_tree {s : VS} (t : s.Tree) (h n : Int) : (s.read h n).2.2.Tree := by
  unfold VS.read
  split
  · exact t
  · split
    · exact t
    · exact t.of rfl rfl
theorem close_tree {s : VS} (t : s.Tree) (h : Int) : (s.close h).2.Tree := by
  unfold VS.close
  split
  · exact t
  · exact t.of rfl rfl
theorem set_fst {F : List (List UInt8 × List UInt8)} {i : Nat} {x : List UInt8} : (F.set i (((F[i]?).map (·.1)).getD [], x)).map (·.1) = F.map (·.1) := by
  rw [List.map_set]
  apply List.ext_getElem?
  intro k
  by_cases hk : i = k
  · subst hk
    by_cases hi : i < F.length
    · rw [List.getElem?_set_self (by simpa using hi), List.getElem?_map, List.getElem?_eq_getElem hi]
      rfl
    · rw [List.getElem?_eq_none (by simpa using hi), List.getElem?_eq_none (by simpa using hi)]
  · rw [List.getElem?_set_ne hk]
theorem write_tree {s : VS} (t : s.Tree) (h : Int) (b : List UInt8) : (s.write h b).2.Tree := by
  unfold VS.write
  split
  · exact t
  · split
    · exact t
    · exact t.of rfl set_fst
theorem do_keeps {s : VS} (sn : s.Sane) (t : s.Tree) (x : Stv) : (s.doS x).1.Sane ∧ (s.doS x).1.Tree := by
  unfold VS.doS
  split
  · exact open_keeps sn t x.p x.n
  · split
    · exact ⟨sn.read x.h x.n, read_tree t x.h x.n⟩
    · split
      · exact ⟨sn.write x.h x.b, write_tree t x.h x.b⟩
      · split
        · exact ⟨sn.close x.h, close_tree t x.h⟩
        · exact ⟨sn, t⟩
theorem is_op {s : VS} (sn : s.Sane) {h : Int} (hi : (s.is h).isSome) : 1 ≤ s.op := by
  have hobt := Option.isSome_iff_exists.1 hi
  obtain ⟨a, ha⟩ := hobt
  have hobt := is_at ha
  obtain ⟨k, _, hk⟩ := hobt
  have := count_none hk
  have := sn.op
  omega
theorem Stv.cells1 {w : World} {x : Stv} (h : x.Ok w) : Cells1 x.cells := by
  intro v hv
  simp only [Stv.cells, List.mem_cons, List.not_mem_nil, or_false] at hv
  have hobt := h.hb.form
  obtain ⟨a, c, he⟩ := hobt
  rcases hv with rfl | rfl | rfl | rfl | rfl
  · rfl
  · rfl
  · rfl
  · rfl
  · rw [he]; rfl
section
variable {bf : Nat} {s : VS} {L : List (Nat × Obj)} {w0 : World}
set_option maxHeartbeats 4000000 in
theorem do_spec (hR : VRep bf s L) (sn : s.Sane) (t : s.Tree) (hg : Gl w0) (h0 : 0 ∉ L.map (·.1)) (hw : Step (L.map (·.1)) L w0 w0) {x : Stv} (hx : x.Ok w0) (hv : ∀ {L' w}, Step (L.map (·.1)) L' w0 w → Sl w 1 x.v x.b.length (u8s x.b)) : Calls Tryd.prog 13 #[.pointer (some ⟨bf, 0, none⟩), .agg x.cells.toArray] w0 fun e w' => ∃ L', e = .returned (.int .i64 (s.doS x).2) ∧ VRep bf (s.doS x).1 L' ∧ Step (L.map (·.1)) L' w0 w' := by
  have hs : Step (L.map (·.1)) L w0 w0 := hw
  have hc1 := Stv.cells1 hx
  obtain ⟨k, h, n, p, v, b⟩ := x
  have hobt := hx.hb.form
  obtain ⟨av, cv, hve⟩ := hobt
  have hve : v = .slice av b.length cv := hve
  subst hve
  have hk := hx.hk
  have hh := hx.hh
  have hn := hx.hn
  have hpl := hx.hp
  have hlb := hx.lb
  have hR0 := hR
  have ok := sn.ok
  obtain ⟨mf, md, vh, Lh, Fs, Ds, Hs, o⟩ := hR
  have hobt : ∃ S, L.map (·.1) = S := ⟨_, rfl⟩
  obtain ⟨S, hS⟩ := hobt
  rw [hS] at hs h0 ⊢
  simp only [hS] at hv
  have hcell := fun {A : List (Nat × Obj)} {b3 : Nat} {w : World} (hs : Step S (A ++ [(b3, blk 47 [.int .i64 k, .int .i64 h, .int .i64 n, str p, .slice av b.length cv])]) w0 w) => At.of_blk (hs.has (b3, blk 47 [.int .i64 k, .int .i64 h, .int .i64 n, str p, .slice av b.length cv]) (by simp))
  have hz0 : ∀ {A R : List (Nat × Obj)} {w : World}, Step S (A ++ R) w0 w → 0 ∉ A.map (·.1) := fun hs => hs.dropR.zero h0 hg
  refine calls (n := 67) Tryd.func13 rfl rfl rfl ?_
  refine CW.seq ?_
  refine CW.reg ?_
  refine WL.box (cs := [.int .i64 k, .int .i64 h, .int .i64 n, str p, .slice av b.length cv]) rfl rfl rfl hs (fun b3 w hs => ?_)
  refine WL.val rfl (run_assign) ?_
  refine WL.nil ?_
  replace hs := hs.perm perm_k3
  refine CW.seq <| CW.seq ?_
  refine CW.reg ?_
  refine WL.val rfl (run_field (o' := 0) Tryd.underlying47 rfl ty3 rfl rfl rfl) ?_
  refine WL.val rfl (run_load1 ty3 rfl ((hcell hs).cell (j := 0) rfl)) ?_
  refine WL.nil ?_
  by_cases h1 : k = 1
  · have e1 : s.doS ⟨k, h, n, p, .slice av b.length cv, b⟩ = ((s.open p n).2.2, if (s.open p n).2.1 = 0 then (s.open p n).1 else -1) := if_pos h1
    rw [e1]
    have hop := fun {w} hg h0 hw => open_spec (w0 := w) (p := p) (mode := n) hR0 sn hg h0 hw hpl
    have hobt : ∃ r1 r2 s2, s.open p n = (r1, r2, s2) := ⟨_, _, _, rfl⟩
    obtain ⟨r1, r2, s2, hr⟩ := hobt
    simp only [hr] at hop ⊢
    repeat (first | refine CW.seq ?_ | refine CW.block ?_)
    refine CW.reg ?_
    refine WL.val rfl (run_bT (run_eql rfl rfl) (by exact h1)) ?_
    refine WL.val rfl (run_assign) ?_
    refine WL.nil ?_
    refine CW.cond rfl (fun hc => ?_) (fun hc => ?_)
    · refine CW.seq ?_
      refine CW.reg ?_
      refine WL.val rfl (run_move) ?_
      refine WL.val rfl (run_field (o' := 3) Tryd.underlying47 rfl ty9 rfl rfl rfl) ?_
      refine WL.val rfl (run_load1 ty9 rfl ((hcell hs).cell (j := 3) rfl)) ?_
      refine WL.val rfl (run_field (o' := 2) Tryd.underlying47 rfl ty3 rfl rfl rfl) ?_
      refine WL.val rfl (run_load1 ty3 rfl ((hcell hs).cell (j := 2) rfl)) ?_
      refine WL.enter rfl (run_call en9 rfl rfl) (hop (hg.stepS hs h0) (hz0 hs) hs.own) ?_
      rintro e w ⟨L2, rfl, hR2, hq⟩
      refine ⟨_, rfl, ?_⟩
      replace hs := hs.call hq
      refine WL.val rfl (run_move) ?_
      refine WL.val rfl (run_extract rfl rfl) ?_
      refine WL.val rfl (run_extract rfl rfl) ?_
      refine WL.val rfl (run_assign) ?_
      refine WL.val rfl (run_assign) ?_
      refine WL.nil ?_
      by_cases h2 : r2 = 0
      · rw [if_pos h2]
        refine CW.seq ?_
        refine CW.reg ?_
        refine WL.val rfl (run_move) ?_
        refine WL.val rfl (run_bT (run_eql rfl rfl) (by exact h2)) ?_
        refine WL.nil ?_
        refine CW.cond rfl (fun hc2 => ?_) (fun hc2 => ?_)
        · refine CW.seq ?_
          refine CW.reg ?_
          refine WL.val rfl (run_move) ?_
          refine WL.val rfl (run_assign) ?_
          refine WL.nil ?_
          refine CW.ret ?_
          refine fin_ret1 rfl ?_
          exact ⟨L2, rfl, hR2, hs.dropR⟩
        · cases hc2
      · have he : (if r2 = 0 then r1 else -1) = -1 := if_neg h2
        refine CW.seq ?_
        refine CW.reg ?_
        refine WL.val rfl (run_move) ?_
        refine WL.val rfl (run_bF (run_eql rfl rfl) (by exact h2)) ?_
        refine WL.nil ?_
        refine CW.cond rfl (fun hc2 => ?_) (fun hc2 => ?_)
        · cases hc2
        repeat (first | refine CW.seq ?_ | refine CW.skip ?_)
        refine CW.reg ?_
        refine WL.val rfl (run_assign) ?_
        refine WL.nil ?_
        refine CW.ret ?_
        refine fin_ret1 rfl ?_
        exact ⟨_, congrArg (fun z => Ending.returned (.int .i64 z)) he.symm, hR2, hs.dropR⟩
    · cases hc
  by_cases h2 : k = 2
  · have he : (s.doS ⟨k, h, n, p, .slice av b.length cv, b⟩).2 = -1 := by unfold VS.doS; rw [if_neg h1, if_pos h2]
    have e2 : (s.doS ⟨k, h, n, p, .slice av b.length cv, b⟩).1 = (s.read h n).2.2 := by unfold VS.doS; rw [if_neg h1, if_pos h2]
    rw [he, e2]
    have he : (-1 : Int) = -1 := rfl
    have hrd := fun {w} hw => read_spec (w0 := w) (h := h) (n := n) hR0 ok hw hn
    repeat (first | refine CW.seq ?_ | refine CW.block ?_)
    refine CW.reg ?_
    refine WL.val rfl (run_bF (run_eql rfl rfl) (by exact h1)) ?_
    refine WL.val rfl (run_assign) ?_
    refine WL.nil ?_
    refine CW.cond rfl (fun hc => ?_) (fun hc => ?_)
    · cases hc
    refine CW.seq ?_
    refine CW.reg ?_
    refine WL.val rfl (run_bT (run_eql rfl rfl) (by exact h2)) ?_
    refine WL.val rfl (run_assign) ?_
    refine WL.nil ?_
    refine CW.cond rfl (fun hc => ?_) (fun hc => ?_)
    · skip
      refine CW.reg ?_
      refine WL.val rfl (run_move) ?_
      refine WL.val rfl (run_field (o' := 1) Tryd.underlying47 rfl ty3 rfl rfl rfl) ?_
      refine WL.val rfl (run_load1 ty3 rfl ((hcell hs).cell (j := 1) rfl)) ?_
      refine WL.val rfl (run_field (o' := 2) Tryd.underlying47 rfl ty3 rfl rfl rfl) ?_
      refine WL.val rfl (run_load1 ty3 rfl ((hcell hs).cell (j := 2) rfl)) ?_
      refine WL.enter rfl (run_call en16 rfl rfl) (hrd hs.own) ?_
      rintro e w ⟨v', Lv, L2, rfl, hu, hR2, hq⟩
      refine ⟨_, rfl, ?_⟩
      replace hs := (hs.call hq)
      replace hs := (hs.perm perm_t1).dropL
      refine WL.nil ?_
      refine CW.seq ?_
      refine CW.reg ?_
      refine WL.val rfl (run_assign) ?_
      refine WL.nil ?_
      refine CW.ret ?_
      refine fin_ret1 rfl ?_
      exact ⟨_, congrArg (fun z => Ending.returned (.int .i64 z)) he.symm, hR2, hs.dropR⟩
    · cases hc
  by_cases h3 : k = 3
  · have e2 : s.doS ⟨k, h, n, p, .slice av b.length cv, b⟩ = (s, -1) := by unfold VS.doS; rw [if_neg h1, if_neg h2, if_neg (show ¬ k = 4 by omega), if_neg (show ¬ k = 7 by omega)]
    rw [e2]
    have he : (-1 : Int) = -1 := rfl
    have hR2 := hR0
    have hpk := fun {w} hw => peek_spec (w0 := w) (h := h) (n := n) o ok hw hn
    repeat (first | refine CW.seq ?_ | refine CW.block ?_)
    refine CW.reg ?_
    refine WL.val rfl (run_bF (run_eql rfl rfl) (by exact h1)) ?_
    refine WL.val rfl (run_assign) ?_
    refine WL.nil ?_
    refine CW.cond rfl (fun hc => ?_) (fun hc => ?_)
    · cases hc
    refine CW.seq ?_
    refine CW.reg ?_
    refine WL.val rfl (run_bF (run_eql rfl rfl) (by exact h2)) ?_
    refine WL.val rfl (run_assign) ?_
    refine WL.nil ?_
    refine CW.cond rfl (fun hc => ?_) (fun hc => ?_)
    · cases hc
    refine CW.seq ?_
    refine CW.reg ?_
    refine WL.val rfl (run_bT (run_eql rfl rfl) (by exact h3)) ?_
    refine WL.val rfl (run_assign) ?_
    refine WL.nil ?_
    refine CW.cond rfl (fun hc => ?_) (fun hc => ?_)
    · skip
      refine CW.reg ?_
      refine WL.val rfl (run_move) ?_
      refine WL.val rfl (run_field (o' := 1) Tryd.underlying47 rfl ty3 rfl rfl rfl) ?_
      refine WL.val rfl (run_load1 ty3 rfl ((hcell hs).cell (j := 1) rfl)) ?_
      refine WL.val rfl (run_field (o' := 2) Tryd.underlying47 rfl ty3 rfl rfl rfl) ?_
      refine WL.val rfl (run_load1 ty3 rfl ((hcell hs).cell (j := 2) rfl)) ?_
      refine WL.enter rfl (run_call en36 rfl rfl) (hpk (fun p hp => hs.has p (by simp [hp]))) ?_
      rintro e w ⟨rfl, hq⟩
      refine ⟨_, rfl, ?_⟩
      replace hs := hs.callE hq
      refine WL.nil ?_
      refine CW.seq ?_
      refine CW.reg ?_
      refine WL.val rfl (run_assign) ?_
      refine WL.nil ?_
      refine CW.ret ?_
      refine fin_ret1 rfl ?_
      exact ⟨_, congrArg (fun z => Ending.returned (.int .i64 z)) he.symm, hR2, hs.dropR⟩
    · cases hc
  by_cases h4 : k = 4
  · have he : (s.doS ⟨k, h, n, p, .slice av b.length cv, b⟩).2 = -1 := by unfold VS.doS; rw [if_neg h1, if_neg h2, if_pos h4]
    have e2 : (s.doS ⟨k, h, n, p, .slice av b.length cv, b⟩).1 = (s.write h b).2 := by unfold VS.doS; rw [if_neg h1, if_neg h2, if_pos h4]
    rw [he, e2]
    have he : (-1 : Int) = -1 := rfl
    have hwr := fun {w} hw (hsb : ∀ {L' w'}, Step (L.map (·.1)) L' w w' → Sl w' 1 (.slice av b.length cv) b.length (u8s b)) => write_spec (w0 := w) (h := h) (b := b) hR0 ok hw hlb hsb
    repeat (first | refine CW.seq ?_ | refine CW.block ?_)
    refine CW.reg ?_
    refine WL.val rfl (run_bF (run_eql rfl rfl) (by exact h1)) ?_
    refine WL.val rfl (run_assign) ?_
    refine WL.nil ?_
    refine CW.cond rfl (fun hc => ?_) (fun hc => ?_)
    · cases hc
    refine CW.seq ?_
    refine CW.reg ?_
    refine WL.val rfl (run_bF (run_eql rfl rfl) (by exact h2)) ?_
    refine WL.val rfl (run_assign) ?_
    refine WL.nil ?_
    refine CW.cond rfl (fun hc => ?_) (fun hc => ?_)
    · cases hc
    refine CW.seq ?_
    refine CW.reg ?_
    refine WL.val rfl (run_bF (run_eql rfl rfl) (by exact h3)) ?_
    refine WL.val rfl (run_assign) ?_
    refine WL.nil ?_
    refine CW.cond rfl (fun hc => ?_) (fun hc => ?_)
    · cases hc
    refine CW.seq ?_
    refine CW.reg ?_
    refine WL.val rfl (run_bT (run_eql rfl rfl) (by exact h4)) ?_
    refine WL.val rfl (run_assign) ?_
    refine WL.nil ?_
    refine CW.cond rfl (fun hc => ?_) (fun hc => ?_)
    · skip
      refine CW.reg ?_
      refine WL.val rfl (run_move) ?_
      refine WL.val rfl (run_field (o' := 1) Tryd.underlying47 rfl ty3 rfl rfl rfl) ?_
      refine WL.val rfl (run_load1 ty3 rfl ((hcell hs).cell (j := 1) rfl)) ?_
      refine WL.val rfl (run_field (o' := 4) Tryd.underlying47 rfl ty34 rfl rfl rfl) ?_
      refine WL.val rfl (run_load1 ty34 rfl ((hcell hs).cell (j := 4) rfl)) ?_
      refine WL.enter rfl (run_call en11 rfl rfl) (hwr hs.own (fun h => hv (hs.dropR.call1 h))) ?_
      rintro e w ⟨L2, rfl, hR2, hq⟩
      refine ⟨_, rfl, ?_⟩
      replace hs := hs.call hq
      refine WL.nil ?_
      refine CW.seq ?_
      refine CW.reg ?_
      refine WL.val rfl (run_assign) ?_
      refine WL.nil ?_
      refine CW.ret ?_
      refine fin_ret1 rfl ?_
      exact ⟨_, congrArg (fun z => Ending.returned (.int .i64 z)) he.symm, hR2, hs.dropR⟩
    · cases hc
  by_cases h5 : k = 5
  · have e2 : s.doS ⟨k, h, n, p, .slice av b.length cv, b⟩ = (s, -1) := by unfold VS.doS; rw [if_neg h1, if_neg h2, if_neg (show ¬ k = 4 by omega), if_neg (show ¬ k = 7 by omega)]
    rw [e2]
    have he : (-1 : Int) = -1 := rfl
    have hR2 := hR0
    have hmy := fun {w} hw => may_spec (w0 := w) (h := h) (n := n) o ok hw hn
    repeat (first | refine CW.seq ?_ | refine CW.block ?_)
    refine CW.reg ?_
    refine WL.val rfl (run_bF (run_eql rfl rfl) (by exact h1)) ?_
    refine WL.val rfl (run_assign) ?_
    refine WL.nil ?_
    refine CW.cond rfl (fun hc => ?_) (fun hc => ?_)
    · cases hc
    refine CW.seq ?_
    refine CW.reg ?_
    refine WL.val rfl (run_bF (run_eql rfl rfl) (by exact h2)) ?_
    refine WL.val rfl (run_assign) ?_
    refine WL.nil ?_
    refine CW.cond rfl (fun hc => ?_) (fun hc => ?_)
    · cases hc
    refine CW.seq ?_
    refine CW.reg ?_
    refine WL.val rfl (run_bF (run_eql rfl rfl) (by exact h3)) ?_
    refine WL.val rfl (run_assign) ?_
    refine WL.nil ?_
    refine CW.cond rfl (fun hc => ?_) (fun hc => ?_)
    · cases hc
    refine CW.seq ?_
    refine CW.reg ?_
    refine WL.val rfl (run_bF (run_eql rfl rfl) (by exact h4)) ?_
    refine WL.val rfl (run_assign) ?_
    refine WL.nil ?_
    refine CW.cond rfl (fun hc => ?_) (fun hc => ?_)
    · cases hc
    refine CW.seq ?_
    refine CW.reg ?_
    refine WL.val rfl (run_bT (run_eql rfl rfl) (by exact h5)) ?_
    refine WL.val rfl (run_assign) ?_
    refine WL.nil ?_
    refine CW.cond rfl (fun hc => ?_) (fun hc => ?_)
    · skip
      refine CW.reg ?_
      refine WL.val rfl (run_move) ?_
      refine WL.val rfl (run_field (o' := 1) Tryd.underlying47 rfl ty3 rfl rfl rfl) ?_
      refine WL.val rfl (run_load1 ty3 rfl ((hcell hs).cell (j := 1) rfl)) ?_
      refine WL.val rfl (run_field (o' := 2) Tryd.underlying47 rfl ty3 rfl rfl rfl) ?_
      refine WL.val rfl (run_load1 ty3 rfl ((hcell hs).cell (j := 2) rfl)) ?_
      refine WL.enter rfl (run_call en34 rfl rfl) (hmy (fun p hp => hs.has p (by simp [hp]))) ?_
      rintro e w ⟨rfl, hq⟩
      refine ⟨_, rfl, ?_⟩
      replace hs := hs.callE hq
      refine WL.nil ?_
      refine CW.seq ?_
      refine CW.reg ?_
      refine WL.val rfl (run_assign) ?_
      refine WL.nil ?_
      refine CW.ret ?_
      refine fin_ret1 rfl ?_
      exact ⟨_, congrArg (fun z => Ending.returned (.int .i64 z)) he.symm, hR2, hs.dropR⟩
    · cases hc
  by_cases h6 : k = 6
  · have e2 : s.doS ⟨k, h, n, p, .slice av b.length cv, b⟩ = (s, -1) := by unfold VS.doS; rw [if_neg h1, if_neg h2, if_neg (show ¬ k = 4 by omega), if_neg (show ¬ k = 7 by omega)]
    rw [e2]
    have he : (-1 : Int) = -1 := rfl
    have hR2 := hR0
    have hls := fun {w} hg hw => list_spec (w0 := w) (p := p) o ok t hg hw hpl
    repeat (first | refine CW.seq ?_ | refine CW.block ?_)
    refine CW.reg ?_
    refine WL.val rfl (run_bF (run_eql rfl rfl) (by exact h1)) ?_
    refine WL.val rfl (run_assign) ?_
    refine WL.nil ?_
    refine CW.cond rfl (fun hc => ?_) (fun hc => ?_)
    · cases hc
    refine CW.seq ?_
    refine CW.reg ?_
    refine WL.val rfl (run_bF (run_eql rfl rfl) (by exact h2)) ?_
    refine WL.val rfl (run_assign) ?_
    refine WL.nil ?_
    refine CW.cond rfl (fun hc => ?_) (fun hc => ?_)
    · cases hc
    refine CW.seq ?_
    refine CW.reg ?_
    refine WL.val rfl (run_bF (run_eql rfl rfl) (by exact h3)) ?_
    refine WL.val rfl (run_assign) ?_
    refine WL.nil ?_
    refine CW.cond rfl (fun hc => ?_) (fun hc => ?_)
    · cases hc
    refine CW.seq ?_
    refine CW.reg ?_
    refine WL.val rfl (run_bF (run_eql rfl rfl) (by exact h4)) ?_
    refine WL.val rfl (run_assign) ?_
    refine WL.nil ?_
    refine CW.cond rfl (fun hc => ?_) (fun hc => ?_)
    · cases hc
    refine CW.seq ?_
    refine CW.reg ?_
    refine WL.val rfl (run_bF (run_eql rfl rfl) (by exact h5)) ?_
    refine WL.val rfl (run_assign) ?_
    refine WL.nil ?_
    refine CW.cond rfl (fun hc => ?_) (fun hc => ?_)
    · cases hc
    refine CW.seq ?_
    refine CW.reg ?_
    refine WL.val rfl (run_bT (run_eql rfl rfl) (by exact h6)) ?_
    refine WL.val rfl (run_assign) ?_
    refine WL.nil ?_
    refine CW.cond rfl (fun hc => ?_) (fun hc => ?_)
    · skip
      refine CW.reg ?_
      refine WL.val rfl (run_move) ?_
      refine WL.val rfl (run_field (o' := 3) Tryd.underlying47 rfl ty9 rfl rfl rfl) ?_
      refine WL.val rfl (run_load1 ty9 rfl ((hcell hs).cell (j := 3) rfl)) ?_
      refine WL.enter rfl (run_call en15 rfl rfl) (hls (hg.stepS hs h0) (fun p hp => hs.has p (by simp [hp]))) ?_
      rintro e w ⟨u, Lu, rfl, hu, hq⟩
      refine ⟨_, rfl, ?_⟩
      replace hs := (hs.call0 hq).dropL
      refine WL.nil ?_
      refine CW.seq ?_
      refine CW.reg ?_
      refine WL.val rfl (run_assign) ?_
      refine WL.nil ?_
      refine CW.ret ?_
      refine fin_ret1 rfl ?_
      exact ⟨_, congrArg (fun z => Ending.returned (.int .i64 z)) he.symm, hR2, hs.dropR⟩
    · cases hc
  by_cases h7 : k = 7
  · have he : (s.doS ⟨k, h, n, p, .slice av b.length cv, b⟩).2 = -1 := by unfold VS.doS; rw [if_neg h1, if_neg h2, if_neg h4, if_pos h7]
    have e2 : (s.doS ⟨k, h, n, p, .slice av b.length cv, b⟩).1 = (s.close h).2 := by unfold VS.doS; rw [if_neg h1, if_neg h2, if_neg h4, if_pos h7]
    rw [he, e2]
    have he : (-1 : Int) = -1 := rfl
    have hcl := fun {w} hw => close_spec (w0 := w) (h := h) hR0 ok (is_op sn) hw
    repeat (first | refine CW.seq ?_ | refine CW.block ?_)
    refine CW.reg ?_
    refine WL.val rfl (run_bF (run_eql rfl rfl) (by exact h1)) ?_
    refine WL.val rfl (run_assign) ?_
    refine WL.nil ?_
    refine CW.cond rfl (fun hc => ?_) (fun hc => ?_)
    · cases hc
    refine CW.seq ?_
    refine CW.reg ?_
    refine WL.val rfl (run_bF (run_eql rfl rfl) (by exact h2)) ?_
    refine WL.val rfl (run_assign) ?_
    refine WL.nil ?_
    refine CW.cond rfl (fun hc => ?_) (fun hc => ?_)
    · cases hc
    refine CW.seq ?_
    refine CW.reg ?_
    refine WL.val rfl (run_bF (run_eql rfl rfl) (by exact h3)) ?_
    refine WL.val rfl (run_assign) ?_
    refine WL.nil ?_
    refine CW.cond rfl (fun hc => ?_) (fun hc => ?_)
    · cases hc
    refine CW.seq ?_
    refine CW.reg ?_
    refine WL.val rfl (run_bF (run_eql rfl rfl) (by exact h4)) ?_
    refine WL.val rfl (run_assign) ?_
    refine WL.nil ?_
    refine CW.cond rfl (fun hc => ?_) (fun hc => ?_)
    · cases hc
    refine CW.seq ?_
    refine CW.reg ?_
    refine WL.val rfl (run_bF (run_eql rfl rfl) (by exact h5)) ?_
    refine WL.val rfl (run_assign) ?_
    refine WL.nil ?_
    refine CW.cond rfl (fun hc => ?_) (fun hc => ?_)
    · cases hc
    refine CW.seq ?_
    refine CW.reg ?_
    refine WL.val rfl (run_bF (run_eql rfl rfl) (by exact h6)) ?_
    refine WL.val rfl (run_assign) ?_
    refine WL.nil ?_
    refine CW.cond rfl (fun hc => ?_) (fun hc => ?_)
    · cases hc
    refine CW.seq ?_
    refine CW.reg ?_
    refine WL.val rfl (run_bT (run_eql rfl rfl) (by exact h7)) ?_
    refine WL.val rfl (run_assign) ?_
    refine WL.nil ?_
    refine CW.cond rfl (fun hc => ?_) (fun hc => ?_)
    · skip
      refine CW.reg ?_
      refine WL.val rfl (run_move) ?_
      refine WL.val rfl (run_field (o' := 1) Tryd.underlying47 rfl ty3 rfl rfl rfl) ?_
      refine WL.val rfl (run_load1 ty3 rfl ((hcell hs).cell (j := 1) rfl)) ?_
      refine WL.enter rfl (run_call en10 rfl rfl) (hcl hs.own) ?_
      rintro e w ⟨L2, rfl, hR2, hq⟩
      refine ⟨_, rfl, ?_⟩
      replace hs := hs.call hq
      refine WL.nil ?_
      refine CW.seq ?_
      refine CW.reg ?_
      refine WL.val rfl (run_assign) ?_
      refine WL.nil ?_
      refine CW.ret ?_
      refine fin_ret1 rfl ?_
      exact ⟨_, congrArg (fun z => Ending.returned (.int .i64 z)) he.symm, hR2, hs.dropR⟩
    · cases hc
  have e2 : s.doS ⟨k, h, n, p, .slice av b.length cv, b⟩ = (s, -1) := by unfold VS.doS; rw [if_neg h1, if_neg h2, if_neg h4, if_neg h7]
  rw [e2]
  have he : (-1 : Int) = -1 := rfl
  have hR2 := hR0
  repeat (first | refine CW.seq ?_ | refine CW.block ?_)
  refine CW.reg ?_
  refine WL.val rfl (run_bF (run_eql rfl rfl) (by exact h1)) ?_
  refine WL.val rfl (run_assign) ?_
  refine WL.nil ?_
  refine CW.cond rfl (fun hc => ?_) (fun hc => ?_)
  · cases hc
  refine CW.seq ?_
  refine CW.reg ?_
  refine WL.val rfl (run_bF (run_eql rfl rfl) (by exact h2)) ?_
  refine WL.val rfl (run_assign) ?_
  refine WL.nil ?_
  refine CW.cond rfl (fun hc => ?_) (fun hc => ?_)
  · cases hc
  refine CW.seq ?_
  refine CW.reg ?_
  refine WL.val rfl (run_bF (run_eql rfl rfl) (by exact h3)) ?_
  refine WL.val rfl (run_assign) ?_
  refine WL.nil ?_
  refine CW.cond rfl (fun hc => ?_) (fun hc => ?_)
  · cases hc
  refine CW.seq ?_
  refine CW.reg ?_
  refine WL.val rfl (run_bF (run_eql rfl rfl) (by exact h4)) ?_
  refine WL.val rfl (run_assign) ?_
  refine WL.nil ?_
  refine CW.cond rfl (fun hc => ?_) (fun hc => ?_)
  · cases hc
  refine CW.seq ?_
  refine CW.reg ?_
  refine WL.val rfl (run_bF (run_eql rfl rfl) (by exact h5)) ?_
  refine WL.val rfl (run_assign) ?_
  refine WL.nil ?_
  refine CW.cond rfl (fun hc => ?_) (fun hc => ?_)
  · cases hc
  refine CW.seq ?_
  refine CW.reg ?_
  refine WL.val rfl (run_bF (run_eql rfl rfl) (by exact h6)) ?_
  refine WL.val rfl (run_assign) ?_
  refine WL.nil ?_
  refine CW.cond rfl (fun hc => ?_) (fun hc => ?_)
  · cases hc
  refine CW.seq ?_
  refine CW.reg ?_
  refine WL.val rfl (run_bF (run_eql rfl rfl) (by exact h7)) ?_
  refine WL.val rfl (run_assign) ?_
  refine WL.nil ?_
  refine CW.cond rfl (fun hc => ?_) (fun hc => ?_)
  · cases hc
  repeat (first | refine CW.seq ?_ | refine CW.skip ?_)
  refine CW.reg ?_
  refine WL.val rfl (run_assign) ?_
  refine WL.nil ?_
  refine CW.ret ?_
  refine fin_ret1 rfl ?_
  exact ⟨_, congrArg (fun z => Ending.returned (.int .i64 z)) he.symm, hR2, hs.dropR⟩
end
end Go.Gx
/-! Vb1 -/
namespace Go.Gx
open Go.Proofs Go.RowKit
set_option linter.unusedVariables false
set_option linter.unusedSimpArgs false
set_option maxRecDepth 100000
theorem cellsOf {u : Value} {ps : List (List UInt8)} {Lp : List (Nat × Obj)} {S : List Nat} {w0 w : World} (hu : OwnSl 9 1 u ps.length (strs ps) Lp) (hs : Step S Lp w0 w) : ∃ a c, u = .slice a ps.length c ∧ ps.length ≤ c ∧ (ps = [] ∨ ∃ bp, a = some ⟨bp, 0, none⟩ ∧ ∀ i p, ps[i]? = some p → w.cell? ⟨bp, 0 + i * 1, none⟩ = some (str p)) := by
  have hobt := hu.form
  obtain ⟨a, c, rfl⟩ := hobt
  by_cases h0 : ps = []
  · exact ⟨a, c, rfl, by rw [h0]; simp, .inl h0⟩
  · have hobt := hu.some1 (List.length_pos_iff.2 h0)
    obtain ⟨bp, cp, more, hq1, hqL, hcp⟩ := hobt
    cases hq1
    subst hqL
    refine ⟨_, _, rfl, ?_, .inr ⟨bp, rfl, fun i p hpi => ?_⟩⟩
    · rw [List.length_append, strs_len] at hcp
      omega
    · have hlt := (List.getElem?_eq_some_iff.1 hpi).1
      rw [cell_blk hs.hd, Nat.zero_add, Nat.mul_one, List.getElem?_append_left (by rw [strs_len]; exact hlt)]
      simp [strs, hpi]
theorem Sl0.keep {ps : List (List UInt8)} {a : Option Addr} {L : List (Nat × Obj)} {w w' : World} (h : ps = [] ∨ ∃ bp, a = some ⟨bp, 0, none⟩ ∧ ∀ i p, ps[i]? = some p → w.cell? ⟨bp, 0 + i * 1, none⟩ = some (str p)) (hs : Step [] L w w') : ps = [] ∨ ∃ bp, a = some ⟨bp, 0, none⟩ ∧ ∀ i p, ps[i]? = some p → w'.cell? ⟨bp, 0 + i * 1, none⟩ = some (str p) := by
  rcases h with h | ⟨bp, h1, h2⟩
  · exact .inl h
  · refine .inr ⟨bp, h1, fun i p hpi => ?_⟩
    have h3 := h2 i p hpi
    have hlx : bp < w.heap.size := Nat.lt_of_not_le fun hge => by
      simp [World.cell?, Array.getElem?_eq_none hge] at h3
    rw [cell_of_heap (hs.chg.block bp hlx (by simp))]
    exact h3
set_option maxHeartbeats 2000000 in
theorem refLess_spec {s t : List UInt8} (w0 : World) (hs1 : s.length < 4294967281) (ht1 : t.length < 4294967281) : Calls Tryd.prog 46 #[str s, str t] w0 (Ret0 (.bool (decide (cmpF (partsL s) (partsL t) < 0))) w0) := by
  have hs : Step [] [] w0 w0 := Step.refl w0
  have hpl := partsL_len s
  have hpt := partsL_len t
  refine calls (n := 47) Tryd.func46 rfl rfl rfl ?_
  refine CW.seq ?_
  refine CW.reg ?_
  refine WL.val rfl (run_assign) ?_
  refine WL.nil ?_
  refine CW.seq ?_
  refine CW.reg ?_
  refine WL.val rfl (run_move) ?_
  refine WL.enter rfl (run_call en58 rfl rfl) (refParts_spec _ hs1) ?_
  rintro e w ⟨u, Lu, rfl, hu, hq⟩
  refine ⟨_, rfl, ?_⟩
  have hs := hq
  refine WL.val rfl (run_assign) ?_
  refine WL.nil ?_
  refine CW.seq ?_
  refine CW.reg ?_
  refine WL.val rfl (run_move) ?_
  refine WL.enter rfl (run_call en58 rfl rfl) (refParts_spec _ ht1) ?_
  rintro e w ⟨u2, Lv, rfl, hv, hq2⟩
  refine ⟨_, rfl, ?_⟩
  have hxx := cellsOf hu hs
  obtain ⟨a, c, hq3, hcl, hcx⟩ := hxx
  subst hq3
  have hyy := cellsOf hv hq2
  obtain ⟨a2, c2, hq4, hcl2, hcy⟩ := hyy
  subst hq4
  have hcx2 := Sl0.keep hcx hq2
  replace hs := hs.dropR (L1 := [])
  replace hs := hs.call0 (hq2.dropR (L1 := []))
  refine WL.val rfl (run_assign) ?_
  refine WL.nil ?_
  refine CW.seq <| CW.seq ?_
  refine CW.reg ?_
  refine WL.val rfl (run_assign) ?_
  refine WL.nil ?_
  have hobt : ∃ x, partsL s = x := ⟨_, rfl⟩
  obtain ⟨x, hx⟩ := hobt
  have hobt : ∃ y, partsL t = y := ⟨_, rfl⟩
  obtain ⟨y, hy⟩ := hobt
  rw [hx] at hpl hcl hcx2
  rw [hy] at hpt hcl2 hcy
  rw [hx, hy]
  have hs0 := hs
  refine CW.block ?_
  refine CW.loop (fun m f w' => ∃ i, i ≤ x.length ∧ m = x.length - i ∧ i ≤ y.length ∧ decide (cmpF x y < 0) = decide (cmpF (x.drop i) (y.drop i) < 0) ∧ Step [] [] w w' ∧ Holds f [(5, .slice a x.length c), (6, .slice a2 y.length c2), (7, .int .i64 i)]) (m := x.length) ?_ ?_
  · exact ⟨0, by omega, by omega, by omega, rfl, Step.refl _, by rw [← hx]; rfl, by rw [← hy]; rfl, rfl, trivial⟩
  · clear hs
    rintro m f w' ⟨i, hi, rfl, hiy, hgo, hs, hf⟩
    have hobt := hf.chain
    obtain ⟨g, rfl⟩ := hobt
    by_cases hlt : i < x.length
    · rcases hcx2 with h | ⟨bx, rfl, hcx2⟩
      · rw [h] at hlt; cases hlt
      have hobt : ∃ p, x[i] = p := ⟨_, rfl⟩
      obtain ⟨p, hp⟩ := hobt
      have hc1 : ∀ {w'' : World}, Step [] [] w w'' → w''.cell? ⟨bx, 0 + i * 1, none⟩ = some (str p) := fun hs => keepCell (hcx2 i p (by rw [List.getElem?_eq_getElem hlt, hp])) hs
      rw [List.drop_eq_getElem_cons hlt, hp] at hgo
      by_cases hly : i < y.length
      · rcases hcy with h | ⟨by', rfl, hcy⟩
        · rw [h] at hly; cases hly
        have hobt : ∃ q, y[i] = q := ⟨_, rfl⟩
        obtain ⟨q, hq⟩ := hobt
        have hc2 : ∀ {w'' : World}, Step [] [] w w'' → w''.cell? ⟨by', 0 + i * 1, none⟩ = some (str q) := fun hs => keepCell (hcy i q (by rw [List.getElem?_eq_getElem hly, hq])) hs
        rw [List.drop_eq_getElem_cons hly, hq] at hgo
        by_cases hpq : p = q
        · rw [hpq, cmpF_eq] at hgo
          refine CW.seq <| CW.seq ?_
          refine CW.reg ?_
          refine WL.val rfl (run_move) ?_
          refine WL.val rfl (run_move) ?_
          refine WL.val rfl (run_lenSl Tryd.underlying51 rfl) ?_
          refine WL.val rfl (run_bT (run_lss rfl rfl) (by omega)) ?_
          refine WL.val rfl (run_move) ?_
          refine WL.yes rfl rfl rfl ?_
          refine WL.val rfl (run_move) ?_
          refine WL.yes rfl rfl rfl ?_
          refine WL.val rfl (run_move) ?_
          refine WL.yes rfl rfl rfl ?_
          refine WL.val rfl (run_lenSl Tryd.underlying51 rfl) ?_
          refine WL.yes rfl rfl rfl ?_
          refine WL.val rfl (run_bT (run_lss rfl rfl) (by omega)) ?_
          refine WL.val rfl (run_pickT rfl) ?_
          refine WL.nil ?_
          repeat (first | refine CW.seq ?_ | refine CW.block ?_ | refine CW.skip ?_ | refine CW.condT rfl ?_)
          refine CW.quiet mixedP (by kernel_rfl) hs ?_
          refine QL.val rfl (fun w hs => run_move) ?_
          refine QL.val rfl (fun w hs => run_move) ?_
          refine QL.val rfl (fun w hs => run_ixSlN Tryd.underlying51 ty9 rfl rfl (by omega)) ?_
          refine QL.val rfl (fun w hs => run_load1 ty9 rfl (hc1 hs)) ?_
          refine QL.val rfl (fun w hs => run_move) ?_
          refine QL.val rfl (fun w hs => run_move) ?_
          refine QL.val rfl (fun w hs => run_ixSlN Tryd.underlying51 ty9 rfl rfl (by omega)) ?_
          refine QL.val rfl (fun w hs => run_load1 ty9 rfl (hc2 hs)) ?_
          refine QL.val rfl (fun w hs => run_bF (run_strNe rfl rfl) (by (exact fun h => h hpq))) ?_
          refine QL.nil (fun w hs => ?_)
          repeat (first | refine CW.skip ?_ | refine CW.condF rfl ?_)
          refine CW.reg ?_
          refine WL.val rfl (run_move) ?_
          refine WL.val rfl (run_add (c := ((i + 1 : Nat) : Int)) rfl rfl (by omega) (by omega)) ?_
          refine WL.val rfl (run_assign) ?_
          refine WL.nil ?_
          refine (show _ ∧ _ from ⟨rfl, _, ?_, i + 1, by omega, rfl, by omega, hgo, hs, rfl, rfl, rfl, trivial⟩)
          omega
        · rw [cmpF_ne _ _ hpq] at hgo
          refine CW.seq <| CW.seq ?_
          refine CW.reg ?_
          refine WL.val rfl (run_move) ?_
          refine WL.val rfl (run_move) ?_
          refine WL.val rfl (run_lenSl Tryd.underlying51 rfl) ?_
          refine WL.val rfl (run_bT (run_lss rfl rfl) (by omega)) ?_
          refine WL.val rfl (run_move) ?_
          refine WL.yes rfl rfl rfl ?_
          refine WL.val rfl (run_move) ?_
          refine WL.yes rfl rfl rfl ?_
          refine WL.val rfl (run_move) ?_
          refine WL.yes rfl rfl rfl ?_
          refine WL.val rfl (run_lenSl Tryd.underlying51 rfl) ?_
          refine WL.yes rfl rfl rfl ?_
          refine WL.val rfl (run_bT (run_lss rfl rfl) (by omega)) ?_
          refine WL.val rfl (run_pickT rfl) ?_
          refine WL.nil ?_
          repeat (first | refine CW.seq ?_ | refine CW.block ?_ | refine CW.skip ?_ | refine CW.condT rfl ?_)
          refine CW.quiet mixedP (by kernel_rfl) hs ?_
          refine QL.val rfl (fun w hs => run_move) ?_
          refine QL.val rfl (fun w hs => run_move) ?_
          refine QL.val rfl (fun w hs => run_ixSlN Tryd.underlying51 ty9 rfl rfl (by omega)) ?_
          refine QL.val rfl (fun w hs => run_load1 ty9 rfl (hc1 hs)) ?_
          refine QL.val rfl (fun w hs => run_move) ?_
          refine QL.val rfl (fun w hs => run_move) ?_
          refine QL.val rfl (fun w hs => run_ixSlN Tryd.underlying51 ty9 rfl rfl (by omega)) ?_
          refine QL.val rfl (fun w hs => run_load1 ty9 rfl (hc2 hs)) ?_
          refine QL.val rfl (fun w hs => run_bT (run_strNe rfl rfl) (by exact hpq)) ?_
          refine QL.nil (fun w hs => ?_)
          repeat (first | refine CW.seq ?_ | refine CW.condT rfl ?_)
          refine CW.quiet mixedP (by kernel_rfl) hs ?_
          refine QL.val rfl (fun w hs => run_move) ?_
          refine QL.val rfl (fun w hs => run_move) ?_
          refine QL.val rfl (fun w hs => run_ixSlN Tryd.underlying51 ty9 rfl rfl (by omega)) ?_
          refine QL.val rfl (fun w hs => run_load1 ty9 rfl (hc1 hs)) ?_
          refine QL.val rfl (fun w hs => run_move) ?_
          refine QL.val rfl (fun w hs => run_move) ?_
          refine QL.val rfl (fun w hs => run_ixSlN Tryd.underlying51 ty9 rfl rfl (by omega)) ?_
          refine QL.val rfl (fun w hs => run_load1 ty9 rfl (hc2 hs)) ?_
          refine QL.val rfl (fun w hs => run_bE (run_strLt rfl rfl) (rfl)) ?_
          refine QL.val rfl (fun w hs => run_assign) ?_
          refine QL.nil (fun w hs => ?_)
          refine CW.ret ?_
          refine fin_ret1 rfl ?_
          exact ⟨by rw [hgo]; rfl, hs0.callE hs⟩
      · rw [List.drop_eq_nil_of_le (by omega : y.length ≤ i), cmpF] at hgo
        refine CW.seq <| CW.seq ?_
        refine CW.reg ?_
        refine WL.val rfl (run_move) ?_
        refine WL.val rfl (run_move) ?_
        refine WL.val rfl (run_lenSl Tryd.underlying51 rfl) ?_
        refine WL.val rfl (run_bT (run_lss rfl rfl) (by omega)) ?_
        refine WL.val rfl (run_move) ?_
        refine WL.yes rfl rfl rfl ?_
        refine WL.val rfl (run_move) ?_
        refine WL.yes rfl rfl rfl ?_
        refine WL.val rfl (run_move) ?_
        refine WL.yes rfl rfl rfl ?_
        refine WL.val rfl (run_lenSl Tryd.underlying51 rfl) ?_
        refine WL.yes rfl rfl rfl ?_
        refine WL.val rfl (run_bF (run_lss rfl rfl) (by omega)) ?_
        refine WL.val rfl (run_pickT rfl) ?_
        refine WL.nil ?_
        repeat (first | refine CW.seq ?_ | refine CW.exit ?_ | refine CW.condF rfl ?_)
        refine CW.reg ?_
        refine WL.val rfl (run_move) ?_
        refine WL.val rfl (run_lenSl Tryd.underlying51 rfl) ?_
        refine WL.val rfl (run_move) ?_
        refine WL.val rfl (run_lenSl Tryd.underlying51 rfl) ?_
        refine WL.val rfl (run_bF (run_lss rfl rfl) (by omega)) ?_
        refine WL.val rfl (run_assign) ?_
        refine WL.nil ?_
        refine CW.ret ?_
        refine fin_ret1 rfl ?_
        exact ⟨by rw [hgo]; rfl, hs0.callE hs⟩
    · have hii : i = x.length := by omega
      rw [List.drop_eq_nil_of_le (by omega : x.length ≤ i)] at hgo
      by_cases hly : i < y.length
      · rw [List.drop_eq_getElem_cons hly, cmpF] at hgo
        refine CW.seq <| CW.seq ?_
        refine CW.reg ?_
        refine WL.val rfl (run_move) ?_
        refine WL.val rfl (run_move) ?_
        refine WL.val rfl (run_lenSl Tryd.underlying51 rfl) ?_
        refine WL.val rfl (run_bF (run_lss rfl rfl) (by omega)) ?_
        refine WL.val rfl (run_move) ?_
        refine WL.no rfl rfl rfl (.inl rfl) ?_
        refine WL.no rfl rfl rfl (.inl rfl) ?_
        refine WL.no rfl rfl rfl (.inl rfl) ?_
        refine WL.no rfl rfl rfl (.inl rfl) ?_
        refine WL.val rfl (run_pickF rfl) ?_
        refine WL.nil ?_
        repeat (first | refine CW.seq ?_ | refine CW.exit ?_ | refine CW.condF rfl ?_)
        refine CW.reg ?_
        refine WL.val rfl (run_move) ?_
        refine WL.val rfl (run_lenSl Tryd.underlying51 rfl) ?_
        refine WL.val rfl (run_move) ?_
        refine WL.val rfl (run_lenSl Tryd.underlying51 rfl) ?_
        refine WL.val rfl (run_bT (run_lss rfl rfl) (by omega)) ?_
        refine WL.val rfl (run_assign) ?_
        refine WL.nil ?_
        refine CW.ret ?_
        refine fin_ret1 rfl ?_
        exact ⟨by rw [hgo]; rfl, hs0.callE hs⟩
      · rw [List.drop_eq_nil_of_le (by omega : y.length ≤ i), cmpF] at hgo
        refine CW.seq <| CW.seq ?_
        refine CW.reg ?_
        refine WL.val rfl (run_move) ?_
        refine WL.val rfl (run_move) ?_
        refine WL.val rfl (run_lenSl Tryd.underlying51 rfl) ?_
        refine WL.val rfl (run_bF (run_lss rfl rfl) (by omega)) ?_
        refine WL.val rfl (run_move) ?_
        refine WL.no rfl rfl rfl (.inl rfl) ?_
        refine WL.no rfl rfl rfl (.inl rfl) ?_
        refine WL.no rfl rfl rfl (.inl rfl) ?_
        refine WL.no rfl rfl rfl (.inl rfl) ?_
        refine WL.val rfl (run_pickF rfl) ?_
        refine WL.nil ?_
        repeat (first | refine CW.seq ?_ | refine CW.exit ?_ | refine CW.condF rfl ?_)
        refine CW.reg ?_
        refine WL.val rfl (run_move) ?_
        refine WL.val rfl (run_lenSl Tryd.underlying51 rfl) ?_
        refine WL.val rfl (run_move) ?_
        refine WL.val rfl (run_lenSl Tryd.underlying51 rfl) ?_
        refine WL.val rfl (run_bF (run_lss rfl rfl) (by omega)) ?_
        refine WL.val rfl (run_assign) ?_
        refine WL.nil ?_
        refine CW.ret ?_
        refine fin_ret1 rfl ?_
        exact ⟨by rw [hgo]; rfl, hs0.callE hs⟩
theorem refLessP_spec {s t : List UInt8} (w0 : World) (hs1 : s.length < 4294967281) (ht1 : t.length < 4294967281) : Calls Tryd.prog 46 #[str s, str t] w0 (Ret0 (.bool (lessP s t)) w0) := refLess_spec w0 hs1 ht1
theorem OwnSl.front {E j : Nat} {ps : List (List UInt8)} {Lv : List (Nat × Obj)} {a : Option Addr} {c : Nat} (h : OwnSl E 1 (.slice a ps.length c) ps.length (strs ps) Lv) (hj : j ≤ ps.length) (h0 : 0 < ps.length) : OwnSl E 1 (.slice a j c) j (strs (ps.take j)) Lv := by
  have hobt := h.some1 h0
  obtain ⟨b, cap, more, hq, hL, hc⟩ := hobt
  cases hq
  have e : strs ps = strs (ps.take j) ++ strs (ps.drop j) := by
    unfold strs
    rw [← List.map_append, List.take_append_drop]
  refine ⟨by rw [strs_len, List.length_take]; omega, .inr ⟨b, c, strs (ps.drop j) ++ more, rfl, ?_, ?_⟩⟩
  · rw [hL, e, List.append_assoc]
  · rw [← List.append_assoc, ← e]
    exact hc
theorem parent_spec {p : List UInt8} (w0 : World) (hcl : isCleanL p = true) (hp0 : p ≠ []) : Calls Tryd.prog 47 #[str p] w0 (Ret0 (str (splitR p).1) w0) := by
  have hs : Step [] [] w0 w0 := Step.refl w0
  have hpl := clean_len hcl
  have h0 : partsL p ≠ [] := fun h => hp0 (partsL_nil h)
  have hobt := clean_named hcl
  obtain ⟨hnm, hn32⟩ := hobt
  have e : (splitR p).1 = joinL (partsL p).dropLast := by
    unfold splitR
    rw [hcl, if_neg (by simp), if_neg h0]
  rw [e]
  have hobt : ∃ ps, partsL p = ps := ⟨_, rfl⟩
  obtain ⟨ps, hps⟩ := hobt
  have hpt := fun w => refParts_spec (s := p) w (by omega)
  simp only [hps] at hpt
  rw [hps] at h0 hnm hn32 ⊢
  have hl0 : 0 < ps.length := List.length_pos_iff.2 h0
  have hdl : ps.dropLast = ps.take (ps.length - 1) := List.dropLast_eq_take
  rw [hdl]
  have hsum : ((ps.take (ps.length - 1)).map fun x => x.length + 1).sum ≤ 9000000 := by
    have hgo : ∀ (l : List (List UInt8)), (∀ x ∈ l, x.length ≤ 64) → (l.map fun x => x.length + 1).sum ≤ l.length * 65 := by
      intro l
      induction l with
      | nil => intro _; simp
      | cons a l ih =>
        intro h
        have h1 := h a (by simp)
        have h2 := ih fun x hx => h x (by simp [hx])
        simp only [List.map_cons, List.sum_cons, List.length_cons]
        omega
    have h1 := hgo (ps.take (ps.length - 1)) fun x hx => isName_le (hnm x (List.mem_of_mem_take hx))
    rw [List.length_take] at h1
    omega
  refine calls (n := 12) Tryd.func47 rfl rfl rfl ?_
  refine CW.seq ?_
  refine CW.reg ?_
  refine WL.val rfl (run_assign) ?_
  refine WL.nil ?_
  refine CW.seq ?_
  refine CW.reg ?_
  refine WL.val rfl (run_move) ?_
  refine WL.enter rfl (run_call en58 rfl rfl) (hpt _) ?_
  rintro e w ⟨u, Lu, rfl, hu, hq⟩
  refine ⟨_, rfl, ?_⟩
  have hs1 : Step [] Lu w0 w := hq
  replace hs := hs1
  have hfu := hu.form
  obtain ⟨au, cu, hfe⟩ := hfu
  subst hfe
  refine WL.val rfl (run_assign) ?_
  refine WL.nil ?_
  have hobt := hu.some1 hl0
  obtain ⟨b, cap, more, hqq, hL, hc⟩ := hobt
  have hqq2 := hqq
  injection hqq2 with e1 e2 e3
  have hcap : ps.length - 1 ≤ cu := by
    rw [List.length_append, strs_len] at hc
    omega
  have hle : (ps.take (ps.length - 1)).length = ps.length - 1 := by rw [List.length_take]; omega
  have hf := OwnSl.front hu (Nat.sub_le ps.length 1) hl0
  subst e1
  have hpa := fun {w} (hw : Step (Lu.map (·.1)) Lu w w) => refPath_spec (u := .slice (some ⟨b, 0, none⟩) (ps.length - 1) cu) (ps := ps.take (ps.length - 1)) w (by rw [hle]; exact hf) hw hsum
  refine CW.seq ?_
  refine CW.reg ?_
  refine WL.val rfl (run_move) ?_
  refine WL.val rfl (run_move) ?_
  refine WL.val rfl (run_lenSl Tryd.underlying51 rfl) ?_
  refine WL.val rfl (run_sub (c := ((ps.length - 1 : Nat) : Int)) rfl rfl (by omega) (by omega)) ?_
  refine WL.val rfl (run_sliceSl0 (hi := ps.length - 1) (m := cu) Tryd.underlying51 ty9 rfl rfl rfl (by simp) (by omega) (Nat.le_refl _)) ?_
  refine WL.enter rfl (run_call en60 rfl rfl) (hpa hs.own1) ?_
  rintro e w ⟨rfl, hq⟩
  refine ⟨_, rfl, ?_⟩
  replace hs := hs.callE hq
  refine WL.val rfl (run_assign) ?_
  refine WL.nil ?_
  refine CW.ret ?_
  refine fin_ret1 rfl ?_
  exact ⟨rfl, hs.clear⟩
theorem find_spec {b c i k : Nat} {ps : List (List UInt8)} {p : List UInt8} (w0 : World) (hi : ps.length = i) (hil : i ≤ 65536) (hc : i ≤ c) (hcell : ∀ (j : Nat) q, ps[j]? = some q → w0.cell? ⟨b, 0 + j * 3, none⟩ = some (str q)) (hso : ps.Pairwise fun a b => lessP a b = true) (hk : ps[k]? = some p) (hl : ∀ q ∈ ps, q.length ≤ 4096) : Calls Tryd.prog 48 #[.slice (some ⟨b, 0, none⟩) i c, str p] w0 (Ret0 (.int .i64 (k : Nat)) w0) := by
  have hs : Step [] [] w0 w0 := Step.refl w0
  have hobt := List.getElem?_eq_some_iff.1 hk
  obtain ⟨hki, hkp⟩ := hobt
  have hpl := hl p (List.mem_of_getElem? hk)
  have hcl := fun {L w j q} (hs : Step [] L w0 w) (hj : ps[j]? = some q) => keepCell (hcell j q hj) hs
  have hls := fun w q (hq : q ∈ ps) => refLessP_spec (s := q) (t := p) w (by have := hl q hq; omega) (by omega)
  have hlt : ∀ (m : Nat) q, ps[m]? = some q → lessP q p = decide (m < k) := fun m q hm => by
    have hobt := List.getElem?_eq_some_iff.1 hm
    obtain ⟨h1, h2⟩ := hobt
    rcases Nat.lt_trichotomy m k with h | h | h
    · have := List.pairwise_iff_getElem.1 hso m k h1 hki h
      rw [h2, hkp] at this
      simp [this, h]
    · subst h
      have : q = p := by rw [← h2, ← hkp]
      rw [this, lessP_irrefl]
      simp
    · have := List.pairwise_iff_getElem.1 hso k m hki h1 h
      rw [h2, hkp] at this
      cases h3 : lessP q p with
      | false => simp; omega
      | true =>
        have h4 := lessP_trans h3 this
        rw [lessP_irrefl] at h4
        cases h4
  refine calls (n := 41) Tryd.func48 rfl rfl rfl ?_
  refine CW.seq ?_
  refine CW.reg ?_
  refine WL.val rfl (run_assign) ?_
  refine WL.nil ?_
  refine CW.seq ?_
  refine CW.reg ?_
  refine WL.val rfl (run_assign) ?_
  refine WL.nil ?_
  refine CW.seq ?_
  refine CW.reg ?_
  refine WL.val rfl (run_move) ?_
  refine WL.val rfl (run_lenSl Tryd.underlying40 rfl) ?_
  refine WL.val rfl (run_assign) ?_
  refine WL.nil ?_
  repeat (first | refine CW.seq ?_ | refine CW.block ?_)
  refine CW.loop (fun z f w => ∃ lo hi : Nat, lo ≤ k ∧ k ≤ hi ∧ hi ≤ i ∧ z = hi - lo ∧ Step [] [] w0 w ∧ Holds f [(0, .slice (some ⟨b, 0, none⟩) i c), (1, str p), (5, .int .i64 lo), (6, .int .i64 hi)]) (m := i) ?_ ?_
  · exact ⟨0, i, by omega, by omega, by omega, rfl, hs, rfl, rfl, rfl, rfl, trivial⟩
  clear hs
  rintro z f w ⟨lo, hi2, h1, h2, h3, rfl, hs, hf⟩
  have hobt := hf.chain
  obtain ⟨g, rfl⟩ := hobt
  by_cases hlh : lo < hi2
  · have hobt : ∃ q, ps[(lo + hi2) / 2]? = some q := ⟨_, List.getElem?_eq_getElem (by omega)⟩
    obtain ⟨q, hq⟩ := hobt
    have hlq := fun w => hls w q (List.mem_of_getElem? hq)
    have hcq := fun {L w} (hs : Step [] L w0 w) => hcl hs hq
    have hdq := hlt _ _ hq
    refine CW.seq <| CW.seq ?_
    refine CW.reg ?_
    refine WL.val rfl (run_move) ?_
    refine WL.val rfl (run_move) ?_
    refine WL.val rfl (run_bT (run_lss rfl rfl) (by omega)) ?_
    refine WL.nil ?_
    refine CW.cond rfl (fun h => ?_) (fun h => ?_)
    · repeat (first | refine CW.seq ?_ | refine CW.block ?_ | refine CW.skip ?_)
      refine CW.reg ?_
      refine WL.val rfl (run_move) ?_
      refine WL.val rfl (run_move) ?_
      refine WL.val rfl (run_add (c := ((lo + hi2 : Nat) : Int)) rfl rfl (by omega) (by omega)) ?_
      refine WL.val rfl (run_quoN (n := lo + hi2) (m := 2) rfl rfl (by decide) (by omega)) ?_
      refine WL.val rfl (run_assign) ?_
      refine WL.nil ?_
      by_cases hmk : (lo + hi2) / 2 < k
      · rw [decide_eq_true hmk] at hdq
        simp only [hdq] at hlq
        refine CW.seq ?_
        refine CW.reg ?_
        refine WL.val rfl (run_move) ?_
        refine WL.val rfl (run_move) ?_
        refine WL.val rfl (run_ixSlN Tryd.underlying40 ty50 rfl rfl (by omega)) ?_
        refine WL.val rfl (run_field (o' := 0) Tryd.underlying50 rfl ty9 rfl rfl rfl) ?_
        refine WL.val rfl (run_load1 ty9 rfl (hcq hs)) ?_
        refine WL.val rfl (run_move) ?_
        refine WL.enter rfl (run_call en46 rfl rfl) (hlq _) ?_
        rintro e w ⟨rfl, hq⟩
        refine ⟨_, rfl, ?_⟩
        replace hs := hs.callE hq
        refine WL.nil ?_
        refine CW.cond rfl (fun hc2 => ?_) (fun hc2 => ?_)
        · skip
          refine CW.reg ?_
          refine WL.val rfl (run_move) ?_
          refine WL.val rfl (run_add (c := (((lo + hi2) / 2 + 1 : Nat) : Int)) rfl rfl (by omega) (by omega)) ?_
          refine WL.val rfl (run_assign) ?_
          refine WL.nil ?_
          refine (show _ ∧ _ from ⟨rfl, _, ?_, (lo + hi2) / 2 + 1, hi2, by omega, by omega, by omega, rfl, hs, rfl, rfl, rfl, rfl, trivial⟩)
          omega
        · cases hc2
      · rw [decide_eq_false hmk] at hdq
        simp only [hdq] at hlq
        refine CW.seq ?_
        refine CW.reg ?_
        refine WL.val rfl (run_move) ?_
        refine WL.val rfl (run_move) ?_
        refine WL.val rfl (run_ixSlN Tryd.underlying40 ty50 rfl rfl (by omega)) ?_
        refine WL.val rfl (run_field (o' := 0) Tryd.underlying50 rfl ty9 rfl rfl rfl) ?_
        refine WL.val rfl (run_load1 ty9 rfl (hcq hs)) ?_
        refine WL.val rfl (run_move) ?_
        refine WL.enter rfl (run_call en46 rfl rfl) (hlq _) ?_
        rintro e w ⟨rfl, hq⟩
        refine ⟨_, rfl, ?_⟩
        replace hs := hs.callE hq
        refine WL.nil ?_
        refine CW.cond rfl (fun hc2 => ?_) (fun hc2 => ?_)
        · cases hc2
        refine CW.reg ?_
        refine WL.val rfl (run_move) ?_
        refine WL.val rfl (run_assign) ?_
        refine WL.nil ?_
        refine (show _ ∧ _ from ⟨rfl, _, ?_, lo, (lo + hi2) / 2, by omega, by omega, by omega, rfl, hs, rfl, rfl, rfl, rfl, trivial⟩)
        omega
    · cases h
  · obtain rfl : lo = k := by omega
    refine CW.seq <| CW.seq ?_
    refine CW.reg ?_
    refine WL.val rfl (run_move) ?_
    refine WL.val rfl (run_move) ?_
    refine WL.val rfl (run_bF (run_lss rfl rfl) (by omega)) ?_
    refine WL.nil ?_
    refine CW.cond rfl (fun h => ?_) (fun h => ?_)
    · cases h
    repeat (first | refine CW.seq ?_ | refine CW.exit ?_)
    refine CW.reg ?_
    refine WL.val rfl (run_move) ?_
    refine WL.val rfl (run_move) ?_
    refine WL.val rfl (run_lenSl Tryd.underlying40 rfl) ?_
    refine WL.val rfl (run_bT (run_lss rfl rfl) (by omega)) ?_
    refine WL.val rfl (run_move) ?_
    refine WL.yes rfl rfl rfl ?_; refine WL.val rfl (run_move) ?_
    refine WL.yes rfl rfl rfl ?_; refine WL.val rfl (run_move) ?_
    refine WL.yes rfl rfl rfl ?_; (first | refine WL.val rfl (run_ixSlN Tryd.underlying40 ty50 rfl rfl (by omega)) ?_ | refine WL.val rfl (run_ixSl Tryd.underlying40 ty50 rfl rfl (by omega)) ?_)
    refine WL.yes rfl rfl rfl ?_; refine WL.val rfl (run_field (o' := 0) Tryd.underlying50 rfl ty9 rfl rfl rfl) ?_
    refine WL.yes rfl rfl rfl ?_
    refine WL.val rfl (run_load1 ty9 rfl (hcl hs hk)) ?_
    refine WL.yes rfl rfl rfl ?_; refine WL.val rfl (run_move) ?_
    refine WL.yes rfl rfl rfl ?_
    refine WL.val rfl (run_bT (run_strEq rfl rfl) (by rfl)) ?_
    refine WL.val rfl (run_pickT rfl) ?_
    refine WL.nil ?_
    refine CW.cond rfl (fun h => ?_) (fun h => ?_)
    · refine CW.seq ?_
      refine CW.reg ?_
      refine WL.val rfl (run_move) ?_
      refine WL.val rfl (run_assign) ?_
      refine WL.nil ?_
      refine CW.ret ?_
      refine fin_ret1 rfl ?_
      exact ⟨rfl, hs⟩
    · cases h
end Go.Gx
/-! Vb2 -/
namespace Go.Gx
open Go.Proofs
set_option linter.unusedVariables false
set_option linter.unusedSimpArgs false
def underL (x y : List (List UInt8)) : Bool := decide (x = y.take x.length)
theorem under_iff (x y : List (List UInt8)) : underL x y = true ↔ ∃ z, y = x ++ z := by
  rw [underL, decide_eq_true_eq]
  constructor
  · intro h
    refine ⟨y.drop x.length, ?_⟩
    conv => lhs; rw [← List.take_append_drop x.length y]
    rw [← h]
  · rintro ⟨z, rfl⟩
    simp
theorem ltR_under : ∀ {x y : List (List UInt8)}, underL x y = true → x ≠ y → ltR x y = true := by
  intro x y h hne
  have hobt := (under_iff x y).1 h
  obtain ⟨z, rfl⟩ := hobt
  have hz : z ≠ [] := fun e => hne (by rw [e, List.append_nil])
  clear h hne
  induction x with
  | nil => cases z with
    | nil => exact absurd rfl hz
    | cons a z => rfl
  | cons a x ih => rw [List.cons_append, ltR, if_pos rfl]; exact ih
structure TreeL (l : List Tri) : Prop where
  len : l.length < 65536
  so : SortT l
  cl : ∀ x ∈ l, isCleanL x.1 = true ∧ x.1 ≠ []
  up : ∀ (i : Nat) x, l[i]? = some x → (splitR x.1).1 = [] ∨ ∃ (k : Nat) (y : Tri), k < i ∧ l[k]? = some y ∧ y.1 = (splitR x.1).1 ∧ y.2.1 = true
  dx : ∀ x ∈ l, (x.2.1 = true → x.2.2 = []) ∧ x.2.2.length ≤ 1048576
  sum : (l.map (·.2.2.length)).sum ≤ 67108864
  fan : ∀ u, (l.filter fun x => decide ((splitR x.1).1 = u)).length ≤ 1024
theorem par_less {p : List UInt8} (hcl : isCleanL p = true) (hp0 : p ≠ []) : lessP (splitR p).1 p = true := by
  have h0 : partsL p ≠ [] := fun h => hp0 (partsL_nil h)
  have hobt := clean_named hcl
  obtain ⟨hnm, hn32⟩ := hobt
  have e : (splitR p).1 = joinL (partsL p).dropLast := by
    unfold splitR
    rw [hcl, if_neg (by simp), if_neg h0]
  have hd : (partsL p).dropLast.length = (partsL p).length - 1 := List.length_dropLast
  have hl0 : 0 < (partsL p).length := List.length_pos_iff.2 h0
  have e2 := (named_clean (row := (partsL p).dropLast) (fun x hx => hnm x ((List.dropLast_sublist _).subset hx)) (by omega)).2
  rw [lessP_ltR, e, e2]
  refine ltR_under ?_ fun h => by rw [h] at hd; omega
  unfold underL
  rw [decide_eq_true_eq, hd]
  exact List.dropLast_eq_take
theorem kids_A {u : List UInt8} : ∀ l : List (List UInt8), (((l.filter fun p => decide (p ≠ [])).map fun p => ((p, true, []) : Tri)).filter fun x => decide ((splitR x.1).1 = u)).length = l.countP (kidP u)
  | [] => rfl
  | r :: l => by
    have ih := kids_A (u := u) l
    rw [List.countP_cons, ← ih, List.filter_cons]
    by_cases h : r = []
    · rw [if_neg (by simp [h]), if_neg (by simp [kidP, h])]
      rfl
    · rw [if_pos (by simp [h]), List.map_cons, List.filter_cons]
      by_cases h2 : (splitR r).1 = u
      · rw [if_pos (by simp [h2]), if_pos (by simp [kidP, h, h2]), List.length_cons]
      · rw [if_neg (by simp [h2]), if_neg (by simp [kidP, h2])]
        rfl
theorem kids_B {u : List UInt8} : ∀ {l : List (List UInt8 × List UInt8)}, (∀ e ∈ l, e.1 ≠ []) → ((l.map fun e => ((e.1, false, e.2) : Tri)).filter fun x => decide ((splitR x.1).1 = u)).length = (l.map (·.1)).countP (kidP u)
  | [], _ => rfl
  | r :: l, hn => by
    have ih := kids_B (u := u) (l := l) fun e he => hn e (by simp [he])
    have h := hn r (by simp)
    rw [List.map_cons, List.map_cons, List.countP_cons, ← ih, List.filter_cons]
    by_cases h2 : (splitR r.1).1 = u
    · rw [if_pos (by simp [h2]), if_pos (by simp [kidP, h, h2]), List.length_cons]
    · rw [if_neg (by simp [h2]), if_neg (by simp [kidP, h2])]
      rfl
theorem tree_items {s : VS} (sn : s.Sane) (t : s.Tree) : TreeL s.itemsL := by
  have hperm : s.itemsL.Perm s.itemsU := itemsL_perm _
  have hso : SortT s.itemsL := itemsL_sorted (items_nodup t)
  have hcl : ∀ x ∈ s.itemsL, isCleanL x.1 = true ∧ x.1 ≠ [] ∧ (s.dir (splitR x.1).1).isSome := fun x hx => by
    have hobt := item_mem t (hperm.mem_iff.1 hx)
    obtain ⟨h1, h2⟩ := hobt
    have hobt := t.cl x.1 h1 h2
    obtain ⟨h3, h4⟩ := hobt
    exact ⟨h3, h2, h4⟩
  have hDl : ((s.D.map (·.1)).filter fun p => decide (p ≠ [])).length + 1 ≤ s.D.length := by
    have h1 : ([] : List UInt8) ∈ s.D.map (·.1) := dir_mem.1 sn.root
    have h2 : ∀ l : List (List UInt8), [] ∈ l → (l.filter fun p => decide (p ≠ [])).length + 1 ≤ l.length := by
      intro l
      induction l with
      | nil => intro h; cases h
      | cons a l ih =>
        intro h
        have h3 := List.length_filter_le (fun p : List UInt8 => decide (p ≠ [])) l
        rw [List.filter_cons]
        by_cases ha : a = []
        · rw [if_neg (by simp [ha]), List.length_cons]
          omega
        · rw [if_pos (by simp [ha]), List.length_cons, List.length_cons]
          have := ih ((List.mem_cons.1 h).resolve_left fun e => ha e.symm)
          omega
    have := h2 _ h1
    rwa [List.length_map] at this
  refine ⟨?_, hso, fun x hx => ⟨(hcl x hx).1, (hcl x hx).2.1⟩, fun i x hi => ?_, fun x hx => ?_, ?_, fun u => ?_⟩
  · have h1 := hperm.length_eq
    unfold VS.itemsU at h1
    rw [List.length_append, List.length_map, List.length_map] at h1
    have := sn.lim
    omega
  · have hobt := hcl x (List.mem_of_getElem? hi)
    obtain ⟨h1, h2, h3⟩ := hobt
    by_cases hu : (splitR x.1).1 = []
    · exact .inl hu
    · refine .inr ?_
      have hm : ((splitR x.1).1, true, ([] : List UInt8)) ∈ s.itemsL := hperm.mem_iff.2 (by
        unfold VS.itemsU
        exact List.mem_append.2 (.inl (List.mem_map.2 ⟨_, List.mem_filter.2 ⟨dir_mem.1 h3, by simpa using hu⟩, rfl⟩)))
      have hobt := List.mem_iff_getElem?.1 hm
      obtain ⟨k, hk⟩ := hobt
      refine ⟨k, _, ?_, hk, rfl, rfl⟩
      have hpl := par_less h1 h2
      have hobt := List.getElem?_eq_some_iff.1 hk
      obtain ⟨hkl, hke⟩ := hobt
      have hobt := List.getElem?_eq_some_iff.1 hi
      obtain ⟨hil, hie⟩ := hobt
      rcases Nat.lt_trichotomy k i with h | h | h
      · exact h
      · exfalso
        subst h
        rw [hke] at hie
        have h5 : (splitR x.1).1 = x.1 := congrArg (·.1) hie
        rw [h5, lessP_irrefl] at hpl
        cases hpl
      · exfalso
        have h5 := List.pairwise_iff_getElem.1 hso i k hil hkl h
        rw [hke, hie] at h5
        have h6 := lessP_trans h5 hpl
        rw [lessP_irrefl] at h6
        cases h6
  · have hx := hperm.mem_iff.1 hx
    unfold VS.itemsU at hx
    rcases List.mem_append.1 hx with h | h
    · have hobt := List.mem_map.1 h
      obtain ⟨p, hp, rfl⟩ := hobt
      exact ⟨fun _ => rfl, Nat.zero_le _⟩
    · have hobt := List.mem_map.1 h
      obtain ⟨e, he, rfl⟩ := hobt
      exact ⟨fun h => (by cases h), sn.ok.x e he⟩
  · have h1 : (s.itemsL.map (·.2.2.length)).sum = (s.itemsU.map (·.2.2.length)).sum := (hperm.map _).sum_nat
    rw [h1]
    unfold VS.itemsU
    rw [List.map_append, List.sum_append, List.map_map, List.map_map]
    have h2 : (List.map ((fun x : Tri => x.2.2.length) ∘ fun p => (p, true, [])) ((s.D.map (·.1)).filter fun p => decide (p ≠ []))).sum = 0 := by
      generalize (s.D.map (·.1)).filter (fun p => decide (p ≠ [])) = l
      induction l with
      | nil => rfl
      | cons a l ih => rw [List.map_cons, List.sum_cons, ih]; rfl
    have h3 : (List.map ((fun x : Tri => x.2.2.length) ∘ fun e => (e.1, false, e.2)) s.F).sum = s.by_ := sn.sum.symm
    rw [h2, h3]
    have := sn.ok.by_
    omega
  · have h1 : (s.itemsL.filter fun x => decide ((splitR x.1).1 = u)).length = (s.itemsU.filter fun x => decide ((splitR x.1).1 = u)).length := (hperm.filter _).length_eq
    have h2 : (s.itemsU.filter fun x => decide ((splitR x.1).1 = u)).length = s.kids u := by
      unfold VS.itemsU VS.kids
      rw [List.filter_append, List.length_append, kids_A, kids_B t.nz]
    rw [h1, h2]
    cases hd : s.dir u with
    | none => rw [kids_none t hd]; exact Nat.zero_le _
    | some j =>
      have hobt := dir_get hd
      obtain ⟨n, hn⟩ := hobt
      have h3 := t.cn _ (List.mem_of_getElem? hn)
      have h4 := t.fan _ (List.mem_of_getElem? hn)
      have h3 : n = s.kids u := h3
      have h4 : n ≤ 1024 := h4
      omega
end Go.Gx
/-! Vb3 -/
namespace Go.Gx
open Go.Proofs Go.RowKit
set_option linter.unusedVariables false
set_option linter.unusedSimpArgs false
set_option maxRecDepth 100000
def bC (B : List Nat) : List Value := B.map fun z => .int .i64 (z : Nat)
theorem bC_get {B : List Nat} {i z : Nat} (h : B[i]? = some z) : (bC B)[i]? = some (.int .i64 (z : Nat)) := by rw [bC, List.getElem?_map, h]; rfl
theorem bC_set {B : List Nat} {i z : Nat} : (bC B).set i (.int .i64 (z : Nat)) = bC (B.set i z) := by rw [bC, bC, List.map_set]
theorem bC_rep (k : Nat) : (List.replicate k [Value.int .i64 0]).flatten = bC (List.replicate k 0) := by
  induction k with
  | zero => rfl
  | succ k ih => rw [List.replicate_succ, List.flatten_cons, ih, List.replicate_succ]; rfl
def cntL (l : List Tri) (u : List UInt8) : Nat := (l.filter fun x => decide ((splitR x.1).1 = u)).length
theorem cnt_step {l : List Tri} {i : Nat} {x : Tri} (hx : l[i]? = some x) (u : List UInt8) : cntL (l.take (i + 1)) u = cntL (l.take i) u + (if (splitR x.1).1 = u then 1 else 0) := by
  have hobt := List.getElem?_eq_some_iff.1 hx
  obtain ⟨hlt, he⟩ := hobt
  unfold cntL
  rw [← List.take_append_getElem hlt, he, List.filter_append, List.length_append, List.filter_cons]
  by_cases h : (splitR x.1).1 = u <;> simp [h]
theorem cnt_fan {l : List Tri} (T : TreeL l) (i : Nat) (u : List UInt8) : cntL (l.take i) u ≤ 1024 := Nat.le_trans ((List.take_sublist i l).filter _).length_le (T.fan u)
theorem sumT_step {l : List Tri} {i : Nat} {x : Tri} (hx : l[i]? = some x) : ((l.take (i + 1)).map (·.2.2.length)).sum = ((l.take i).map (·.2.2.length)).sum + x.2.2.length := by
  have hobt := List.getElem?_eq_some_iff.1 hx
  obtain ⟨hlt, he⟩ := hobt
  rw [← List.take_append_getElem hlt, he]
  simp
theorem sumT_le {l : List Tri} (T : TreeL l) (i : Nat) : ((l.take i).map (·.2.2.length)).sum ≤ 67108864 := by
  have h : ∀ (l : List Tri) (i : Nat), ((l.take i).map (·.2.2.length)).sum ≤ (l.map (·.2.2.length)).sum := by
    intro l
    induction l with
    | nil => intro i; simp
    | cons a l ih =>
      intro i
      cases i with
      | zero => simp
      | succ i =>
        have := ih i
        simp only [List.take_succ_cons, List.map_cons, List.sum_cons]
        omega
  exact Nat.le_trans (h l i) T.sum
/-- What the counts hold. -/
structure BInv (l : List Tri) (i : Nat) (B : List Nat) : Prop where
  len : B.length = l.length + 1
  a : ∀ (k : Nat) (x : Tri), l[k]? = some x → ∀ z, B[k]? = some z → z ≤ cntL (l.take i) x.1
  r : ∀ z, B[l.length]? = some z → z ≤ cntL (l.take i) []
theorem BInv.step {l : List Tri} {i at_ z : Nat} {B : List Nat} {x : Tri} (T : TreeL l) (v : BInv l i B) (hx : l[i]? = some x) (hz : B[at_]? = some z) (ha : at_ = l.length ∧ (splitR x.1).1 = [] ∨ ∃ y : Tri, l[at_]? = some y ∧ y.1 = (splitR x.1).1) : BInv l (i + 1) (B.set at_ (z + 1)) ∧ z + 1 ≤ 1024 := by
  have hlt := (List.getElem?_eq_some_iff.1 hz).1
  have hmono : ∀ u, cntL (l.take i) u ≤ cntL (l.take (i + 1)) u := fun u => by rw [cnt_step hx]; omega
  have hz1 : z + 1 ≤ cntL (l.take (i + 1)) (splitR x.1).1 := by
    rw [cnt_step hx, if_pos rfl]
    rcases ha with ⟨h1, h2⟩ | ⟨y, hy, hy2⟩
    · subst h1
      have := v.r z hz
      rw [h2]
      omega
    · have := v.a at_ y hy z hz
      rw [hy2] at this
      omega
  refine ⟨⟨by rw [List.length_set]; exact v.len, fun k y hy u hu => ?_, fun u hu => ?_⟩, Nat.le_trans hz1 (cnt_fan T _ _)⟩
  · by_cases hk : at_ = k
    · subst hk
      rw [List.getElem?_set_self hlt] at hu
      obtain rfl := Option.some.inj hu
      rcases ha with ⟨h1, h2⟩ | ⟨y', hy', hy2⟩
      · exfalso
        have := (List.getElem?_eq_some_iff.1 hy).1
        omega
      · rw [hy] at hy'
        obtain rfl := Option.some.inj hy'
        rw [hy2]
        exact hz1
    · rw [List.getElem?_set_ne hk] at hu
      exact Nat.le_trans (v.a k y hy u hu) (hmono _)
  · by_cases hk : at_ = l.length
    · subst hk
      rw [List.getElem?_set_self hlt] at hu
      obtain rfl := Option.some.inj hu
      rcases ha with ⟨h1, h2⟩ | ⟨y', hy', hy2⟩
      · rw [← h2]
        exact hz1
      · exfalso
        have := (List.getElem?_eq_some_iff.1 hy').1
        omega
    · rw [List.getElem?_set_ne hk] at hu
      exact Nat.le_trans (v.r u hu) (hmono _)
end Go.Gx
/-! Vb4 -/
namespace Go.Gx
open Go.Proofs Go.RowKit
set_option linter.unusedVariables false
set_option linter.unusedSimpArgs false
set_option maxRecDepth 100000
set_option maxHeartbeats 8000000 in
theorem isTree_spec {u : Value} {R : List RowI} {Lu : List (Nat × Obj)} (w0 : World) (hu : OwnSl 50 3 u R.length (rowsI R) Lu) (hRo : ∀ r ∈ R, ∃ a c, r.v = .slice a r.x.length c) (T : TreeL (absR R)) (hw : ∀ p ∈ Lu, w0.heap[p.1]? = some p.2) : Calls Tryd.prog 24 #[u] w0 (Ret0 (.bool true) w0) := by
  have hs : Step [] [] w0 w0 := Step.refl w0
  have hobt := hu.form
  obtain ⟨au, cu, rfl⟩ := hobt
  have hobt : ∃ l, absR R = l := ⟨_, rfl⟩
  obtain ⟨l, hl⟩ := hobt
  rw [hl] at T
  have hobt : ∃ n, R.length = n := ⟨_, rfl⟩
  obtain ⟨n, hn⟩ := hobt
  have hln : l.length = n := by rw [← hl, ← hn]; simp [absR]
  rw [hn] at hu ⊢
  have hlen := T.len
  refine calls (n := 105) Tryd.func24 rfl rfl rfl ?_
  refine CW.seq ?_
  refine CW.reg ?_
  refine WL.val rfl (run_assign) ?_
  refine WL.nil ?_
  refine CW.seq <| CW.seq ?_
  refine CW.reg ?_
  refine WL.val rfl (run_move) ?_
  refine WL.val rfl (run_lenSl Tryd.underlying40 rfl) ?_
  refine WL.val rfl (run_bF (run_geq rfl rfl) (by omega)) ?_
  refine WL.nil ?_
  refine CW.cond rfl (fun h => ?_) (fun h => ?_)
  · cases h
  repeat (first | refine CW.seq ?_ | refine CW.skip ?_)
  refine CW.reg ?_
  refine WL.val rfl (run_assign) ?_
  refine WL.nil ?_
  refine CW.seq ?_
  refine CW.reg ?_
  refine WL.val rfl (run_move) ?_
  refine WL.val rfl (run_lenSl Tryd.underlying40 rfl) ?_
  refine WL.val rfl (run_add (c := ((n + 1 : Nat) : Int)) rfl rfl (by omega) (by omega)) ?_
  refine WL.makeSlice (k := n + 1) Tryd.underlying22 ty3 rfl (by omega) (by omega) rfl rfl rfl hs (fun b15 w hs => ?_)
  refine WL.val rfl (run_assign) ?_
  refine WL.nil ?_
  refine CW.seq <| CW.seq ?_
  refine CW.reg ?_
  refine WL.val rfl (run_assign) ?_
  refine WL.nil ?_
  refine CW.block ?_
  refine CW.loop (fun z f w => ∃ i B, i ≤ n ∧ z = n - i ∧ BInv l i B ∧ Step [] [(b15, blk 3 (bC B))] w0 w ∧ Holds f [(0, .slice au n cu), (3, .int .i64 (((l.take i).map (·.2.2.length)).sum : Nat)), (4, .slice (some ⟨b15, 0, none⟩) (n + 1) (n + 1)), (5, .int .i64 i)]) (m := n) ?_ ?_
  · refine ⟨0, List.replicate (n + 1) 0, by omega, by omega, ⟨by rw [List.length_replicate, hln], fun k x hx z hz => ?_, fun z hz => ?_⟩, ?_, rfl, rfl, rfl, rfl, trivial⟩
    · rw [List.getElem?_replicate] at hz
      split at hz
      · rw [← Option.some.inj hz]; exact Nat.zero_le _
      · cases hz
    · rw [List.getElem?_replicate] at hz
      split at hz
      · rw [← Option.some.inj hz]; exact Nat.zero_le _
      · cases hz
    · rw [← bC_rep]
      exact hs
  clear hs
  rintro z f w ⟨i, B, hi, rfl, hB, hs, hf⟩
  have hsl := sumT_le T i
  by_cases hlt : i < n
  · have hobt := hu.some1 (by omega)
    obtain ⟨bu, capu, mu, hqu, hLu, hcu⟩ := hobt
    injection hqu with e1 e2 e3
    have e1' := congrArg (fun a => Value.slice a n cu) e1
    rw [show Value.slice au n cu = Value.slice (some ⟨bu, 0, none⟩) n cu from e1'] at hf
    have hobt := hf.chain
    obtain ⟨g, rfl⟩ := hobt
    have hobt : ∃ r, R[i]? = some r := ⟨_, List.getElem?_eq_getElem (by omega)⟩
    obtain ⟨r, hr⟩ := hobt
    have hxi : l[i]? = some (r.p, r.d, r.x) := by rw [← hl, absR, List.getElem?_map, hr]; rfl
    have hxm := List.mem_of_getElem? hxi
    have hobt := T.cl _ hxm
    obtain ⟨hrc, hrn⟩ := hobt
    have hrc : isCleanL r.p = true := hrc
    have hrn : r.p ≠ [] := hrn
    have hrl := clean_len hrc
    have hobt := T.dx _ hxm
    obtain ⟨hdx, hx20⟩ := hobt
    have hdx : r.d = true → r.x = [] := hdx
    have hx20 : r.x.length ≤ 1048576 := hx20
    have hobt := hRo r (List.mem_of_getElem? hr)
    obtain ⟨ax, cx, hve⟩ := hobt
    have hev : r.enc[0 + 2]? = some (.slice ax r.x.length cx) := by show some r.v = _; rw [hve]
    have hss := sumT_step hxi
    have hss : ((l.take (i + 1)).map (·.2.2.length)).sum = ((l.take i).map (·.2.2.length)).sum + r.x.length := hss
    have hbk : w0.heap[bu]? = some (blk 50 (rowsI R ++ mu)) := hw (bu, blk 50 (rowsI R ++ mu)) (by rw [hLu]; simp)
    have hrow := fun {L' w} (hs : Step [] L' w0 w) {j : Nat} {q : RowI} (hj : R[j]? = some q) => rowsI_blk (b := bu) (A := [(bu, blk 50 (rowsI R ++ mu))]) (T := 50) (more := mu) (Step.start (L := [(bu, blk 50 (rowsI R ++ mu))]) (w := w) (by simp) (fun p hp => by rw [List.mem_singleton.1 hp]; exact hs.old hbk (by simp))) (by simp) hj
    have hcl1 := fun w => refIsClean_spec (s := r.p) w (by omega)
    rw [hrc] at hcl1
    have hpar := fun w => parent_spec (p := r.p) w hrc hrn
    have hobt : ∃ pu, (splitR r.p).1 = pu := ⟨_, rfl⟩
    obtain ⟨pu, hpu⟩ := hobt
    simp only [hpu] at hpar
    have hcapn : n ≤ cu := by
      rw [List.length_append, rowsI_len] at hcu
      omega
    have hblen : B.length = n + 1 := by rw [hB.len, hln]
    have hbl : (bC B).length = n + 1 := by simp [bC, hblen]
    have hdb : r.d = true ∨ r.d = false := by cases r.d <;> simp
    refine CW.seq <| CW.seq ?_
    refine CW.reg ?_
    refine WL.val rfl (run_move) ?_
    refine WL.val rfl (run_move) ?_
    refine WL.val rfl (run_lenSl Tryd.underlying40 rfl) ?_
    refine WL.val rfl (run_bT (run_lss rfl rfl) (by omega)) ?_
    refine WL.nil ?_
    refine CW.cond rfl (fun h => ?_) (fun h => ?_)
    · repeat (first | refine CW.seq ?_ | refine CW.block ?_ | refine CW.skip ?_)
      refine CW.reg ?_
      refine WL.val rfl (run_move) ?_
      refine WL.val rfl (run_move) ?_
      refine WL.val rfl (run_ixSlN Tryd.underlying40 ty50 rfl rfl (by omega)) ?_
      refine WL.val rfl (run_loadN ty50 rfl rfl (hrow hs hr)) ?_
      refine WL.alloc ty50 rfl hs (fun b6 w hs => ?_)
      refine WL.storeAll ty50 rfl rfl ((rfl)) (r.enc1) hs (by first | rfl | assumption) (fun w hs => ?_)
      refine WL.nil ?_
      by_cases hi0 : i = 0
      · refine CW.seq <| CW.seq ?_
        refine CW.quiet mixedP (by kernel_rfl) hs ?_
        refine QL.val rfl (fun w hs => run_field (o' := 0) Tryd.underlying50 rfl ty9 rfl rfl rfl) ?_
        refine QL.val rfl (fun w hs => run_load1 ty9 rfl (hs.c0 (v := str r.p) rfl)) ?_
        refine QL.val rfl (fun w hs => run_bF (run_strEq rfl rfl) (by exact hrn)) ?_
        refine QL.val rfl (fun w hs => run_move) ?_
        refine QL.yes rfl rfl rfl ?_; refine QL.val rfl (fun w hs => run_field (o' := 0) Tryd.underlying50 rfl ty9 rfl rfl rfl) ?_
        refine QL.yes rfl rfl rfl ?_
        refine QL.val rfl (fun w hs => run_load1 ty9 rfl (hs.c0 (v := str r.p) rfl)) ?_
        refine QL.yes rfl rfl rfl ?_
        refine QL.enter rfl (fun w => run_call en45 rfl rfl) (fun w hs => hcl1 _) ?_
        refine QL.yes rfl rfl rfl ?_; (first | refine QL.val rfl (fun w hs => run_notB rfl) ?_ | refine QL.val rfl (fun w hs => run_not rfl) ?_)
        refine QL.val rfl (fun w hs => run_pickF rfl) ?_
        refine QL.val rfl (fun w hs => run_move) ?_
        refine QL.yes rfl rfl rfl ?_; refine QL.val rfl (fun w hs => run_move) ?_
        refine QL.yes rfl rfl rfl ?_
        refine QL.val rfl (fun w hs => run_bF (run_gtr rfl rfl) (by omega)) ?_
        refine QL.yes rfl rfl rfl ?_; refine QL.val rfl (fun w hs => run_move) ?_
        refine QL.no rfl rfl rfl (.inl rfl) ?_
        refine QL.no rfl rfl rfl (.inl rfl) ?_
        refine QL.no rfl rfl rfl (.inl rfl) ?_
        refine QL.no rfl rfl rfl (.inl rfl) ?_
        refine QL.no rfl rfl rfl (.inl rfl) ?_
        refine QL.no rfl rfl rfl (.inl rfl) ?_
        refine QL.no rfl rfl rfl (.inl rfl) ?_
        refine QL.no rfl rfl rfl (.inl rfl) ?_
        refine QL.no rfl rfl rfl (.inl rfl) ?_
        refine QL.no rfl rfl rfl (.inl rfl) ?_
        refine QL.yes rfl rfl rfl ?_; (first | refine QL.val rfl (fun w hs => run_pickT rfl) ?_ | refine QL.val rfl (fun w hs => run_pickF rfl) ?_)
        refine QL.val rfl (fun w hs => run_pickF rfl) ?_
        refine QL.nil (fun w hs => ?_)
        refine CW.cond rfl (fun h2 => ?_) (fun h2 => ?_)
        · cases h2
        rcases hdb with hdd | hdd
        · have hx0 : r.x.length = 0 := by rw [hdx hdd]; rfl
          repeat (first | refine CW.seq ?_ | refine CW.skip ?_)
          refine CW.reg ?_
          refine WL.val rfl (run_field (o' := 1) Tryd.underlying50 rfl ty4 rfl rfl rfl) ?_
          refine WL.val rfl (run_load1 ty4 rfl (hs.c0 (v := .bool true) (by show some (Value.bool r.d) = _; rw [hdd]))) ?_
          refine WL.val rfl (run_move) ?_
          refine WL.yes rfl rfl rfl ?_; refine WL.val rfl (run_field (o' := 2) Tryd.underlying50 rfl ty34 rfl rfl rfl) ?_
          refine WL.yes rfl rfl rfl ?_
          refine WL.val rfl (run_load1 ty34 rfl (hs.c0 (v := .slice ax r.x.length cx) hev)) ?_
          refine WL.yes rfl rfl rfl ?_; refine WL.val rfl (run_lenSl Tryd.underlying34 rfl) ?_
          refine WL.yes rfl rfl rfl ?_
          refine WL.val rfl (run_bF (run_gtr rfl rfl) (by omega)) ?_
          refine WL.val rfl (run_pickT rfl) ?_
          refine WL.val rfl (run_move) ?_
          refine WL.yes rfl rfl rfl ?_; refine WL.val rfl (run_field (o' := 2) Tryd.underlying50 rfl ty34 rfl rfl rfl) ?_
          refine WL.yes rfl rfl rfl ?_
          refine WL.val rfl (run_load1 ty34 rfl (hs.c0 (v := .slice ax r.x.length cx) hev)) ?_
          refine WL.yes rfl rfl rfl ?_; refine WL.val rfl (run_lenSl Tryd.underlying34 rfl) ?_
          refine WL.yes rfl rfl rfl ?_
          refine WL.val rfl (run_bF (run_gtr rfl rfl) (by omega)) ?_
          refine WL.val rfl (run_pickF rfl) ?_
          refine WL.nil ?_
          refine CW.cond rfl (fun h => ?_) (fun h => ?_)
          · cases h
          repeat (first | refine CW.seq ?_ | refine CW.skip ?_)
          refine CW.reg ?_
          refine WL.val rfl (run_move) ?_
          refine WL.val rfl (run_field (o' := 2) Tryd.underlying50 rfl ty34 rfl rfl rfl) ?_
          refine WL.val rfl (run_load1 ty34 rfl (hs.c0 (v := .slice ax r.x.length cx) hev)) ?_
          refine WL.val rfl (run_lenSl Tryd.underlying34 rfl) ?_
          refine WL.val rfl (run_add (c := ((((l.take (i + 1)).map (·.2.2.length)).sum : Nat) : Int)) rfl rfl (by omega) (by omega)) ?_
          refine WL.val rfl (run_assign) ?_
          refine WL.nil ?_
          refine CW.seq ?_
          refine CW.reg ?_
          refine WL.val rfl (run_move) ?_
          refine WL.val rfl (run_lenSl Tryd.underlying40 rfl) ?_
          refine WL.val rfl (run_assign) ?_
          refine WL.nil ?_
          refine CW.seq ?_
          refine CW.reg ?_
          refine WL.val rfl (run_field (o' := 0) Tryd.underlying50 rfl ty9 rfl rfl rfl) ?_
          refine WL.val rfl (run_load1 ty9 rfl (hs.c0 (v := str r.p) rfl)) ?_
          refine WL.enter rfl (run_call en47 rfl rfl) (hpar _) ?_
          rintro e w ⟨rfl, hq⟩
          refine ⟨_, rfl, ?_⟩
          replace hs := hs.callE hq
          refine WL.val rfl (run_assign) ?_
          refine WL.nil ?_
          by_cases hu0 : pu = []
          · have hobt : ∃ z, B[n]? = some z := ⟨_, List.getElem?_eq_getElem (by omega)⟩
            obtain ⟨z, hz⟩ := hobt
            have hat2 : n = l.length ∧ (splitR (r.p, r.d, r.x).1).1 = [] ∨ ∃ y : Tri, l[n]? = some y ∧ y.1 = (splitR (r.p, r.d, r.x).1).1 := .inl ⟨by omega, hpu.trans hu0⟩
            refine CW.seq <| CW.seq ?_
            refine CW.reg ?_
            refine WL.val rfl (run_move) ?_
            refine WL.val rfl (run_bF (run_strNe rfl rfl) (by exact fun h => h hu0)) ?_
            refine WL.nil ?_
            refine CW.cond rfl (fun h => ?_) (fun h => ?_)
            · cases h
            have hobt := BInv.step T hB hxi hz hat2
            obtain ⟨hB2, hz1024⟩ := hobt
            have hset : (bC B).set (0 + n * 1) (.int .i64 ((z + 1 : Nat) : Int)) = bC (B.set n (z + 1)) := by rw [Nat.zero_add, Nat.mul_one, bC_set]
            have hatl := (List.getElem?_eq_some_iff.1 hz).1
            have hzg : (bC B)[0 + n * 1]? = some (.int .i64 (z : Nat)) := by rw [Nat.zero_add, Nat.mul_one]; exact bC_get hz
            repeat (first | refine CW.seq ?_ | refine CW.skip ?_)
            refine CW.reg ?_
            refine WL.val rfl (run_move) ?_
            refine WL.val rfl (run_move) ?_
            refine WL.val rfl (run_ixSlN Tryd.underlying22 ty3 rfl rfl (by omega)) ?_
            refine WL.val rfl (run_load1 ty3 rfl (hs.c1 hzg)) ?_
            refine WL.val rfl (run_add (c := ((z + 1 : Nat) : Int)) rfl rfl (by omega) (by omega)) ?_
            refine WL.val rfl (run_ixSlN Tryd.underlying22 ty3 rfl rfl (by omega)) ?_
            refine WL.store1_1 ty3 rfl rfl (rfl) hs (by first | (simp; done) | omega | (simp only [List.length_append, List.length_replicate, List.length_cons, List.length_nil, List.length_set]; omega) | (simp [Ent.cells, u8s]; done) | exact Nat.le_of_ble_eq_true rfl) (fun w hs => ?_)
            refine WL.nil ?_
            replace hs : Step [] [(b6, blk 50 r.enc), (b15, blk 3 (bC (B.set n (z + 1))))] w0 w := by rw [← hset]; exact hs
            have hzg2 : (bC (B.set n (z + 1)))[0 + n * 1]? = some (.int .i64 ((z + 1 : Nat) : Int)) := by rw [Nat.zero_add, Nat.mul_one]; exact bC_get (List.getElem?_set_self hatl)
            refine CW.seq ?_
            refine CW.reg ?_
            refine WL.val rfl (run_move) ?_
            refine WL.val rfl (run_move) ?_
            refine WL.val rfl (run_ixSlN Tryd.underlying22 ty3 rfl rfl (by omega)) ?_
            refine WL.val rfl (run_load1 ty3 rfl (hs.c1 hzg2)) ?_
            refine WL.val rfl (run_bF (run_gtr rfl rfl) (by omega)) ?_
            refine WL.nil ?_
            refine CW.cond rfl (fun h => ?_) (fun h => ?_)
            · cases h
            refine CW.skip ?_
            refine CW.reg ?_
            refine WL.val rfl (run_move) ?_
            refine WL.val rfl (run_add (c := ((i + 1 : Nat) : Int)) rfl rfl (by omega) (by omega)) ?_
            refine WL.val rfl (run_assign) ?_
            refine WL.nil ?_
            refine (show _ ∧ _ from ⟨rfl, _, ?_, i + 1, B.set n (z + 1), by omega, rfl, hB2, hs.tail, e1'.symm, rfl, rfl, rfl, trivial⟩)
            omega
          · have hobt := (T.up i _ hxi).resolve_left fun h => hu0 (hpu.symm.trans h)
            obtain ⟨k, y, hki, hky, hy1, hy2⟩ := hobt
            have hkl := (List.getElem?_eq_some_iff.1 hky).1
            have hobt : ∃ z, B[k]? = some z := ⟨_, List.getElem?_eq_getElem (by omega)⟩
            obtain ⟨z, hz⟩ := hobt
            have hat2 : k = l.length ∧ (splitR (r.p, r.d, r.x).1).1 = [] ∨ ∃ y : Tri, l[k]? = some y ∧ y.1 = (splitR (r.p, r.d, r.x).1).1 := .inr ⟨y, hky, hy1⟩
            have hobt : ∃ rk, R[k]? = some rk := ⟨_, List.getElem?_eq_getElem (by omega)⟩
            obtain ⟨rk, hrk⟩ := hobt
            have hyr : y = (rk.p, rk.d, rk.x) := by
              have h1 : l[k]? = some (rk.p, rk.d, rk.x) := by rw [← hl, absR, List.getElem?_map, hrk]; rfl
              rw [hky] at h1
              exact Option.some.inj h1
            have hkp : rk.p = pu := by rw [← hpu]; rw [hyr] at hy1; exact hy1
            have hkd : rk.d = true := by rw [hyr] at hy2; exact hy2
            have hfind := fun {L' w} (hs : Step [] L' w0 w) => find_spec (b := bu) (c := cu) (i := i) (k := k) (ps := (R.take i).map (·.p)) (p := pu) w (by rw [List.length_map, List.length_take]; omega) (by omega) (by omega) (fun j q hj => by
              rw [List.getElem?_map, List.getElem?_take] at hj
              split at hj
              · cases hq : R[j]? with
                | none => rw [hq] at hj; cases hj
                | some rj =>
                  rw [hq] at hj
                  have hje : rj.p = q := by simpa using hj
                  have := (hrow hs hq).cell (j := 0) (v := str q) (by rw [← hje]; rfl)
                  exact this
              · cases hj) (by
              have h1 : (R.map (·.p)).Pairwise fun a b => lessP a b = true := by
                have h2 := T.so
                unfold SortT at h2
                rw [← hl, absR, List.pairwise_map] at h2
                rw [List.pairwise_map]
                exact h2
              rw [List.map_take]
              exact h1.sublist (List.take_sublist _ _)) (by
              rw [List.getElem?_map, List.getElem?_take, if_pos hki, hrk]
              exact congrArg some hkp) (fun q hq => by
              have hobt := List.mem_map.1 hq
              obtain ⟨rj, hj, rfl⟩ := hobt
              exact rj.hp)
            have hkc := fun {L' w} (hs : Step [] L' w0 w) => (hrow hs hrk).cell (j := 1) (v := .bool true) (by rw [← hkd]; rfl)
            refine CW.seq <| CW.seq ?_
            refine CW.reg ?_
            refine WL.val rfl (run_move) ?_
            refine WL.val rfl (run_bT (run_strNe rfl rfl) (by exact hu0)) ?_
            refine WL.nil ?_
            refine CW.cond rfl (fun h => ?_) (fun h => ?_)
            · refine CW.seq ?_
              refine CW.reg ?_
              refine WL.val rfl (run_move) ?_
              refine WL.val rfl (run_move) ?_
              refine WL.val rfl (run_sliceSl0 (hi := i) (m := cu) Tryd.underlying40 ty50 rfl rfl rfl (by simp) (by omega) (Nat.le_refl _)) ?_
              refine WL.val rfl (run_move) ?_
              refine WL.enter rfl (run_call en48 rfl rfl) (hfind hs) ?_
              rintro e w ⟨rfl, hq⟩
              refine ⟨_, rfl, ?_⟩
              replace hs := hs.callE hq
              refine WL.val rfl (run_assign) ?_
              refine WL.nil ?_
              refine CW.seq ?_
              refine CW.reg ?_
              refine WL.val rfl (run_move) ?_
              refine WL.val rfl (run_bF (run_lss rfl rfl) (by omega)) ?_
              refine WL.val rfl (run_move) ?_
              refine WL.yes rfl rfl rfl ?_; refine WL.val rfl (run_move) ?_
              refine WL.yes rfl rfl rfl ?_; refine WL.val rfl (run_move) ?_
              refine WL.yes rfl rfl rfl ?_; (first | refine WL.val rfl (run_ixSlN Tryd.underlying40 ty50 rfl rfl (by omega)) ?_ | refine WL.val rfl (run_ixSl Tryd.underlying40 ty50 rfl rfl (by omega)) ?_)
              refine WL.yes rfl rfl rfl ?_; refine WL.val rfl (run_field (o' := 1) Tryd.underlying50 rfl ty4 rfl rfl rfl) ?_
              refine WL.yes rfl rfl rfl ?_
              refine WL.val rfl (run_load1 ty4 rfl (hkc hs)) ?_
              refine WL.yes rfl rfl rfl ?_; (first | refine WL.val rfl (run_notB rfl) ?_ | refine WL.val rfl (run_not rfl) ?_)
              refine WL.val rfl (run_pickF rfl) ?_
              refine WL.nil ?_
              refine CW.cond rfl (fun h2 => ?_) (fun h2 => ?_)
              · cases h2
              have hobt := BInv.step T hB hxi hz hat2
              obtain ⟨hB2, hz1024⟩ := hobt
              have hset : (bC B).set (0 + k * 1) (.int .i64 ((z + 1 : Nat) : Int)) = bC (B.set k (z + 1)) := by rw [Nat.zero_add, Nat.mul_one, bC_set]
              have hatl := (List.getElem?_eq_some_iff.1 hz).1
              have hzg : (bC B)[0 + k * 1]? = some (.int .i64 (z : Nat)) := by rw [Nat.zero_add, Nat.mul_one]; exact bC_get hz
              repeat (first | refine CW.seq ?_ | refine CW.skip ?_)
              refine CW.reg ?_
              refine WL.val rfl (run_move) ?_
              refine WL.val rfl (run_move) ?_
              refine WL.val rfl (run_ixSlN Tryd.underlying22 ty3 rfl rfl (by omega)) ?_
              refine WL.val rfl (run_load1 ty3 rfl (hs.c1 hzg)) ?_
              refine WL.val rfl (run_add (c := ((z + 1 : Nat) : Int)) rfl rfl (by omega) (by omega)) ?_
              refine WL.val rfl (run_ixSlN Tryd.underlying22 ty3 rfl rfl (by omega)) ?_
              refine WL.store1_1 ty3 rfl rfl (rfl) hs (by first | (simp; done) | omega | (simp only [List.length_append, List.length_replicate, List.length_cons, List.length_nil, List.length_set]; omega) | (simp [Ent.cells, u8s]; done) | exact Nat.le_of_ble_eq_true rfl) (fun w hs => ?_)
              refine WL.nil ?_
              replace hs : Step [] [(b6, blk 50 r.enc), (b15, blk 3 (bC (B.set k (z + 1))))] w0 w := by rw [← hset]; exact hs
              have hzg2 : (bC (B.set k (z + 1)))[0 + k * 1]? = some (.int .i64 ((z + 1 : Nat) : Int)) := by rw [Nat.zero_add, Nat.mul_one]; exact bC_get (List.getElem?_set_self hatl)
              refine CW.seq ?_
              refine CW.reg ?_
              refine WL.val rfl (run_move) ?_
              refine WL.val rfl (run_move) ?_
              refine WL.val rfl (run_ixSlN Tryd.underlying22 ty3 rfl rfl (by omega)) ?_
              refine WL.val rfl (run_load1 ty3 rfl (hs.c1 hzg2)) ?_
              refine WL.val rfl (run_bF (run_gtr rfl rfl) (by omega)) ?_
              refine WL.nil ?_
              refine CW.cond rfl (fun h => ?_) (fun h => ?_)
              · cases h
              refine CW.skip ?_
              refine CW.reg ?_
              refine WL.val rfl (run_move) ?_
              refine WL.val rfl (run_add (c := ((i + 1 : Nat) : Int)) rfl rfl (by omega) (by omega)) ?_
              refine WL.val rfl (run_assign) ?_
              refine WL.nil ?_
              refine (show _ ∧ _ from ⟨rfl, _, ?_, i + 1, B.set k (z + 1), by omega, rfl, hB2, hs.tail, e1'.symm, rfl, rfl, rfl, trivial⟩)
              omega
            · cases h
        · repeat (first | refine CW.seq ?_ | refine CW.skip ?_)
          refine CW.reg ?_
          refine WL.val rfl (run_field (o' := 1) Tryd.underlying50 rfl ty4 rfl rfl rfl) ?_
          refine WL.val rfl (run_load1 ty4 rfl (hs.c0 (v := .bool false) (by show some (Value.bool r.d) = _; rw [hdd]))) ?_
          refine WL.val rfl (run_move) ?_
          refine WL.no rfl rfl rfl (.inl rfl) ?_
          refine WL.no rfl rfl rfl (.inl rfl) ?_
          refine WL.no rfl rfl rfl (.inl rfl) ?_
          refine WL.no rfl rfl rfl (.inl rfl) ?_
          refine WL.val rfl (run_pickF rfl) ?_
          refine WL.val rfl (run_move) ?_
          refine WL.yes rfl rfl rfl ?_; refine WL.val rfl (run_field (o' := 2) Tryd.underlying50 rfl ty34 rfl rfl rfl) ?_
          refine WL.yes rfl rfl rfl ?_
          refine WL.val rfl (run_load1 ty34 rfl (hs.c0 (v := .slice ax r.x.length cx) hev)) ?_
          refine WL.yes rfl rfl rfl ?_; refine WL.val rfl (run_lenSl Tryd.underlying34 rfl) ?_
          refine WL.yes rfl rfl rfl ?_
          refine WL.val rfl (run_bF (run_gtr rfl rfl) (by omega)) ?_
          refine WL.val rfl (run_pickF rfl) ?_
          refine WL.nil ?_
          refine CW.cond rfl (fun h => ?_) (fun h => ?_)
          · cases h
          repeat (first | refine CW.seq ?_ | refine CW.skip ?_)
          refine CW.reg ?_
          refine WL.val rfl (run_move) ?_
          refine WL.val rfl (run_field (o' := 2) Tryd.underlying50 rfl ty34 rfl rfl rfl) ?_
          refine WL.val rfl (run_load1 ty34 rfl (hs.c0 (v := .slice ax r.x.length cx) hev)) ?_
          refine WL.val rfl (run_lenSl Tryd.underlying34 rfl) ?_
          refine WL.val rfl (run_add (c := ((((l.take (i + 1)).map (·.2.2.length)).sum : Nat) : Int)) rfl rfl (by omega) (by omega)) ?_
          refine WL.val rfl (run_assign) ?_
          refine WL.nil ?_
          refine CW.seq ?_
          refine CW.reg ?_
          refine WL.val rfl (run_move) ?_
          refine WL.val rfl (run_lenSl Tryd.underlying40 rfl) ?_
          refine WL.val rfl (run_assign) ?_
          refine WL.nil ?_
          refine CW.seq ?_
          refine CW.reg ?_
          refine WL.val rfl (run_field (o' := 0) Tryd.underlying50 rfl ty9 rfl rfl rfl) ?_
          refine WL.val rfl (run_load1 ty9 rfl (hs.c0 (v := str r.p) rfl)) ?_
          refine WL.enter rfl (run_call en47 rfl rfl) (hpar _) ?_
          rintro e w ⟨rfl, hq⟩
          refine ⟨_, rfl, ?_⟩
          replace hs := hs.callE hq
          refine WL.val rfl (run_assign) ?_
          refine WL.nil ?_
          by_cases hu0 : pu = []
          · have hobt : ∃ z, B[n]? = some z := ⟨_, List.getElem?_eq_getElem (by omega)⟩
            obtain ⟨z, hz⟩ := hobt
            have hat2 : n = l.length ∧ (splitR (r.p, r.d, r.x).1).1 = [] ∨ ∃ y : Tri, l[n]? = some y ∧ y.1 = (splitR (r.p, r.d, r.x).1).1 := .inl ⟨by omega, hpu.trans hu0⟩
            refine CW.seq <| CW.seq ?_
            refine CW.reg ?_
            refine WL.val rfl (run_move) ?_
            refine WL.val rfl (run_bF (run_strNe rfl rfl) (by exact fun h => h hu0)) ?_
            refine WL.nil ?_
            refine CW.cond rfl (fun h => ?_) (fun h => ?_)
            · cases h
            have hobt := BInv.step T hB hxi hz hat2
            obtain ⟨hB2, hz1024⟩ := hobt
            have hset : (bC B).set (0 + n * 1) (.int .i64 ((z + 1 : Nat) : Int)) = bC (B.set n (z + 1)) := by rw [Nat.zero_add, Nat.mul_one, bC_set]
            have hatl := (List.getElem?_eq_some_iff.1 hz).1
            have hzg : (bC B)[0 + n * 1]? = some (.int .i64 (z : Nat)) := by rw [Nat.zero_add, Nat.mul_one]; exact bC_get hz
            repeat (first | refine CW.seq ?_ | refine CW.skip ?_)
            refine CW.reg ?_
            refine WL.val rfl (run_move) ?_
            refine WL.val rfl (run_move) ?_
            refine WL.val rfl (run_ixSlN Tryd.underlying22 ty3 rfl rfl (by omega)) ?_
            refine WL.val rfl (run_load1 ty3 rfl (hs.c1 hzg)) ?_
            refine WL.val rfl (run_add (c := ((z + 1 : Nat) : Int)) rfl rfl (by omega) (by omega)) ?_
            refine WL.val rfl (run_ixSlN Tryd.underlying22 ty3 rfl rfl (by omega)) ?_
            refine WL.store1_1 ty3 rfl rfl (rfl) hs (by first | (simp; done) | omega | (simp only [List.length_append, List.length_replicate, List.length_cons, List.length_nil, List.length_set]; omega) | (simp [Ent.cells, u8s]; done) | exact Nat.le_of_ble_eq_true rfl) (fun w hs => ?_)
            refine WL.nil ?_
            replace hs : Step [] [(b6, blk 50 r.enc), (b15, blk 3 (bC (B.set n (z + 1))))] w0 w := by rw [← hset]; exact hs
            have hzg2 : (bC (B.set n (z + 1)))[0 + n * 1]? = some (.int .i64 ((z + 1 : Nat) : Int)) := by rw [Nat.zero_add, Nat.mul_one]; exact bC_get (List.getElem?_set_self hatl)
            refine CW.seq ?_
            refine CW.reg ?_
            refine WL.val rfl (run_move) ?_
            refine WL.val rfl (run_move) ?_
            refine WL.val rfl (run_ixSlN Tryd.underlying22 ty3 rfl rfl (by omega)) ?_
            refine WL.val rfl (run_load1 ty3 rfl (hs.c1 hzg2)) ?_
            refine WL.val rfl (run_bF (run_gtr rfl rfl) (by omega)) ?_
            refine WL.nil ?_
            refine CW.cond rfl (fun h => ?_) (fun h => ?_)
            · cases h
            refine CW.skip ?_
            refine CW.reg ?_
            refine WL.val rfl (run_move) ?_
            refine WL.val rfl (run_add (c := ((i + 1 : Nat) : Int)) rfl rfl (by omega) (by omega)) ?_
            refine WL.val rfl (run_assign) ?_
            refine WL.nil ?_
            refine (show _ ∧ _ from ⟨rfl, _, ?_, i + 1, B.set n (z + 1), by omega, rfl, hB2, hs.tail, e1'.symm, rfl, rfl, rfl, trivial⟩)
            omega
          · have hobt := (T.up i _ hxi).resolve_left fun h => hu0 (hpu.symm.trans h)
            obtain ⟨k, y, hki, hky, hy1, hy2⟩ := hobt
            have hkl := (List.getElem?_eq_some_iff.1 hky).1
            have hobt : ∃ z, B[k]? = some z := ⟨_, List.getElem?_eq_getElem (by omega)⟩
            obtain ⟨z, hz⟩ := hobt
            have hat2 : k = l.length ∧ (splitR (r.p, r.d, r.x).1).1 = [] ∨ ∃ y : Tri, l[k]? = some y ∧ y.1 = (splitR (r.p, r.d, r.x).1).1 := .inr ⟨y, hky, hy1⟩
            have hobt : ∃ rk, R[k]? = some rk := ⟨_, List.getElem?_eq_getElem (by omega)⟩
            obtain ⟨rk, hrk⟩ := hobt
            have hyr : y = (rk.p, rk.d, rk.x) := by
              have h1 : l[k]? = some (rk.p, rk.d, rk.x) := by rw [← hl, absR, List.getElem?_map, hrk]; rfl
              rw [hky] at h1
              exact Option.some.inj h1
            have hkp : rk.p = pu := by rw [← hpu]; rw [hyr] at hy1; exact hy1
            have hkd : rk.d = true := by rw [hyr] at hy2; exact hy2
            have hfind := fun {L' w} (hs : Step [] L' w0 w) => find_spec (b := bu) (c := cu) (i := i) (k := k) (ps := (R.take i).map (·.p)) (p := pu) w (by rw [List.length_map, List.length_take]; omega) (by omega) (by omega) (fun j q hj => by
              rw [List.getElem?_map, List.getElem?_take] at hj
              split at hj
              · cases hq : R[j]? with
                | none => rw [hq] at hj; cases hj
                | some rj =>
                  rw [hq] at hj
                  have hje : rj.p = q := by simpa using hj
                  have := (hrow hs hq).cell (j := 0) (v := str q) (by rw [← hje]; rfl)
                  exact this
              · cases hj) (by
              have h1 : (R.map (·.p)).Pairwise fun a b => lessP a b = true := by
                have h2 := T.so
                unfold SortT at h2
                rw [← hl, absR, List.pairwise_map] at h2
                rw [List.pairwise_map]
                exact h2
              rw [List.map_take]
              exact h1.sublist (List.take_sublist _ _)) (by
              rw [List.getElem?_map, List.getElem?_take, if_pos hki, hrk]
              exact congrArg some hkp) (fun q hq => by
              have hobt := List.mem_map.1 hq
              obtain ⟨rj, hj, rfl⟩ := hobt
              exact rj.hp)
            have hkc := fun {L' w} (hs : Step [] L' w0 w) => (hrow hs hrk).cell (j := 1) (v := .bool true) (by rw [← hkd]; rfl)
            refine CW.seq <| CW.seq ?_
            refine CW.reg ?_
            refine WL.val rfl (run_move) ?_
            refine WL.val rfl (run_bT (run_strNe rfl rfl) (by exact hu0)) ?_
            refine WL.nil ?_
            refine CW.cond rfl (fun h => ?_) (fun h => ?_)
            · refine CW.seq ?_
              refine CW.reg ?_
              refine WL.val rfl (run_move) ?_
              refine WL.val rfl (run_move) ?_
              refine WL.val rfl (run_sliceSl0 (hi := i) (m := cu) Tryd.underlying40 ty50 rfl rfl rfl (by simp) (by omega) (Nat.le_refl _)) ?_
              refine WL.val rfl (run_move) ?_
              refine WL.enter rfl (run_call en48 rfl rfl) (hfind hs) ?_
              rintro e w ⟨rfl, hq⟩
              refine ⟨_, rfl, ?_⟩
              replace hs := hs.callE hq
              refine WL.val rfl (run_assign) ?_
              refine WL.nil ?_
              refine CW.seq ?_
              refine CW.reg ?_
              refine WL.val rfl (run_move) ?_
              refine WL.val rfl (run_bF (run_lss rfl rfl) (by omega)) ?_
              refine WL.val rfl (run_move) ?_
              refine WL.yes rfl rfl rfl ?_; refine WL.val rfl (run_move) ?_
              refine WL.yes rfl rfl rfl ?_; refine WL.val rfl (run_move) ?_
              refine WL.yes rfl rfl rfl ?_; (first | refine WL.val rfl (run_ixSlN Tryd.underlying40 ty50 rfl rfl (by omega)) ?_ | refine WL.val rfl (run_ixSl Tryd.underlying40 ty50 rfl rfl (by omega)) ?_)
              refine WL.yes rfl rfl rfl ?_; refine WL.val rfl (run_field (o' := 1) Tryd.underlying50 rfl ty4 rfl rfl rfl) ?_
              refine WL.yes rfl rfl rfl ?_
              refine WL.val rfl (run_load1 ty4 rfl (hkc hs)) ?_
              refine WL.yes rfl rfl rfl ?_; (first | refine WL.val rfl (run_notB rfl) ?_ | refine WL.val rfl (run_not rfl) ?_)
              refine WL.val rfl (run_pickF rfl) ?_
              refine WL.nil ?_
              refine CW.cond rfl (fun h2 => ?_) (fun h2 => ?_)
              · cases h2
              have hobt := BInv.step T hB hxi hz hat2
              obtain ⟨hB2, hz1024⟩ := hobt
              have hset : (bC B).set (0 + k * 1) (.int .i64 ((z + 1 : Nat) : Int)) = bC (B.set k (z + 1)) := by rw [Nat.zero_add, Nat.mul_one, bC_set]
              have hatl := (List.getElem?_eq_some_iff.1 hz).1
              have hzg : (bC B)[0 + k * 1]? = some (.int .i64 (z : Nat)) := by rw [Nat.zero_add, Nat.mul_one]; exact bC_get hz
              repeat (first | refine CW.seq ?_ | refine CW.skip ?_)
              refine CW.reg ?_
              refine WL.val rfl (run_move) ?_
              refine WL.val rfl (run_move) ?_
              refine WL.val rfl (run_ixSlN Tryd.underlying22 ty3 rfl rfl (by omega)) ?_
              refine WL.val rfl (run_load1 ty3 rfl (hs.c1 hzg)) ?_
              refine WL.val rfl (run_add (c := ((z + 1 : Nat) : Int)) rfl rfl (by omega) (by omega)) ?_
              refine WL.val rfl (run_ixSlN Tryd.underlying22 ty3 rfl rfl (by omega)) ?_
              refine WL.store1_1 ty3 rfl rfl (rfl) hs (by first | (simp; done) | omega | (simp only [List.length_append, List.length_replicate, List.length_cons, List.length_nil, List.length_set]; omega) | (simp [Ent.cells, u8s]; done) | exact Nat.le_of_ble_eq_true rfl) (fun w hs => ?_)
              refine WL.nil ?_
              replace hs : Step [] [(b6, blk 50 r.enc), (b15, blk 3 (bC (B.set k (z + 1))))] w0 w := by rw [← hset]; exact hs
              have hzg2 : (bC (B.set k (z + 1)))[0 + k * 1]? = some (.int .i64 ((z + 1 : Nat) : Int)) := by rw [Nat.zero_add, Nat.mul_one]; exact bC_get (List.getElem?_set_self hatl)
              refine CW.seq ?_
              refine CW.reg ?_
              refine WL.val rfl (run_move) ?_
              refine WL.val rfl (run_move) ?_
              refine WL.val rfl (run_ixSlN Tryd.underlying22 ty3 rfl rfl (by omega)) ?_
              refine WL.val rfl (run_load1 ty3 rfl (hs.c1 hzg2)) ?_
              refine WL.val rfl (run_bF (run_gtr rfl rfl) (by omega)) ?_
              refine WL.nil ?_
              refine CW.cond rfl (fun h => ?_) (fun h => ?_)
              · cases h
              refine CW.skip ?_
              refine CW.reg ?_
              refine WL.val rfl (run_move) ?_
              refine WL.val rfl (run_add (c := ((i + 1 : Nat) : Int)) rfl rfl (by omega) (by omega)) ?_
              refine WL.val rfl (run_assign) ?_
              refine WL.nil ?_
              refine (show _ ∧ _ from ⟨rfl, _, ?_, i + 1, B.set k (z + 1), by omega, rfl, hB2, hs.tail, e1'.symm, rfl, rfl, rfl, trivial⟩)
              omega
            · cases h
      · have hobt : ∃ q, R[i - 1]? = some q := ⟨_, List.getElem?_eq_getElem (by omega)⟩
        obtain ⟨q, hq⟩ := hobt
        have hlp : lessP q.p r.p = true := by
          have hq2 : l[i - 1]? = some (q.p, q.d, q.x) := by rw [← hl, absR, List.getElem?_map, hq]; rfl
          have hobt := List.getElem?_eq_some_iff.1 hq2
          obtain ⟨h3, h4⟩ := hobt
          have hobt := List.getElem?_eq_some_iff.1 hxi
          obtain ⟨h5, h6⟩ := hobt
          have := List.pairwise_iff_getElem.1 T.so (i - 1) i h3 h5 (by omega)
          rw [h4, h6] at this
          exact this
        have hqp := q.hp
        have hless := fun w => refLessP_spec (s := q.p) (t := r.p) w (by omega) (by omega)
        simp only [hlp] at hless
        have hqc := fun {L' w} (hs : Step [] L' w0 w) => (hrow hs hq).cell (j := 0) (v := str q.p) rfl
        refine CW.seq <| CW.seq ?_
        refine CW.quiet mixedP (by kernel_rfl) hs ?_
        refine QL.val rfl (fun w hs => run_field (o' := 0) Tryd.underlying50 rfl ty9 rfl rfl rfl) ?_
        refine QL.val rfl (fun w hs => run_load1 ty9 rfl (hs.c0 (v := str r.p) rfl)) ?_
        refine QL.val rfl (fun w hs => run_bF (run_strEq rfl rfl) (by exact hrn)) ?_
        refine QL.val rfl (fun w hs => run_move) ?_
        refine QL.yes rfl rfl rfl ?_; refine QL.val rfl (fun w hs => run_field (o' := 0) Tryd.underlying50 rfl ty9 rfl rfl rfl) ?_
        refine QL.yes rfl rfl rfl ?_
        refine QL.val rfl (fun w hs => run_load1 ty9 rfl (hs.c0 (v := str r.p) rfl)) ?_
        refine QL.yes rfl rfl rfl ?_
        refine QL.enter rfl (fun w => run_call en45 rfl rfl) (fun w hs => hcl1 _) ?_
        refine QL.yes rfl rfl rfl ?_; (first | refine QL.val rfl (fun w hs => run_notB rfl) ?_ | refine QL.val rfl (fun w hs => run_not rfl) ?_)
        refine QL.val rfl (fun w hs => run_pickF rfl) ?_
        refine QL.val rfl (fun w hs => run_move) ?_
        refine QL.yes rfl rfl rfl ?_; refine QL.val rfl (fun w hs => run_move) ?_
        refine QL.yes rfl rfl rfl ?_
        refine QL.val rfl (fun w hs => run_bT (run_gtr rfl rfl) (by omega)) ?_
        refine QL.yes rfl rfl rfl ?_; refine QL.val rfl (fun w hs => run_move) ?_
        refine QL.yes rfl rfl rfl ?_; refine QL.val rfl (fun w hs => run_move) ?_
        refine QL.yes rfl rfl rfl ?_; refine QL.val rfl (fun w hs => run_move) ?_
        refine QL.yes rfl rfl rfl ?_
        refine QL.val rfl (fun w hs => run_sub (c := ((i - 1 : Nat) : Int)) rfl rfl (by omega) (by omega)) ?_
        refine QL.yes rfl rfl rfl ?_; (first | refine QL.val rfl (fun w hs => run_ixSlN Tryd.underlying40 ty50 rfl rfl (by omega)) ?_ | refine QL.val rfl (fun w hs => run_ixSl Tryd.underlying40 ty50 rfl rfl (by omega)) ?_)
        refine QL.yes rfl rfl rfl ?_; refine QL.val rfl (fun w hs => run_field (o' := 0) Tryd.underlying50 rfl ty9 rfl rfl rfl) ?_
        refine QL.yes rfl rfl rfl ?_
        refine QL.val rfl (fun w hs => run_load1 ty9 rfl (hqc hs)) ?_
        refine QL.yes rfl rfl rfl ?_; refine QL.val rfl (fun w hs => run_field (o' := 0) Tryd.underlying50 rfl ty9 rfl rfl rfl) ?_
        refine QL.yes rfl rfl rfl ?_
        refine QL.val rfl (fun w hs => run_load1 ty9 rfl (hs.c0 (v := str r.p) rfl)) ?_
        refine QL.yes rfl rfl rfl ?_
        refine QL.enter rfl (fun w => run_call en46 rfl rfl) (fun w hs => hless _) ?_
        refine QL.yes rfl rfl rfl ?_; (first | refine QL.val rfl (fun w hs => run_notB rfl) ?_ | refine QL.val rfl (fun w hs => run_not rfl) ?_)
        refine QL.yes rfl rfl rfl ?_; (first | refine QL.val rfl (fun w hs => run_pickT rfl) ?_ | refine QL.val rfl (fun w hs => run_pickF rfl) ?_)
        refine QL.val rfl (fun w hs => run_pickF rfl) ?_
        refine QL.nil (fun w hs => ?_)
        refine CW.cond rfl (fun h2 => ?_) (fun h2 => ?_)
        · cases h2
        rcases hdb with hdd | hdd
        · have hx0 : r.x.length = 0 := by rw [hdx hdd]; rfl
          repeat (first | refine CW.seq ?_ | refine CW.skip ?_)
          refine CW.reg ?_
          refine WL.val rfl (run_field (o' := 1) Tryd.underlying50 rfl ty4 rfl rfl rfl) ?_
          refine WL.val rfl (run_load1 ty4 rfl (hs.c0 (v := .bool true) (by show some (Value.bool r.d) = _; rw [hdd]))) ?_
          refine WL.val rfl (run_move) ?_
          refine WL.yes rfl rfl rfl ?_; refine WL.val rfl (run_field (o' := 2) Tryd.underlying50 rfl ty34 rfl rfl rfl) ?_
          refine WL.yes rfl rfl rfl ?_
          refine WL.val rfl (run_load1 ty34 rfl (hs.c0 (v := .slice ax r.x.length cx) hev)) ?_
          refine WL.yes rfl rfl rfl ?_; refine WL.val rfl (run_lenSl Tryd.underlying34 rfl) ?_
          refine WL.yes rfl rfl rfl ?_
          refine WL.val rfl (run_bF (run_gtr rfl rfl) (by omega)) ?_
          refine WL.val rfl (run_pickT rfl) ?_
          refine WL.val rfl (run_move) ?_
          refine WL.yes rfl rfl rfl ?_; refine WL.val rfl (run_field (o' := 2) Tryd.underlying50 rfl ty34 rfl rfl rfl) ?_
          refine WL.yes rfl rfl rfl ?_
          refine WL.val rfl (run_load1 ty34 rfl (hs.c0 (v := .slice ax r.x.length cx) hev)) ?_
          refine WL.yes rfl rfl rfl ?_; refine WL.val rfl (run_lenSl Tryd.underlying34 rfl) ?_
          refine WL.yes rfl rfl rfl ?_
          refine WL.val rfl (run_bF (run_gtr rfl rfl) (by omega)) ?_
          refine WL.val rfl (run_pickF rfl) ?_
          refine WL.nil ?_
          refine CW.cond rfl (fun h => ?_) (fun h => ?_)
          · cases h
          repeat (first | refine CW.seq ?_ | refine CW.skip ?_)
          refine CW.reg ?_
          refine WL.val rfl (run_move) ?_
          refine WL.val rfl (run_field (o' := 2) Tryd.underlying50 rfl ty34 rfl rfl rfl) ?_
          refine WL.val rfl (run_load1 ty34 rfl (hs.c0 (v := .slice ax r.x.length cx) hev)) ?_
          refine WL.val rfl (run_lenSl Tryd.underlying34 rfl) ?_
          refine WL.val rfl (run_add (c := ((((l.take (i + 1)).map (·.2.2.length)).sum : Nat) : Int)) rfl rfl (by omega) (by omega)) ?_
          refine WL.val rfl (run_assign) ?_
          refine WL.nil ?_
          refine CW.seq ?_
          refine CW.reg ?_
          refine WL.val rfl (run_move) ?_
          refine WL.val rfl (run_lenSl Tryd.underlying40 rfl) ?_
          refine WL.val rfl (run_assign) ?_
          refine WL.nil ?_
          refine CW.seq ?_
          refine CW.reg ?_
          refine WL.val rfl (run_field (o' := 0) Tryd.underlying50 rfl ty9 rfl rfl rfl) ?_
          refine WL.val rfl (run_load1 ty9 rfl (hs.c0 (v := str r.p) rfl)) ?_
          refine WL.enter rfl (run_call en47 rfl rfl) (hpar _) ?_
          rintro e w ⟨rfl, hq⟩
          refine ⟨_, rfl, ?_⟩
          replace hs := hs.callE hq
          refine WL.val rfl (run_assign) ?_
          refine WL.nil ?_
          by_cases hu0 : pu = []
          · have hobt : ∃ z, B[n]? = some z := ⟨_, List.getElem?_eq_getElem (by omega)⟩
            obtain ⟨z, hz⟩ := hobt
            have hat2 : n = l.length ∧ (splitR (r.p, r.d, r.x).1).1 = [] ∨ ∃ y : Tri, l[n]? = some y ∧ y.1 = (splitR (r.p, r.d, r.x).1).1 := .inl ⟨by omega, hpu.trans hu0⟩
            refine CW.seq <| CW.seq ?_
            refine CW.reg ?_
            refine WL.val rfl (run_move) ?_
            refine WL.val rfl (run_bF (run_strNe rfl rfl) (by exact fun h => h hu0)) ?_
            refine WL.nil ?_
            refine CW.cond rfl (fun h => ?_) (fun h => ?_)
            · cases h
            have hobt := BInv.step T hB hxi hz hat2
            obtain ⟨hB2, hz1024⟩ := hobt
            have hset : (bC B).set (0 + n * 1) (.int .i64 ((z + 1 : Nat) : Int)) = bC (B.set n (z + 1)) := by rw [Nat.zero_add, Nat.mul_one, bC_set]
            have hatl := (List.getElem?_eq_some_iff.1 hz).1
            have hzg : (bC B)[0 + n * 1]? = some (.int .i64 (z : Nat)) := by rw [Nat.zero_add, Nat.mul_one]; exact bC_get hz
            repeat (first | refine CW.seq ?_ | refine CW.skip ?_)
            refine CW.reg ?_
            refine WL.val rfl (run_move) ?_
            refine WL.val rfl (run_move) ?_
            refine WL.val rfl (run_ixSlN Tryd.underlying22 ty3 rfl rfl (by omega)) ?_
            refine WL.val rfl (run_load1 ty3 rfl (hs.c1 hzg)) ?_
            refine WL.val rfl (run_add (c := ((z + 1 : Nat) : Int)) rfl rfl (by omega) (by omega)) ?_
            refine WL.val rfl (run_ixSlN Tryd.underlying22 ty3 rfl rfl (by omega)) ?_
            refine WL.store1_1 ty3 rfl rfl (rfl) hs (by first | (simp; done) | omega | (simp only [List.length_append, List.length_replicate, List.length_cons, List.length_nil, List.length_set]; omega) | (simp [Ent.cells, u8s]; done) | exact Nat.le_of_ble_eq_true rfl) (fun w hs => ?_)
            refine WL.nil ?_
            replace hs : Step [] [(b6, blk 50 r.enc), (b15, blk 3 (bC (B.set n (z + 1))))] w0 w := by rw [← hset]; exact hs
            have hzg2 : (bC (B.set n (z + 1)))[0 + n * 1]? = some (.int .i64 ((z + 1 : Nat) : Int)) := by rw [Nat.zero_add, Nat.mul_one]; exact bC_get (List.getElem?_set_self hatl)
            refine CW.seq ?_
            refine CW.reg ?_
            refine WL.val rfl (run_move) ?_
            refine WL.val rfl (run_move) ?_
            refine WL.val rfl (run_ixSlN Tryd.underlying22 ty3 rfl rfl (by omega)) ?_
            refine WL.val rfl (run_load1 ty3 rfl (hs.c1 hzg2)) ?_
            refine WL.val rfl (run_bF (run_gtr rfl rfl) (by omega)) ?_
            refine WL.nil ?_
            refine CW.cond rfl (fun h => ?_) (fun h => ?_)
            · cases h
            refine CW.skip ?_
            refine CW.reg ?_
            refine WL.val rfl (run_move) ?_
            refine WL.val rfl (run_add (c := ((i + 1 : Nat) : Int)) rfl rfl (by omega) (by omega)) ?_
            refine WL.val rfl (run_assign) ?_
            refine WL.nil ?_
            refine (show _ ∧ _ from ⟨rfl, _, ?_, i + 1, B.set n (z + 1), by omega, rfl, hB2, hs.tail, e1'.symm, rfl, rfl, rfl, trivial⟩)
            omega
          · have hobt := (T.up i _ hxi).resolve_left fun h => hu0 (hpu.symm.trans h)
            obtain ⟨k, y, hki, hky, hy1, hy2⟩ := hobt
            have hkl := (List.getElem?_eq_some_iff.1 hky).1
            have hobt : ∃ z, B[k]? = some z := ⟨_, List.getElem?_eq_getElem (by omega)⟩
            obtain ⟨z, hz⟩ := hobt
            have hat2 : k = l.length ∧ (splitR (r.p, r.d, r.x).1).1 = [] ∨ ∃ y : Tri, l[k]? = some y ∧ y.1 = (splitR (r.p, r.d, r.x).1).1 := .inr ⟨y, hky, hy1⟩
            have hobt : ∃ rk, R[k]? = some rk := ⟨_, List.getElem?_eq_getElem (by omega)⟩
            obtain ⟨rk, hrk⟩ := hobt
            have hyr : y = (rk.p, rk.d, rk.x) := by
              have h1 : l[k]? = some (rk.p, rk.d, rk.x) := by rw [← hl, absR, List.getElem?_map, hrk]; rfl
              rw [hky] at h1
              exact Option.some.inj h1
            have hkp : rk.p = pu := by rw [← hpu]; rw [hyr] at hy1; exact hy1
            have hkd : rk.d = true := by rw [hyr] at hy2; exact hy2
            have hfind := fun {L' w} (hs : Step [] L' w0 w) => find_spec (b := bu) (c := cu) (i := i) (k := k) (ps := (R.take i).map (·.p)) (p := pu) w (by rw [List.length_map, List.length_take]; omega) (by omega) (by omega) (fun j q hj => by
              rw [List.getElem?_map, List.getElem?_take] at hj
              split at hj
              · cases hq : R[j]? with
                | none => rw [hq] at hj; cases hj
                | some rj =>
                  rw [hq] at hj
                  have hje : rj.p = q := by simpa using hj
                  have := (hrow hs hq).cell (j := 0) (v := str q) (by rw [← hje]; rfl)
                  exact this
              · cases hj) (by
              have h1 : (R.map (·.p)).Pairwise fun a b => lessP a b = true := by
                have h2 := T.so
                unfold SortT at h2
                rw [← hl, absR, List.pairwise_map] at h2
                rw [List.pairwise_map]
                exact h2
              rw [List.map_take]
              exact h1.sublist (List.take_sublist _ _)) (by
              rw [List.getElem?_map, List.getElem?_take, if_pos hki, hrk]
              exact congrArg some hkp) (fun q hq => by
              have hobt := List.mem_map.1 hq
              obtain ⟨rj, hj, rfl⟩ := hobt
              exact rj.hp)
            have hkc := fun {L' w} (hs : Step [] L' w0 w) => (hrow hs hrk).cell (j := 1) (v := .bool true) (by rw [← hkd]; rfl)
            refine CW.seq <| CW.seq ?_
            refine CW.reg ?_
            refine WL.val rfl (run_move) ?_
            refine WL.val rfl (run_bT (run_strNe rfl rfl) (by exact hu0)) ?_
            refine WL.nil ?_
            refine CW.cond rfl (fun h => ?_) (fun h => ?_)
            · refine CW.seq ?_
              refine CW.reg ?_
              refine WL.val rfl (run_move) ?_
              refine WL.val rfl (run_move) ?_
              refine WL.val rfl (run_sliceSl0 (hi := i) (m := cu) Tryd.underlying40 ty50 rfl rfl rfl (by simp) (by omega) (Nat.le_refl _)) ?_
              refine WL.val rfl (run_move) ?_
              refine WL.enter rfl (run_call en48 rfl rfl) (hfind hs) ?_
              rintro e w ⟨rfl, hq⟩
              refine ⟨_, rfl, ?_⟩
              replace hs := hs.callE hq
              refine WL.val rfl (run_assign) ?_
              refine WL.nil ?_
              refine CW.seq ?_
              refine CW.reg ?_
              refine WL.val rfl (run_move) ?_
              refine WL.val rfl (run_bF (run_lss rfl rfl) (by omega)) ?_
              refine WL.val rfl (run_move) ?_
              refine WL.yes rfl rfl rfl ?_; refine WL.val rfl (run_move) ?_
              refine WL.yes rfl rfl rfl ?_; refine WL.val rfl (run_move) ?_
              refine WL.yes rfl rfl rfl ?_; (first | refine WL.val rfl (run_ixSlN Tryd.underlying40 ty50 rfl rfl (by omega)) ?_ | refine WL.val rfl (run_ixSl Tryd.underlying40 ty50 rfl rfl (by omega)) ?_)
              refine WL.yes rfl rfl rfl ?_; refine WL.val rfl (run_field (o' := 1) Tryd.underlying50 rfl ty4 rfl rfl rfl) ?_
              refine WL.yes rfl rfl rfl ?_
              refine WL.val rfl (run_load1 ty4 rfl (hkc hs)) ?_
              refine WL.yes rfl rfl rfl ?_; (first | refine WL.val rfl (run_notB rfl) ?_ | refine WL.val rfl (run_not rfl) ?_)
              refine WL.val rfl (run_pickF rfl) ?_
              refine WL.nil ?_
              refine CW.cond rfl (fun h2 => ?_) (fun h2 => ?_)
              · cases h2
              have hobt := BInv.step T hB hxi hz hat2
              obtain ⟨hB2, hz1024⟩ := hobt
              have hset : (bC B).set (0 + k * 1) (.int .i64 ((z + 1 : Nat) : Int)) = bC (B.set k (z + 1)) := by rw [Nat.zero_add, Nat.mul_one, bC_set]
              have hatl := (List.getElem?_eq_some_iff.1 hz).1
              have hzg : (bC B)[0 + k * 1]? = some (.int .i64 (z : Nat)) := by rw [Nat.zero_add, Nat.mul_one]; exact bC_get hz
              repeat (first | refine CW.seq ?_ | refine CW.skip ?_)
              refine CW.reg ?_
              refine WL.val rfl (run_move) ?_
              refine WL.val rfl (run_move) ?_
              refine WL.val rfl (run_ixSlN Tryd.underlying22 ty3 rfl rfl (by omega)) ?_
              refine WL.val rfl (run_load1 ty3 rfl (hs.c1 hzg)) ?_
              refine WL.val rfl (run_add (c := ((z + 1 : Nat) : Int)) rfl rfl (by omega) (by omega)) ?_
              refine WL.val rfl (run_ixSlN Tryd.underlying22 ty3 rfl rfl (by omega)) ?_
              refine WL.store1_1 ty3 rfl rfl (rfl) hs (by first | (simp; done) | omega | (simp only [List.length_append, List.length_replicate, List.length_cons, List.length_nil, List.length_set]; omega) | (simp [Ent.cells, u8s]; done) | exact Nat.le_of_ble_eq_true rfl) (fun w hs => ?_)
              refine WL.nil ?_
              replace hs : Step [] [(b6, blk 50 r.enc), (b15, blk 3 (bC (B.set k (z + 1))))] w0 w := by rw [← hset]; exact hs
              have hzg2 : (bC (B.set k (z + 1)))[0 + k * 1]? = some (.int .i64 ((z + 1 : Nat) : Int)) := by rw [Nat.zero_add, Nat.mul_one]; exact bC_get (List.getElem?_set_self hatl)
              refine CW.seq ?_
              refine CW.reg ?_
              refine WL.val rfl (run_move) ?_
              refine WL.val rfl (run_move) ?_
              refine WL.val rfl (run_ixSlN Tryd.underlying22 ty3 rfl rfl (by omega)) ?_
              refine WL.val rfl (run_load1 ty3 rfl (hs.c1 hzg2)) ?_
              refine WL.val rfl (run_bF (run_gtr rfl rfl) (by omega)) ?_
              refine WL.nil ?_
              refine CW.cond rfl (fun h => ?_) (fun h => ?_)
              · cases h
              refine CW.skip ?_
              refine CW.reg ?_
              refine WL.val rfl (run_move) ?_
              refine WL.val rfl (run_add (c := ((i + 1 : Nat) : Int)) rfl rfl (by omega) (by omega)) ?_
              refine WL.val rfl (run_assign) ?_
              refine WL.nil ?_
              refine (show _ ∧ _ from ⟨rfl, _, ?_, i + 1, B.set k (z + 1), by omega, rfl, hB2, hs.tail, e1'.symm, rfl, rfl, rfl, trivial⟩)
              omega
            · cases h
        · repeat (first | refine CW.seq ?_ | refine CW.skip ?_)
          refine CW.reg ?_
          refine WL.val rfl (run_field (o' := 1) Tryd.underlying50 rfl ty4 rfl rfl rfl) ?_
          refine WL.val rfl (run_load1 ty4 rfl (hs.c0 (v := .bool false) (by show some (Value.bool r.d) = _; rw [hdd]))) ?_
          refine WL.val rfl (run_move) ?_
          refine WL.no rfl rfl rfl (.inl rfl) ?_
          refine WL.no rfl rfl rfl (.inl rfl) ?_
          refine WL.no rfl rfl rfl (.inl rfl) ?_
          refine WL.no rfl rfl rfl (.inl rfl) ?_
          refine WL.val rfl (run_pickF rfl) ?_
          refine WL.val rfl (run_move) ?_
          refine WL.yes rfl rfl rfl ?_; refine WL.val rfl (run_field (o' := 2) Tryd.underlying50 rfl ty34 rfl rfl rfl) ?_
          refine WL.yes rfl rfl rfl ?_
          refine WL.val rfl (run_load1 ty34 rfl (hs.c0 (v := .slice ax r.x.length cx) hev)) ?_
          refine WL.yes rfl rfl rfl ?_; refine WL.val rfl (run_lenSl Tryd.underlying34 rfl) ?_
          refine WL.yes rfl rfl rfl ?_
          refine WL.val rfl (run_bF (run_gtr rfl rfl) (by omega)) ?_
          refine WL.val rfl (run_pickF rfl) ?_
          refine WL.nil ?_
          refine CW.cond rfl (fun h => ?_) (fun h => ?_)
          · cases h
          repeat (first | refine CW.seq ?_ | refine CW.skip ?_)
          refine CW.reg ?_
          refine WL.val rfl (run_move) ?_
          refine WL.val rfl (run_field (o' := 2) Tryd.underlying50 rfl ty34 rfl rfl rfl) ?_
          refine WL.val rfl (run_load1 ty34 rfl (hs.c0 (v := .slice ax r.x.length cx) hev)) ?_
          refine WL.val rfl (run_lenSl Tryd.underlying34 rfl) ?_
          refine WL.val rfl (run_add (c := ((((l.take (i + 1)).map (·.2.2.length)).sum : Nat) : Int)) rfl rfl (by omega) (by omega)) ?_
          refine WL.val rfl (run_assign) ?_
          refine WL.nil ?_
          refine CW.seq ?_
          refine CW.reg ?_
          refine WL.val rfl (run_move) ?_
          refine WL.val rfl (run_lenSl Tryd.underlying40 rfl) ?_
          refine WL.val rfl (run_assign) ?_
          refine WL.nil ?_
          refine CW.seq ?_
          refine CW.reg ?_
          refine WL.val rfl (run_field (o' := 0) Tryd.underlying50 rfl ty9 rfl rfl rfl) ?_
          refine WL.val rfl (run_load1 ty9 rfl (hs.c0 (v := str r.p) rfl)) ?_
          refine WL.enter rfl (run_call en47 rfl rfl) (hpar _) ?_
          rintro e w ⟨rfl, hq⟩
          refine ⟨_, rfl, ?_⟩
          replace hs := hs.callE hq
          refine WL.val rfl (run_assign) ?_
          refine WL.nil ?_
          by_cases hu0 : pu = []
          · have hobt : ∃ z, B[n]? = some z := ⟨_, List.getElem?_eq_getElem (by omega)⟩
            obtain ⟨z, hz⟩ := hobt
            have hat2 : n = l.length ∧ (splitR (r.p, r.d, r.x).1).1 = [] ∨ ∃ y : Tri, l[n]? = some y ∧ y.1 = (splitR (r.p, r.d, r.x).1).1 := .inl ⟨by omega, hpu.trans hu0⟩
            refine CW.seq <| CW.seq ?_
            refine CW.reg ?_
            refine WL.val rfl (run_move) ?_
            refine WL.val rfl (run_bF (run_strNe rfl rfl) (by exact fun h => h hu0)) ?_
            refine WL.nil ?_
            refine CW.cond rfl (fun h => ?_) (fun h => ?_)
            · cases h
            have hobt := BInv.step T hB hxi hz hat2
            obtain ⟨hB2, hz1024⟩ := hobt
            have hset : (bC B).set (0 + n * 1) (.int .i64 ((z + 1 : Nat) : Int)) = bC (B.set n (z + 1)) := by rw [Nat.zero_add, Nat.mul_one, bC_set]
            have hatl := (List.getElem?_eq_some_iff.1 hz).1
            have hzg : (bC B)[0 + n * 1]? = some (.int .i64 (z : Nat)) := by rw [Nat.zero_add, Nat.mul_one]; exact bC_get hz
            repeat (first | refine CW.seq ?_ | refine CW.skip ?_)
            refine CW.reg ?_
            refine WL.val rfl (run_move) ?_
            refine WL.val rfl (run_move) ?_
            refine WL.val rfl (run_ixSlN Tryd.underlying22 ty3 rfl rfl (by omega)) ?_
            refine WL.val rfl (run_load1 ty3 rfl (hs.c1 hzg)) ?_
            refine WL.val rfl (run_add (c := ((z + 1 : Nat) : Int)) rfl rfl (by omega) (by omega)) ?_
            refine WL.val rfl (run_ixSlN Tryd.underlying22 ty3 rfl rfl (by omega)) ?_
            refine WL.store1_1 ty3 rfl rfl (rfl) hs (by first | (simp; done) | omega | (simp only [List.length_append, List.length_replicate, List.length_cons, List.length_nil, List.length_set]; omega) | (simp [Ent.cells, u8s]; done) | exact Nat.le_of_ble_eq_true rfl) (fun w hs => ?_)
            refine WL.nil ?_
            replace hs : Step [] [(b6, blk 50 r.enc), (b15, blk 3 (bC (B.set n (z + 1))))] w0 w := by rw [← hset]; exact hs
            have hzg2 : (bC (B.set n (z + 1)))[0 + n * 1]? = some (.int .i64 ((z + 1 : Nat) : Int)) := by rw [Nat.zero_add, Nat.mul_one]; exact bC_get (List.getElem?_set_self hatl)
            refine CW.seq ?_
            refine CW.reg ?_
            refine WL.val rfl (run_move) ?_
            refine WL.val rfl (run_move) ?_
            refine WL.val rfl (run_ixSlN Tryd.underlying22 ty3 rfl rfl (by omega)) ?_
            refine WL.val rfl (run_load1 ty3 rfl (hs.c1 hzg2)) ?_
            refine WL.val rfl (run_bF (run_gtr rfl rfl) (by omega)) ?_
            refine WL.nil ?_
            refine CW.cond rfl (fun h => ?_) (fun h => ?_)
            · cases h
            refine CW.skip ?_
            refine CW.reg ?_
            refine WL.val rfl (run_move) ?_
            refine WL.val rfl (run_add (c := ((i + 1 : Nat) : Int)) rfl rfl (by omega) (by omega)) ?_
            refine WL.val rfl (run_assign) ?_
            refine WL.nil ?_
            refine (show _ ∧ _ from ⟨rfl, _, ?_, i + 1, B.set n (z + 1), by omega, rfl, hB2, hs.tail, e1'.symm, rfl, rfl, rfl, trivial⟩)
            omega
          · have hobt := (T.up i _ hxi).resolve_left fun h => hu0 (hpu.symm.trans h)
            obtain ⟨k, y, hki, hky, hy1, hy2⟩ := hobt
            have hkl := (List.getElem?_eq_some_iff.1 hky).1
            have hobt : ∃ z, B[k]? = some z := ⟨_, List.getElem?_eq_getElem (by omega)⟩
            obtain ⟨z, hz⟩ := hobt
            have hat2 : k = l.length ∧ (splitR (r.p, r.d, r.x).1).1 = [] ∨ ∃ y : Tri, l[k]? = some y ∧ y.1 = (splitR (r.p, r.d, r.x).1).1 := .inr ⟨y, hky, hy1⟩
            have hobt : ∃ rk, R[k]? = some rk := ⟨_, List.getElem?_eq_getElem (by omega)⟩
            obtain ⟨rk, hrk⟩ := hobt
            have hyr : y = (rk.p, rk.d, rk.x) := by
              have h1 : l[k]? = some (rk.p, rk.d, rk.x) := by rw [← hl, absR, List.getElem?_map, hrk]; rfl
              rw [hky] at h1
              exact Option.some.inj h1
            have hkp : rk.p = pu := by rw [← hpu]; rw [hyr] at hy1; exact hy1
            have hkd : rk.d = true := by rw [hyr] at hy2; exact hy2
            have hfind := fun {L' w} (hs : Step [] L' w0 w) => find_spec (b := bu) (c := cu) (i := i) (k := k) (ps := (R.take i).map (·.p)) (p := pu) w (by rw [List.length_map, List.length_take]; omega) (by omega) (by omega) (fun j q hj => by
              rw [List.getElem?_map, List.getElem?_take] at hj
              split at hj
              · cases hq : R[j]? with
                | none => rw [hq] at hj; cases hj
                | some rj =>
                  rw [hq] at hj
                  have hje : rj.p = q := by simpa using hj
                  have := (hrow hs hq).cell (j := 0) (v := str q) (by rw [← hje]; rfl)
                  exact this
              · cases hj) (by
              have h1 : (R.map (·.p)).Pairwise fun a b => lessP a b = true := by
                have h2 := T.so
                unfold SortT at h2
                rw [← hl, absR, List.pairwise_map] at h2
                rw [List.pairwise_map]
                exact h2
              rw [List.map_take]
              exact h1.sublist (List.take_sublist _ _)) (by
              rw [List.getElem?_map, List.getElem?_take, if_pos hki, hrk]
              exact congrArg some hkp) (fun q hq => by
              have hobt := List.mem_map.1 hq
              obtain ⟨rj, hj, rfl⟩ := hobt
              exact rj.hp)
            have hkc := fun {L' w} (hs : Step [] L' w0 w) => (hrow hs hrk).cell (j := 1) (v := .bool true) (by rw [← hkd]; rfl)
            refine CW.seq <| CW.seq ?_
            refine CW.reg ?_
            refine WL.val rfl (run_move) ?_
            refine WL.val rfl (run_bT (run_strNe rfl rfl) (by exact hu0)) ?_
            refine WL.nil ?_
            refine CW.cond rfl (fun h => ?_) (fun h => ?_)
            · refine CW.seq ?_
              refine CW.reg ?_
              refine WL.val rfl (run_move) ?_
              refine WL.val rfl (run_move) ?_
              refine WL.val rfl (run_sliceSl0 (hi := i) (m := cu) Tryd.underlying40 ty50 rfl rfl rfl (by simp) (by omega) (Nat.le_refl _)) ?_
              refine WL.val rfl (run_move) ?_
              refine WL.enter rfl (run_call en48 rfl rfl) (hfind hs) ?_
              rintro e w ⟨rfl, hq⟩
              refine ⟨_, rfl, ?_⟩
              replace hs := hs.callE hq
              refine WL.val rfl (run_assign) ?_
              refine WL.nil ?_
              refine CW.seq ?_
              refine CW.reg ?_
              refine WL.val rfl (run_move) ?_
              refine WL.val rfl (run_bF (run_lss rfl rfl) (by omega)) ?_
              refine WL.val rfl (run_move) ?_
              refine WL.yes rfl rfl rfl ?_; refine WL.val rfl (run_move) ?_
              refine WL.yes rfl rfl rfl ?_; refine WL.val rfl (run_move) ?_
              refine WL.yes rfl rfl rfl ?_; (first | refine WL.val rfl (run_ixSlN Tryd.underlying40 ty50 rfl rfl (by omega)) ?_ | refine WL.val rfl (run_ixSl Tryd.underlying40 ty50 rfl rfl (by omega)) ?_)
              refine WL.yes rfl rfl rfl ?_; refine WL.val rfl (run_field (o' := 1) Tryd.underlying50 rfl ty4 rfl rfl rfl) ?_
              refine WL.yes rfl rfl rfl ?_
              refine WL.val rfl (run_load1 ty4 rfl (hkc hs)) ?_
              refine WL.yes rfl rfl rfl ?_; (first | refine WL.val rfl (run_notB rfl) ?_ | refine WL.val rfl (run_not rfl) ?_)
              refine WL.val rfl (run_pickF rfl) ?_
              refine WL.nil ?_
              refine CW.cond rfl (fun h2 => ?_) (fun h2 => ?_)
              · cases h2
              have hobt := BInv.step T hB hxi hz hat2
              obtain ⟨hB2, hz1024⟩ := hobt
              have hset : (bC B).set (0 + k * 1) (.int .i64 ((z + 1 : Nat) : Int)) = bC (B.set k (z + 1)) := by rw [Nat.zero_add, Nat.mul_one, bC_set]
              have hatl := (List.getElem?_eq_some_iff.1 hz).1
              have hzg : (bC B)[0 + k * 1]? = some (.int .i64 (z : Nat)) := by rw [Nat.zero_add, Nat.mul_one]; exact bC_get hz
              repeat (first | refine CW.seq ?_ | refine CW.skip ?_)
              refine CW.reg ?_
              refine WL.val rfl (run_move) ?_
              refine WL.val rfl (run_move) ?_
              refine WL.val rfl (run_ixSlN Tryd.underlying22 ty3 rfl rfl (by omega)) ?_
              refine WL.val rfl (run_load1 ty3 rfl (hs.c1 hzg)) ?_
              refine WL.val rfl (run_add (c := ((z + 1 : Nat) : Int)) rfl rfl (by omega) (by omega)) ?_
              refine WL.val rfl (run_ixSlN Tryd.underlying22 ty3 rfl rfl (by omega)) ?_
              refine WL.store1_1 ty3 rfl rfl (rfl) hs (by first | (simp; done) | omega | (simp only [List.length_append, List.length_replicate, List.length_cons, List.length_nil, List.length_set]; omega) | (simp [Ent.cells, u8s]; done) | exact Nat.le_of_ble_eq_true rfl) (fun w hs => ?_)
              refine WL.nil ?_
              replace hs : Step [] [(b6, blk 50 r.enc), (b15, blk 3 (bC (B.set k (z + 1))))] w0 w := by rw [← hset]; exact hs
              have hzg2 : (bC (B.set k (z + 1)))[0 + k * 1]? = some (.int .i64 ((z + 1 : Nat) : Int)) := by rw [Nat.zero_add, Nat.mul_one]; exact bC_get (List.getElem?_set_self hatl)
              refine CW.seq ?_
              refine CW.reg ?_
              refine WL.val rfl (run_move) ?_
              refine WL.val rfl (run_move) ?_
              refine WL.val rfl (run_ixSlN Tryd.underlying22 ty3 rfl rfl (by omega)) ?_
              refine WL.val rfl (run_load1 ty3 rfl (hs.c1 hzg2)) ?_
              refine WL.val rfl (run_bF (run_gtr rfl rfl) (by omega)) ?_
              refine WL.nil ?_
              refine CW.cond rfl (fun h => ?_) (fun h => ?_)
              · cases h
              refine CW.skip ?_
              refine CW.reg ?_
              refine WL.val rfl (run_move) ?_
              refine WL.val rfl (run_add (c := ((i + 1 : Nat) : Int)) rfl rfl (by omega) (by omega)) ?_
              refine WL.val rfl (run_assign) ?_
              refine WL.nil ?_
              refine (show _ ∧ _ from ⟨rfl, _, ?_, i + 1, B.set k (z + 1), by omega, rfl, hB2, hs.tail, e1'.symm, rfl, rfl, rfl, trivial⟩)
              omega
            · cases h
    · cases h
  · have hobt := hf.chain
    obtain ⟨g, rfl⟩ := hobt
    have htot := sumT_le T i
    refine CW.seq <| CW.seq ?_
    refine CW.reg ?_
    refine WL.val rfl (run_move) ?_
    refine WL.val rfl (run_move) ?_
    refine WL.val rfl (run_lenSl Tryd.underlying40 rfl) ?_
    refine WL.val rfl (run_bF (run_lss rfl rfl) (by omega)) ?_
    refine WL.nil ?_
    refine CW.cond rfl (fun h => ?_) (fun h => ?_)
    · cases h
    repeat (first | refine CW.seq ?_ | refine CW.exit ?_)
    refine CW.reg ?_
    refine WL.val rfl (run_move) ?_
    refine WL.val rfl (run_bT (run_leq rfl rfl) (by omega)) ?_
    refine WL.val rfl (run_assign) ?_
    refine WL.nil ?_
    refine CW.ret ?_
    refine fin_ret1 rfl ?_
    exact ⟨rfl, hs.clear⟩
end Go.Gx
/-! Vb5 -/
namespace Go.Gx
open Go.Proofs
set_option linter.unusedVariables false
set_option linter.unusedSimpArgs false
def putH (H : List HT) (k : Nat) (a : Nat × Nat × Nat) : List HT := if k < H.length then H.set k (some a) else H ++ [some a]
/-- What an Open does to what is taken. -/
def OpenQ (s : VS) (r : Int × Int × VS) : Prop := r.2.2.qb = s.qb ∧ r.2.2.qf = s.qf ∧ r.2.2.qo = s.qo ∧ r.2.2.by_ ≤ s.by_ ∧ (r.2.2.items = s.items ∨ (r.2.2.items : Int) ≤ s.qf) ∧ (r.2.1 ≠ 0 ∧ r.2.2 = s ∨ r.2.1 = 0 ∧ r.1 = (s.slotI : Nat) ∧ r.2.2.op = s.op + 1 ∧ (s.op : Int) < s.qo ∧ ∃ a, r.2.2.H = putH s.H s.slotI a)
theorem OpenQ.same {s : VS} {e z : Int} (h : e ≠ 0) : OpenQ s (z, e, s) := ⟨rfl, rfl, rfl, Nat.le_refl _, .inl rfl, .inl ⟨h, rfl⟩⟩
section
variable {s : VS}
theorem open_more (sn : s.Sane) (t : s.Tree) (p : List UInt8) (mode : Int) : OpenQ s (s.open p mode) := by
  unfold VS.open
  split
  · exact OpenQ.same (by decide)
  rename_i hmode
  split
  · rename_i h; exact OpenQ.same h
  rename_i hce
  split
  · exact OpenQ.same (by decide)
  rename_i hq0
  split
  · rename_i h; exact OpenQ.same h
  rename_i hw0
  split
  · rename_i h; exact OpenQ.same h
  rename_i hmay
  have hobt : ∃ q, cleanS p = q := ⟨_, rfl⟩
  obtain ⟨q, hq⟩ := hobt
  have hcl : isCleanL q = true := by rw [← hq]; exact clean_isClean (Classical.byContradiction hce)
  rw [hq] at hq0 hw0 hmay
  rw [hq]
  have hobt : ∃ M ew, s.way (decide (4 ≤ mode)) (upsF [] q) [] = (M, ew) := ⟨_, _, rfl⟩
  obtain ⟨M, ew, hW⟩ := hobt
  rw [hW] at hw0 hmay
  rw [hW]
  obtain rfl : ew = 0 := Classical.byContradiction hw0
  have hmay : s.mayO q (s.file q) mode M = 0 := Classical.byContradiction hmay
  have hobt := clean_named hcl
  obtain ⟨h1, h2⟩ := hobt
  have hrow : partsL q ≠ [] := fun e => hq0 (partsL_nil e)
  have e1 : upsF [] q = upsR [] (partsL q) := by
    have := ups_join (partsL q) [] [] (fun x hx => isName_slash (h1 x hx)) (fun x => by simp [joinL_one])
    rw [joinL_partsL] at this
    exact this
  have hch := ups_chain (partsL q) [] (by simpa using h1) (by simpa using h2)
  have hlast := ups_last (partsL q) [] hrow
  have hucl := ups_clean (partsL q) [] (by simpa using h1) (by simpa using h2)
  rw [← e1] at hch hlast hucl
  have hj0 : joinL [] = [] := rfl
  rw [hj0] at hch hlast
  rw [List.nil_append] at hlast
  have epar : (splitR q).1 = joinL (partsL q).dropLast := by
    unfold splitR
    rw [hcl, if_neg (by simp), if_neg hrow]
  rw [← epar] at hlast
  have hMf := way_ok hW
  rw [List.nil_append] at hMf
  have hnof := way_nofile hW
  have hobt := miss_chain t hch fun u hu => (hucl u hu).2
  obtain ⟨prev', hc', hml, _⟩ := hobt
  rw [← hMf] at hc' hml
  have hobt := way_made hcl hq0 sn.root hW
  obtain ⟨hmade, hpar⟩ := hobt
  have hfst := way_first hcl hq0 sn.root hW
  have hobt : ∃ x, s.file q = x := ⟨_, rfl⟩
  obtain ⟨x, hx⟩ := hobt
  rw [hx] at hmay ⊢
  have ok := sn.ok
  have hqf := ok.qf
  have hqo := ok.qo
  have hdq : s.dir q = none := by
    unfold VS.mayO at hmay
    split at hmay
    · cases hmay
    · rename_i h
      cases hd : s.dir q with
      | none => rfl
      | some j => rw [hd] at h; exact absurd rfl h
  have hop : s.op < 64 ∧ (s.op : Int) < s.qo := by
    unfold VS.mayO at hmay
    rw [hdq] at hmay
    split at hmay
    · cases hmay
    · split at hmay
      · cases hmay
      · split at hmay
        · cases hmay
        · split at hmay
          · cases hmay
          · exact ⟨by omega, by omega⟩
  have hm4 : mode.toNat % 4 ≤ 3 := by omega
  -- what put1 leaves
  have hput : (s.put1 q M x).2 < (s.put1 q M x).1.F.length ∧ (s.put1 q M x).1.op = s.op ∧ (s.put1 q M x).1.H = s.H ∧ (s.put1 q M x).1.by_ = s.by_ ∧ ((s.put1 q M x).1.qb = s.qb ∧ (s.put1 q M x).1.qf = s.qf ∧ (s.put1 q M x).1.qo = s.qo) ∧ ((s.put1 q M x).1.items = s.items ∨ ((s.put1 q M x).1.items : Int) ≤ s.qf) := by
    cases x with
    | some i =>
      have hqm : q ∈ s.F.map (·.1) := by
        unfold VS.file at hx
        have hobt := List.findIdx?_eq_some_iff_getElem.1 hx
        obtain ⟨g1, g2, _⟩ := hobt
        exact List.mem_map.2 ⟨s.F[i], List.getElem_mem g1, by simpa using g2⟩
      have hM0 : M = [] := by
        rcases hml with h | h
        · exact h
        · by_cases hM : M = []
          · exact hM
          exfalso
          have hp := (t.cl q (.inr hqm) hq0).2
          rw [← hlast, ← h] at hp
          have hne : M.getLast? ≠ none := by simpa using hM
          have hobt := Option.ne_none_iff_exists'.1 hne
          obtain ⟨u, hu⟩ := hobt
          rw [hu, Option.getD_some] at hp
          have hum : u ∈ M := List.mem_of_getLast? hu
          rw [hMf] at hum
          have := (List.mem_filter.1 hum).2
          cases hd : s.dir u <;> simp_all
      subst hM0
      have hil : i < s.F.length := by
        unfold VS.file at hx
        exact (List.findIdx?_eq_some_iff_getElem.1 hx).1
      exact ⟨hil, rfl, rfl, rfl, ⟨rfl, rfl, rfl⟩, .inl rfl⟩
    | none =>
      obtain ⟨m1, m2⟩ : (s.items : Int) + M.length + 1 ≤ s.qf ∧ ¬ 1024 ≤ s.below (splitR (firstL q M)).1 := by
        unfold VS.mayO at hmay
        rw [hdq] at hmay
        split at hmay
        · cases hmay
        · split at hmay
          · cases hmay
          · split at hmay
            · cases hmay
            · rename_i h
              exact ⟨Int.not_lt.1 fun h2 => h ⟨rfl, .inl h2⟩, fun h2 => h ⟨rfl, .inr h2⟩⟩
      have hroom := room_below hfst m2
      have hMall : ∀ u ∈ M, s.dir u = none ∧ s.file u = none ∧ isCleanL u = true ∧ u ≠ [] := fun u hu => by
        rw [hMf] at hu
        have hobt := List.mem_filter.1 hu
        obtain ⟨a1, a2⟩ := hobt
        refine ⟨?_, hnof u a1, (hucl u a1).1, (hucl u a1).2⟩
        cases hd : s.dir u <;> simp_all
      have hT : (M.foldl VS.addDir s).Tree ∧ (M.foldl VS.addDir s).room (splitR q).1 := by
        cases M with
        | nil => exact ⟨t, hroom⟩
        | cons d M =>
          have hpr : s.room prev' := by
            have : (splitR d).1 = prev' := hc'.1
            rw [← this]
            exact hroom
          have hobt := made_tree hc' t hpr hMall
          obtain ⟨g1, g2⟩ := hobt
          refine ⟨g1, ?_⟩
          rcases hml with h | h
          · cases h
          · rw [← hlast, ← h]
            rw [List.getLast?_cons, Option.getD_some] at g2 ⊢
            exact g2
      obtain ⟨hT1, j, n, hj, hjn, hn⟩ := hT
      have hqM : q ∉ M := fun h => by
        have h4 : q ∈ upsF [] q := by rw [hMf] at h; exact (List.mem_filter.1 h).1
        have h5 := ups_lt q [] q h4
        have h6 : ([] : List UInt8).length = 0 := rfl
        omega
      have hdq1 := fold_dir_none M s q hmade hdq hqM
      have hfq1 : (M.foldl VS.addDir s).file q = none := by rw [file_foldDir]; exact hx
      have hTF := hT1.addFile (x := []) hcl hq0 hj hjn hn hdq1 hfq1
      have hobt := file_addFile (x := []) (by rw [hj]; rfl) hfq1
      obtain ⟨n1, n2, n3⟩ := hobt
      have hobt := made_fold M s hmade sn.cnt
      obtain ⟨c1, c2, _, _⟩ := hobt
      have hobt := foldDir_F M s
      obtain ⟨f1, f2, f3, f4, f5, f6, f7⟩ := hobt
      have e : (M.foldl VS.addDir s).addFile q [] = { (M.foldl VS.addDir s).bump j with F := (M.foldl VS.addDir s).F ++ [(q, [])], by_ := (M.foldl VS.addDir s).by_ + ([] : List UInt8).length } := by unfold VS.addFile; rw [hj]
      have hDl : ((M.foldl VS.addDir s).addFile q []).D.length = s.D.length + M.length := by rw [e]; show ((M.foldl VS.addDir s).bump j).D.length = _; rw [bump_len, c2]
      have hFl : ((M.foldl VS.addDir s).addFile q []).F.length = s.F.length + 1 := by rw [n2, f1]; simp
      have hitm : s.items + 1 = s.F.length + s.D.length := by
        have hD1 : 0 < s.D.length := by
          have hobt := Option.isSome_iff_exists.1 sn.root
          obtain ⟨j, hj⟩ := hobt
          unfold VS.dir at hj
          have := (List.findIdx?_eq_some_iff_getElem.1 hj).1
          omega
        unfold VS.items
        omega
      have hlim : ((M.foldl VS.addDir s).addFile q []).F.length + ((M.foldl VS.addDir s).addFile q []).D.length ≤ 65536 := by omega
      have hHe : ((M.foldl VS.addDir s).addFile q []).H = s.H := by rw [e]; exact f3
      have hope : ((M.foldl VS.addDir s).addFile q []).op = s.op := by rw [e]; exact f4
      show (M.foldl VS.addDir s).F.length < ((M.foldl VS.addDir s).addFile q []).F.length ∧ ((M.foldl VS.addDir s).addFile q []).op = s.op ∧ ((M.foldl VS.addDir s).addFile q []).H = s.H ∧ ((M.foldl VS.addDir s).addFile q []).by_ = s.by_ ∧ (((M.foldl VS.addDir s).addFile q []).qb = s.qb ∧ ((M.foldl VS.addDir s).addFile q []).qf = s.qf ∧ ((M.foldl VS.addDir s).addFile q []).qo = s.qo) ∧ (((M.foldl VS.addDir s).addFile q []).items = s.items ∨ ((((M.foldl VS.addDir s).addFile q []).items : Nat) : Int) ≤ s.qf)
      refine ⟨by rw [hFl, f1]; omega, hope, hHe, by rw [n3, f2]; rfl, ⟨by rw [e]; exact f5, by rw [e]; exact f6, by rw [e]; exact f7⟩, .inr ?_⟩
      unfold VS.items
      omega
  have hobt : ∃ a, s.put1 q M x = a := ⟨_, rfl⟩
  obtain ⟨a, ha⟩ := hobt
  rw [ha] at hput ⊢
  obtain ⟨p3, p4, p5, p6, ⟨p7, p8, p9⟩, p10⟩ := hput
  have hcut : (a.1.cutI mode.toNat a.2).op = s.op ∧ (a.1.cutI mode.toNat a.2).H = s.H ∧ (a.1.cutI mode.toNat a.2).by_ ≤ s.by_ ∧ ((a.1.cutI mode.toNat a.2).qb = s.qb ∧ (a.1.cutI mode.toNat a.2).qf = s.qf ∧ (a.1.cutI mode.toNat a.2).qo = s.qo) ∧ (a.1.cutI mode.toNat a.2).items = a.1.items := by
    unfold VS.cutI
    split
    · exact ⟨p4, p5, by show a.1.by_ - _ ≤ _; omega, ⟨p7, p8, p9⟩, by unfold VS.items; show (a.1.F.set a.2 _).length + a.1.D.length - 1 = _; rw [List.length_set]⟩
    · exact ⟨p4, p5, by omega, ⟨p7, p8, p9⟩, rfl⟩
  obtain ⟨c1, c2, c3, ⟨c4, c5, c6⟩, c7⟩ := hcut
  have hslot : (a.1.cutI mode.toNat a.2).slotI = s.slotI := by unfold VS.slotI; rw [c2]
  refine ⟨c4, c5, c6, c3, ?_, .inr ⟨rfl, congrArg (fun z : Nat => (z : Int)) hslot, congrArg (· + 1) c1, hop.2, (a.2, 0, mode.toNat % 4), ?_⟩⟩
  · show (a.1.cutI mode.toNat a.2).items = _ ∨ _
    rw [c7]
    rcases p10 with h | h
    · exact .inl h
    · exact .inr (by show (((a.1.cutI mode.toNat a.2).items : Nat) : Int) ≤ _; rw [c7]; exact h)
  · show (if (a.1.cutI mode.toNat a.2).slotI < (a.1.cutI mode.toNat a.2).H.length then _ else _) = _
    rw [hslot, c2]
    rfl
end
/-- What is taken is never above the quota. -/
structure VS.Quo (s : VS) : Prop where
  b : (s.by_ : Int) ≤ s.qb
  f : (s.items : Int) ≤ s.qf
  o : s.op = 0 ∨ (s.op : Int) ≤ s.qo
theorem do_quo {s : VS} (sn : s.Sane) (t : s.Tree) (q : s.Quo) (x : Stv) : (s.doS x).1.Quo ∧ (s.doS x).1.qb = s.qb ∧ (s.doS x).1.qf = s.qf ∧ (s.doS x).1.qo = s.qo := by
  unfold VS.doS
  split
  · have hobt := open_more sn t x.p x.n
    obtain ⟨h1, h2, h3, h4, h5, h6⟩ := hobt
    refine ⟨⟨by show ((s.open x.p x.n).2.2.by_ : Int) ≤ (s.open x.p x.n).2.2.qb; rw [h1]; have := q.b; omega, ?_, ?_⟩, h1, h2, h3⟩
    · show ((s.open x.p x.n).2.2.items : Int) ≤ (s.open x.p x.n).2.2.qf
      rw [h2]
      rcases h5 with h | h
      · rw [h]; exact q.f
      · exact h
    · show (s.open x.p x.n).2.2.op = 0 ∨ ((s.open x.p x.n).2.2.op : Int) ≤ (s.open x.p x.n).2.2.qo
      rw [h3]
      rcases h6 with ⟨_, h⟩ | ⟨_, _, h, h7, _⟩
      · rw [h]; exact q.o
      · rw [h]; exact .inr (by omega)
  · split
    · unfold VS.read
      split
      · exact ⟨q, rfl, rfl, rfl⟩
      · split
        · exact ⟨q, rfl, rfl, rfl⟩
        · exact ⟨⟨q.b, q.f, q.o⟩, rfl, rfl, rfl⟩
    · split
      · unfold VS.write
        split
        · exact ⟨q, rfl, rfl, rfl⟩
        · rename_i hbad
          split
          · exact ⟨q, rfl, rfl, rfl⟩
          · rename_i i pl mo ha
            have hmay : s.may x.h x.b.length = 0 := Classical.byContradiction fun h => hbad (.inl h)
            have hb : x.b ≠ [] := fun h => hbad (.inr h)
            have hbl : 0 < x.b.length := List.length_pos_iff.2 hb
            unfold VS.may at hmay
            rw [ha] at hmay
            simp only at hmay
            split at hmay
            · cases hmay
            · split at hmay
              · omega
              · split at hmay
                · omega
                · split at hmay
                  · cases hmay
                  · split at hmay
                    · cases hmay
                    · have hqb := q.b
                      refine ⟨⟨by show ((s.by_ + (s.from_ i pl mo + x.b.length - s.len i) : Nat) : Int) ≤ s.qb; omega, by have := q.f; unfold VS.items at this ⊢; show (((s.F.set i _).length + s.D.length - 1 : Nat) : Int) ≤ s.qf; rw [List.length_set]; exact this, q.o⟩, rfl, rfl, rfl⟩
      · split
        · unfold VS.close
          split
          · exact ⟨q, rfl, rfl, rfl⟩
          · exact ⟨⟨q.b, q.f, by have := q.o; show s.op - 1 = 0 ∨ ((s.op - 1 : Nat) : Int) ≤ s.qo; omega⟩, rfl, rfl, rfl⟩
        · exact ⟨q, rfl, rfl, rfl⟩
end Go.Gx
/-! Vb6 -/
namespace Go.Gx
open Go.Proofs
set_option linter.unusedVariables false
set_option linter.unusedSimpArgs false
def opn1 (H : List HT) (k : Nat) : Bool := ((H[k]?).join).isSome
def opn (s : VS) : List Bool := (List.range 64).map (opn1 s.H)
theorem opn_len (s : VS) : (opn s).length = 64 := by simp [opn]
theorem opn_get {s : VS} {k : Nat} (h : k < 64) : (opn s)[k]? = some (opn1 s.H k) := by
  rw [opn, List.getElem?_map, List.getElem?_range h]
  rfl
theorem opn1_set {H : List HT} {i k : Nat} {a : HT} (hi : i < H.length) : opn1 (H.set i a) k = if i = k then a.isSome else opn1 H k := by
  unfold opn1
  by_cases h : i = k
  · subst h
    rw [List.getElem?_set_self hi, if_pos rfl]
    rfl
  · rw [List.getElem?_set_ne h, if_neg h]
theorem opn_set {H H' : List HT} {i : Nat} {b : Bool} (s s' : VS) (h1 : s.H = H) (h2 : s'.H = H') (h : ∀ k, k < 64 → opn1 H' k = if i = k then b else opn1 H k) : opn s' = (opn s).set i b := by
  apply List.ext_getElem?
  intro k
  by_cases hk : k < 64
  · rw [opn_get hk, h2, h k hk]
    by_cases hik : i = k
    · subst hik
      rw [if_pos rfl, List.getElem?_set_self (by rw [opn_len]; exact hk)]
    · rw [if_neg hik, List.getElem?_set_ne hik, opn_get hk, h1]
  · rw [List.getElem?_eq_none (by rw [opn_len]; omega), List.getElem?_eq_none (by rw [List.length_set, opn_len]; omega)]
theorem opn_same {s s' : VS} (h : ∀ k, opn1 s'.H k = opn1 s.H k) : opn s' = opn s := by
  unfold opn
  exact List.map_congr_left fun k _ => h k
theorem is_opn {s : VS} {k : Nat} : (s.is k).isSome = opn1 s.H k := by
  unfold VS.is opn1
  rw [if_pos (by omega), Int.toNat_natCast]
theorem cnt_opn : ∀ (H : List HT) (n : Nat), H.length ≤ n → (((List.range n).map (opn1 H)).filter id).length = (H.filter Option.isSome).length := by
  intro H n hn
  have h1 : (List.range n).map (opn1 H) = H.map Option.isSome ++ List.replicate (n - H.length) false := by
    apply List.ext_getElem?
    intro k
    by_cases hk : k < n
    · rw [List.getElem?_map, List.getElem?_range hk]
      by_cases hh : k < H.length
      · rw [List.getElem?_append_left (by simpa using hh), List.getElem?_map]
        show some (opn1 H k) = _
        unfold opn1
        rw [List.getElem?_eq_getElem hh]
        cases H[k] <;> rfl
      · rw [List.getElem?_append_right (by simpa using hh), List.getElem?_replicate, if_pos (by simp; omega)]
        show some (opn1 H k) = _
        unfold opn1
        rw [List.getElem?_eq_none (by omega)]
        rfl
    · rw [List.getElem?_eq_none (by simp; omega), List.getElem?_eq_none (by simp; omega)]
  rw [h1, List.filter_append, List.filter_map, List.length_append, List.length_map]
  have h2 : (List.replicate (n - H.length) false).filter id = [] := by simp
  rw [h2, List.length_nil, Nat.add_zero]
  rfl
/-- How a step turns what is open. -/
theorem do_opn {s : VS} (sn : s.Sane) (t : s.Tree) (x : Stv) :
    (x.k = 7 → (0 ≤ x.h ∧ x.h < 64 → opn (s.doS x).1 = (opn s).set x.h.toNat false) ∧ (¬ (0 ≤ x.h ∧ x.h < 64) → opn (s.doS x).1 = opn s)) ∧
    (x.k = 1 → ((s.doS x).2 < 0 ∧ opn (s.doS x).1 = opn s ∨ ∃ h : Nat, (s.doS x).2 = h ∧ h < 64 ∧ (opn s)[h]? = some false ∧ (∀ k, k < h → (opn s)[k]? = some true) ∧ opn (s.doS x).1 = (opn s).set h true)) ∧
    (x.k ≠ 7 → x.k ≠ 1 → opn (s.doS x).1 = opn s) := by
  have hhl := sn.hl
  refine ⟨fun h7 => ?_, fun h1 => ?_, fun h7 h1 => ?_⟩
  · have e : (s.doS x).1 = (s.close x.h).2 := by
      unfold VS.doS
      rw [if_neg (by omega), if_neg (by omega), if_neg (by omega), if_pos h7]
    rw [e]
    cases hi : s.is x.h with
    | none =>
      have ec : (s.close x.h).2 = s := by unfold VS.close; rw [hi]
      rw [ec]
      refine ⟨fun hr => ?_, fun _ => rfl⟩
      refine opn_set s s rfl rfl fun k hk => ?_
      by_cases hik : x.h.toNat = k
      · rw [if_pos hik, ← is_opn, show ((k : Nat) : Int) = x.h by omega, hi]
        rfl
      · rw [if_neg hik]
    | some a =>
      have hobt := is_at hi
      obtain ⟨k, hk, hka⟩ := hobt
      have hkl := (List.getElem?_eq_some_iff.1 hka).1
      have ec : (s.close x.h).2.H = s.H.set x.h.toNat none := by unfold VS.close; rw [hi]
      refine ⟨fun hr => ?_, fun hr => by omega⟩
      refine opn_set s _ rfl ec fun j hj => ?_
      rw [opn1_set (by omega)]
      rfl
  · have e : s.doS x = ((s.open x.p x.n).2.2, if (s.open x.p x.n).2.1 = 0 then (s.open x.p x.n).1 else -1) := if_pos h1
    have hobt := open_more sn t x.p x.n
    obtain ⟨_, _, _, _, _, h6⟩ := hobt
    rw [e]
    rcases h6 with ⟨h2, h3⟩ | ⟨h2, h3, h4, h5, a, ha⟩
    · refine .inl ⟨?_, by show opn (s.open x.p x.n).2.2 = _; rw [h3]⟩
      show (if (s.open x.p x.n).2.1 = 0 then (s.open x.p x.n).1 else -1) < 0
      rw [if_neg h2]
      decide
    · refine .inr ⟨s.slotI, ?_, ?_⟩
      · show (if (s.open x.p x.n).2.1 = 0 then (s.open x.p x.n).1 else -1) = _
        rw [if_pos h2, h3]
      have hqo := sn.ok.qo
      have hop := sn.op
      rcases slot_spec (s := s) with ⟨k, e2, hk⟩ | ⟨e2, hall⟩
      · have hkl := (List.getElem?_eq_some_iff.1 hk).1
        have hfi : s.H.findIdx? Option.isNone = some k := by
          have h7 : s.slotI = (s.H.findIdx? Option.isNone).getD s.H.length := rfl
          rw [h7] at e2
          cases hf : s.H.findIdx? Option.isNone with
          | none => rw [hf] at e2; simp at e2; omega
          | some j => rw [hf] at e2; exact congrArg some e2
        have hobt := List.findIdx?_eq_some_iff_getElem.1 hfi
        obtain ⟨_, _, hbef⟩ := hobt
        rw [e2] at ha ⊢
        refine ⟨by omega, ?_, fun j hj => ?_, ?_⟩
        · rw [opn_get (by omega)]
          unfold opn1
          rw [hk]
          rfl
        · rw [opn_get (by omega)]
          have h8 := hbef j hj
          unfold opn1
          rw [List.getElem?_eq_getElem (by omega)]
          cases hx : s.H[j] with
          | none => rw [hx] at h8; exact absurd rfl h8
          | some b => rfl
        · refine opn_set s _ rfl ha fun j hj => ?_
          unfold putH
          rw [if_pos hkl, opn1_set hkl]
          rfl
      · have hf : s.H.filter Option.isSome = s.H := List.filter_eq_self.2 hall
        rw [hf] at hop
        have hl64 : s.H.length < 64 := by omega
        rw [e2] at ha ⊢
        refine ⟨hl64, ?_, fun j hj => ?_, ?_⟩
        · rw [opn_get hl64]
          unfold opn1
          rw [List.getElem?_eq_none (Nat.le_refl _)]
          rfl
        · rw [opn_get (by omega)]
          unfold opn1
          rw [List.getElem?_eq_getElem hj]
          have := hall _ (List.getElem_mem hj)
          cases hx : s.H[j] with
          | none => rw [hx] at this; cases this
          | some b => rfl
        · refine opn_set s _ rfl ha fun j hj => ?_
          unfold putH
          rw [if_neg (by omega)]
          unfold opn1
          by_cases hjl : s.H.length = j
          · subst hjl
            rw [if_pos rfl, List.getElem?_append_right (Nat.le_refl _), Nat.sub_self]
            rfl
          · rw [if_neg hjl]
            by_cases hlt : j < s.H.length
            · rw [List.getElem?_append_left hlt]
            · rw [List.getElem?_eq_none (by rw [List.length_append]; simp; omega), List.getElem?_eq_none (by omega)]
  · unfold VS.doS
    rw [if_neg h1]
    split
    · unfold VS.read
      split
      · rfl
      · split
        · rfl
        · rename_i i pl mo hi
          have hobt := is_at hi
          obtain ⟨k, hk, hka⟩ := hobt
          have hkl := (List.getElem?_eq_some_iff.1 hka).1
          refine opn_same fun j => ?_
          show opn1 (s.H.set x.h.toNat _) j = _
          rw [hk, Int.toNat_natCast, opn1_set hkl]
          split
          · rename_i h; subst h
            unfold opn1
            rw [hka]
            rfl
          · rfl
    · split
      · unfold VS.write
        split
        · rfl
        · split
          · rfl
          · rename_i i pl mo hi
            have hobt := is_at hi
            obtain ⟨k, hk, hka⟩ := hobt
            have hkl := (List.getElem?_eq_some_iff.1 hka).1
            refine opn_same fun j => ?_
            show opn1 (s.H.set x.h.toNat _) j = _
            rw [hk, Int.toNat_natCast, opn1_set hkl]
            split
            · rename_i h; subst h
              unfold opn1
              rw [hka]
              rfl
            · rfl
      · rfl
end Go.Gx
/-! Vb7 -/
namespace Go.Gx
open Go.Proofs Go.RowKit
set_option linter.unusedVariables false
set_option linter.unusedSimpArgs false
set_option maxRecDepth 100000
theorem perm_b1 {α : Type} {x y : α} {l : List α} : (x :: (l ++ [y])).Perm (l ++ [x, y]) := by
  classical
  exact List.perm_iff_count.2 fun z => by
    simp only [List.count_append, List.count_cons, List.count_nil]
    omega
def oC (B : List Bool) : List Value := B.map Value.bool
theorem oC_get {B : List Bool} {i : Nat} {b : Bool} (h : B[i]? = some b) : (oC B)[0 + i * 1]? = some (.bool b) := by rw [Nat.zero_add, Nat.mul_one, oC, List.getElem?_map, h]; rfl
theorem oC_set {B : List Bool} {i : Nat} {b : Bool} : (oC B).set (0 + i * 1) (.bool b) = oC (B.set i b) := by rw [Nat.zero_add, Nat.mul_one, oC, oC, List.map_set]
theorem bool_at {A : List (Nat × Obj)} {x4 : Nat × Obj} {w0 w : World} {b i : Nat} {B : List Bool} {v : Bool} (hs : Step [] (A ++ [(b, blk 4 (oC B)), x4]) w0 w) (h : B[i]? = some v) : w.cell? ⟨b, 0 + i * 1, none⟩ = some (.bool v) := by
  rw [cell_blk (hs.has (b, blk 4 (oC B)) (by simp))]
  exact oC_get h
theorem oC_rep (k : Nat) : (List.replicate k [Value.bool false]).flatten = oC (List.replicate k false) := by
  induction k with
  | zero => rfl
  | succ k ih => rw [List.replicate_succ, List.flatten_cons, ih, List.replicate_succ]; rfl
theorem new_quo {a b c : Int} {l : List It} (h : newE a b l = 0) : (newS a b c l).Quo ∧ (newS a b c l).H = [] ∧ (newS a b c l).qb = min a 67108864 ∧ (newS a b c l).qf = min b 65535 ∧ (newS a b c l).qo = min c 64 := by
  have hE : chkE l = 0 := by
    unfold newE at h
    split at h
    · rename_i h1; exact absurd h h1
    · rename_i h1; exact Classical.byContradiction h1
  have hobt := chkE_go hE
  obtain ⟨h1, ⟨D, hD⟩, h3⟩ := hobt
  have hobt := chk_fold l (newV a b c) none 0 D hD (newV_inv a b c)
  obtain ⟨⟨q, v⟩, hby⟩ := hobt
  have hobt := foldIt_q l (newV a b c)
  obtain ⟨q1, q2, q3⟩ := hobt
  have e1 : (newS a b c l).qb = min a 67108864 := q1
  have e2 : (newS a b c l).qf = min b 65535 := q2
  have e3 : (newS a b c l).qo = min c 64 := q3
  have e4 : (newS a b c l).by_ = 0 + sumL l := hby
  have v : NInv (newS a b c l) q (0 + l.length) := v
  have hlen := v.len
  unfold newE at h
  rw [if_neg (fun h => h hE)] at h
  split at h
  · cases h
  · split at h
    · cases h
    · refine ⟨⟨by omega, by unfold VS.items; omega, .inl v.H.2⟩, v.H.1, e1, e2, e3⟩
theorem items_len {s : VS} (sn : s.Sane) (t : s.Tree) : s.itemsL.length = s.items := by
  have h0 : s.itemsL.length = s.itemsU.length := (itemsL_perm s.itemsU).length_eq
  rw [h0]
  have h1 : ([] : List UInt8) ∈ s.D.map (·.1) := dir_mem.1 sn.root
  have h2 : ∀ l : List (List UInt8), l.Nodup → [] ∈ l → (l.filter fun p => decide (p ≠ [])).length + 1 = l.length := by
    intro l
    induction l with
    | nil => intro _ h; cases h
    | cons a l ih =>
      intro hn h
      rw [List.nodup_cons] at hn
      rw [List.filter_cons]
      by_cases ha : a = []
      · subst ha
        have h3 : l.filter (fun p => decide (p ≠ [])) = l := List.filter_eq_self.2 fun x hx => by
          have : x ≠ [] := fun e => hn.1 (e ▸ hx)
          simpa using this
        rw [if_neg (by simp), h3, List.length_cons]
      · rw [if_pos (by simp [ha]), List.length_cons, List.length_cons, ih hn.2 ((List.mem_cons.1 h).resolve_left fun e => ha e.symm)]
  have h3 := h2 _ t.ndD h1
  rw [List.length_map] at h3
  unfold VS.itemsU VS.items
  rw [List.length_append, List.length_map, List.length_map]
  omega
theorem items_sum {s : VS} (sn : s.Sane) : (s.itemsL.map (·.2.2.length)).sum = s.by_ := by
  have h1 : (s.itemsL.map (·.2.2.length)).sum = (s.itemsU.map (·.2.2.length)).sum := ((itemsL_perm s.itemsU).map _).sum_nat
  rw [h1]
  unfold VS.itemsU
  rw [List.map_append, List.sum_append, List.map_map, List.map_map]
  have h2 : (List.map ((fun x : Tri => x.2.2.length) ∘ fun p => (p, true, [])) ((s.D.map (·.1)).filter fun p => decide (p ≠ []))).sum = 0 := by
    generalize (s.D.map (·.1)).filter (fun p => decide (p ≠ [])) = l
    induction l with
    | nil => rfl
    | cons a l ih => rw [List.map_cons, List.sum_cons, ih]; rfl
  have h3 : (List.map ((fun x : Tri => x.2.2.length) ∘ fun e => (e.1, false, e.2)) s.F).sum = s.by_ := sn.sum.symm
  rw [h2, h3]
  omega
theorem place_e {s : VS} {k : Nat} : (s.place k).2.2 = if opn1 s.H k = true then 0 else 95 := by
  rw [← is_opn]
  unfold VS.place
  cases s.is (k : Nat) <;> rfl
theorem stvs_cell {w : World} {l : List Stv} {b off c : Nat} (h : Stvs w (.slice (some ⟨b, off, none⟩) l.length c) l) {i : Nat} {x : Stv} (hx : l[i]? = some x) : At w b (off + i * 5) x.cells := by
  have hobt := h.at hx
  obtain ⟨b', off', c', he, hat⟩ := hobt
  cases he
  exact hat
set_option maxHeartbeats 8000000 in
theorem vfsBounds_spec {v0 v2 : Value} {l : List It} {sc : List Stv} {a b c : Int} (w0 : World) (hg : Gl w0) (hl : Its w0 v0 l) (ha : i64s a) (hb : i64s b) (hc : i64s c) (hst : Stvs w0 v2 sc) : Calls Tryd.prog 5 #[v0, .agg (quoC a b c).toArray, v2] w0 (Ret0 (.bool true) w0) := by
  have hs : Step [] [] w0 w0 := Step.refl w0
  have hobt := hst.sl.form
  obtain ⟨a2, c2, rfl⟩ := hobt
  have hscl := hst.len
  have hits := fun {L w} (hs : Step [] L w0 w) => (⟨hl.sl.step0 hs, fun x hx => ⟨(hl.ok x hx).hb.step0 hs, (hl.ok x hx).lp, (hl.ok x hx).lb⟩, hl.len⟩ : Its w v0 l)
  have hnew := fun {L w} (hs : Step [] L w0 w) => new_spec w (hg.step hs) ha hb hc (hits hs)
  by_cases hE : newE a b l ≠ 0
  · have hnb := fun {L w} (hs : Step [] L w0 w) => (hnew hs).mono (R' := fun e w' => ∃ L', e = .returned (.tuple #[.pointer none, .int .i64 (newE a b l)]) ∧ Step [] L' w w') fun e w' ⟨L', h1, h2⟩ => by
      rcases h2 with ⟨_, h3⟩ | ⟨h3, _⟩
      · exact ⟨L', h3, h1⟩
      · exact absurd h3 hE
    refine calls (n := 203) Tryd.func5 rfl rfl rfl ?_
    refine CW.seq ?_
    refine CW.reg ?_
    refine WL.box (cs := (quoC a b c)) rfl rfl rfl hs (fun b4 w hs => ?_)
    refine WL.val rfl (run_assign) ?_
    refine WL.nil ?_
    refine CW.seq <| CW.seq ?_
    refine CW.reg ?_
    refine WL.enter rfl (run_call en7 rfl rfl) (known_spec (hg.step hs)) ?_
    rintro e w ⟨rfl, hq⟩
    refine ⟨_, rfl, ?_⟩
    replace hs := hs.callE hq
    refine WL.val rfl (run_not rfl) ?_
    refine WL.nil ?_
    refine CW.cond rfl (fun h => ?_) (fun h => ?_)
    · cases h
    repeat (first | refine CW.seq ?_ | refine CW.skip ?_)
    refine CW.reg ?_
    refine WL.val rfl (run_move) ?_
    refine WL.val rfl (run_loadN ty30 rfl rfl hs.a0) ?_
    refine WL.enter rfl (run_call en8 rfl rfl) (hnb hs) ?_
    rintro e w ⟨L1, rfl, hq⟩
    refine ⟨_, rfl, ?_⟩
    replace hs := hs.call0 hq
    refine WL.val rfl (run_move) ?_
    refine WL.val rfl (run_extract rfl rfl) ?_
    refine WL.val rfl (run_extract rfl rfl) ?_
    refine WL.val rfl (run_assign) ?_
    refine WL.val rfl (run_assign) ?_
    refine WL.nil ?_
    refine CW.seq <| CW.seq ?_
    refine CW.reg ?_
    refine WL.val rfl (run_move) ?_
    refine WL.val rfl (run_bT (run_neq rfl rfl) (by exact hE)) ?_
    refine WL.val rfl (run_move) ?_
    refine WL.no rfl rfl rfl (.inl rfl) ?_
    refine WL.no rfl rfl rfl (.inl rfl) ?_
    refine WL.val rfl (run_pickT rfl) ?_
    refine WL.nil ?_
    refine CW.cond rfl (fun h => ?_) (fun h => ?_)
    · refine CW.seq ?_
      refine CW.reg ?_
      refine WL.val rfl (run_move) ?_
      refine WL.val rfl (run_bT (run_neq rfl rfl) (by exact hE)) ?_
      refine WL.val rfl (run_move) ?_
      refine WL.yes rfl rfl rfl ?_; refine WL.val rfl (run_move) ?_
      refine WL.yes rfl rfl rfl ?_
      refine WL.val rfl (run_nilNil Tryd.underlying25 rfl rfl) ?_
      refine WL.val rfl (run_pickT rfl) ?_
      refine WL.val rfl (run_assign) ?_
      refine WL.nil ?_
      refine CW.ret ?_
      refine fin_ret1 rfl ?_
      exact ⟨rfl, hs.clear⟩
    · cases h
  have hE : newE a b l = 0 := Classical.byContradiction hE
  have hno := fun {L w} (hs : Step [] L w0 w) => (hnew hs).mono (R' := fun e w' => ∃ bf L', e = .returned (.tuple #[.pointer (some ⟨bf, 0, none⟩), .int .i64 0]) ∧ VRep bf (newS a b c l) L' ∧ Step [] L' w w') fun e w' ⟨L', h1, h2⟩ => by
    rcases h2 with ⟨h3, _⟩ | ⟨_, bf, h3, h4⟩
    · exact absurd hE h3
    · exact ⟨bf, L', h3, h4, h1⟩
  have sn0 := new_sane (c := c) hE ha hb hc
  have t0 := new_tree (c := c) hE
  have hobt := new_quo (c := c) hE
  obtain ⟨q0, hH0, e1, e2, e3⟩ := hobt
  unfold i64s at ha hb hc
  refine calls (n := 203) Tryd.func5 rfl rfl rfl ?_
  refine CW.seq ?_
  refine CW.reg ?_
  refine WL.box (cs := (quoC a b c)) rfl rfl rfl hs (fun b4 w hs => ?_)
  refine WL.val rfl (run_assign) ?_
  refine WL.nil ?_
  refine CW.seq <| CW.seq ?_
  refine CW.reg ?_
  refine WL.enter rfl (run_call en7 rfl rfl) (known_spec (hg.step hs)) ?_
  rintro e w ⟨rfl, hq⟩
  refine ⟨_, rfl, ?_⟩
  replace hs := hs.callE hq
  refine WL.val rfl (run_not rfl) ?_
  refine WL.nil ?_
  refine CW.cond rfl (fun h => ?_) (fun h => ?_)
  · cases h
  repeat (first | refine CW.seq ?_ | refine CW.skip ?_)
  refine CW.reg ?_
  refine WL.val rfl (run_move) ?_
  refine WL.val rfl (run_loadN ty30 rfl rfl hs.a0) ?_
  refine WL.enter rfl (run_call en8 rfl rfl) (hno hs) ?_
  rintro e w ⟨bf, L1, rfl, hR0, hq⟩
  refine ⟨_, rfl, ?_⟩
  replace hs := hs.call0 hq
  refine WL.val rfl (run_move) ?_
  refine WL.val rfl (run_extract rfl rfl) ?_
  refine WL.val rfl (run_extract rfl rfl) ?_
  refine WL.val rfl (run_assign) ?_
  refine WL.val rfl (run_assign) ?_
  refine WL.nil ?_
  refine CW.seq <| CW.seq ?_
  refine CW.reg ?_
  refine WL.val rfl (run_move) ?_
  refine WL.val rfl (run_bF (run_neq rfl rfl) (by decide)) ?_
  refine WL.val rfl (run_move) ?_
  refine WL.yes rfl rfl rfl ?_; refine WL.val rfl (run_move) ?_
  refine WL.yes rfl rfl rfl ?_
  refine WL.val rfl (run_ptrNil Tryd.underlying25 rfl rfl) ?_
  refine WL.val rfl (run_pickF rfl) ?_
  refine WL.nil ?_
  refine CW.cond rfl (fun h => ?_) (fun h => ?_)
  · cases h
  repeat (first | refine CW.seq ?_ | refine CW.skip ?_)
  refine CW.reg ?_
  refine WL.makeSlice (k := 64) Tryd.underlying62 ty4 rfl (by omega) (by omega) rfl rfl rfl hs (fun b43 w hs => ?_)
  refine WL.val rfl (run_assign) ?_
  refine WL.nil ?_
  replace hs : Step [] ((b43, blk 4 (oC (opn (newS a b c l)))) :: (L1 ++ [(b4, blk 30 (quoC a b c))])) w0 w := by
    have h1 : opn (newS a b c l) = List.replicate 64 false := by
      unfold opn
      rw [hH0]
      rfl
    rw [h1, ← oC_rep]
    exact hs
  refine CW.seqM (fun f w => ∃ s L, VRep bf s L ∧ s.Sane ∧ s.Tree ∧ Step [] (L ++ [(b43, blk 4 (oC (opn s))), (b4, blk 30 (quoC a b c))]) w0 w ∧ Holds f [(7, .pointer (some ⟨bf, 0, none⟩))]) ?_ ?_
  · refine CW.seq ?_
    refine CW.reg ?_
    refine WL.val rfl (run_assign) ?_
    refine WL.nil ?_
    refine CW.block ?_
    refine CW.loop (fun z f w => ∃ i s L, i ≤ sc.length ∧ z = sc.length - i ∧ VRep bf s L ∧ s.Sane ∧ s.Tree ∧ s.Quo ∧ (s.qb = min a 67108864 ∧ s.qf = min b 65535 ∧ s.qo = min c 64) ∧ Step [] (L ++ [(b43, blk 4 (oC (opn s))), (b4, blk 30 (quoC a b c))]) w0 w ∧ Holds f [(2, .slice a2 sc.length c2), (4, .pointer (some ⟨b4, 0, none⟩)), (7, .pointer (some ⟨bf, 0, none⟩)), (9, .slice (some ⟨b43, 0, none⟩) 64 64), (10, .int .i64 i)]) (m := sc.length) ?_ ?_
    · exact ⟨0, _, L1, by omega, rfl, hR0, sn0, t0, q0, ⟨e1, e2, e3⟩, hs.perm perm_b1, rfl, rfl, rfl, rfl, rfl, trivial⟩
    clear hs hR0 sn0 t0 q0 hH0 e1 e2 e3 hits hnew hno
    rintro z f w ⟨i, s, L, hi, rfl, hR, sn, t, q, ⟨e1, e2, e3⟩, hs, hf⟩
    by_cases hlt : i < sc.length
    · have hobt : ∃ x, sc[i]? = some x := ⟨_, List.getElem?_eq_getElem hlt⟩
      obtain ⟨x, hx⟩ := hobt
      have hxo := hst.ok x (List.mem_of_getElem? hx)
      have hobt := hst.at hx
      obtain ⟨bs, os, cs, hc0, hat⟩ := hobt
      injection hc0 with hc1 hc2 hc3
      have hc4 := congrArg (fun z => Value.slice z sc.length c2) hc1
      rw [show Value.slice a2 sc.length c2 = Value.slice (some ⟨bs, os, none⟩) sc.length c2 from hc4] at hf
      have hdo := fun {w} (hs : Step [] (L ++ [(b43, blk 4 (oC (opn s))), (b4, blk 30 (quoC a b c))]) w0 w) => do_spec (x := x) hR sn t (hg.step hs) (hs.dropR.zero (by simp) hg) hs.own ⟨hxo.hk, hxo.hh, hxo.hn, hxo.hp, hxo.hb.step0 hs, hxo.lb⟩ (fun h => hxo.hb.step0 (hs.call h))
      have hobt := do_opn sn t x
      obtain ⟨hd7, hd1, hdn⟩ := hobt
      have hobt := do_keeps sn t x
      obtain ⟨sn2, t2⟩ := hobt
      have hobt := do_quo sn t q x
      obtain ⟨q2, g1, g2, g3⟩ := hobt
      have hobt : ∃ s2 res, s.doS x = (s2, res) := ⟨_, _, rfl⟩
      obtain ⟨s2, res, hsr⟩ := hobt
      simp only [hsr] at hdo hd7 hd1 hdn sn2 t2 q2 g1 g2 g3
      rw [e1] at g1
      rw [e2] at g2
      rw [e3] at g3
      have hxk : At w0 bs (os + i * 5) [.int .i64 x.k, .int .i64 x.h, .int .i64 x.n, str x.p, x.v] := hat
      have hobt := hf.chain
      obtain ⟨g, rfl⟩ := hobt
      have ok2 := sn2.ok
      have hD2 : 0 < s2.D.length := by
        have hobt := Option.isSome_iff_exists.1 sn2.root
        obtain ⟨j, hj⟩ := hobt
        unfold VS.dir at hj
        have := (List.findIdx?_eq_some_iff_getElem.1 hj).1
        omega
      have hl64 := opn_len s
      have hl642 := opn_len s2
      have hoc : (oC (opn s)).length = 64 := by rw [oC, List.length_map, hl64]
      refine CW.seq <| CW.seq ?_
      refine CW.reg ?_
      refine WL.val rfl (run_move) ?_
      refine WL.val rfl (run_move) ?_
      refine WL.val rfl (run_lenSl Tryd.underlying41 rfl) ?_
      refine WL.val rfl (run_bT (run_lss rfl rfl) (by omega)) ?_
      refine WL.nil ?_
      refine CW.cond rfl (fun h => ?_) (fun h => ?_)
      · repeat (first | refine CW.seq ?_ | refine CW.block ?_ | refine CW.skip ?_)
        refine CW.reg ?_
        refine WL.val rfl (run_move) ?_
        refine WL.val rfl (run_move) ?_
        refine WL.val rfl (run_move) ?_
        refine WL.val rfl (run_ixSlN Tryd.underlying41 ty47 rfl rfl (by omega)) ?_
        refine WL.val rfl (run_loadN ty47 rfl rfl (hxk.step hs (by simp))) ?_
        refine WL.enter rfl (run_call en13 rfl rfl) (hdo hs) ?_
        rintro e w ⟨L2, rfl, hR2, hq⟩
        refine ⟨_, rfl, ?_⟩
        replace hs := hs.call hq
        refine WL.val rfl (run_assign) ?_
        refine WL.nil ?_
        refine CW.seqM (fun f w => Step [] (L2 ++ [(b43, blk 4 (oC (if x.k = 7 then opn s2 else opn s))), (b4, blk 30 (quoC a b c))]) w0 w ∧ Holds f [(2, .slice (some ⟨bs, os, none⟩) sc.length c2), (4, .pointer (some ⟨b4, 0, none⟩)), (7, .pointer (some ⟨bf, 0, none⟩)), (9, .slice (some ⟨b43, 0, none⟩) 64 64), (10, .int .i64 i), (11, .int .i64 res)]) ?_ ?_
        · by_cases h7 : x.k = 7
          · rw [if_pos h7]
            by_cases hr : 0 ≤ x.h ∧ x.h < 64
            · have hobt : ∃ hn : Nat, x.h = hn := ⟨x.h.toNat, by omega⟩
              obtain ⟨hn, hhn⟩ := hobt
              have hd := (hd7 h7).1 hr
              rw [hhn, Int.toNat_natCast] at hd
              have hcl : ([.int .i64 x.k, .int .i64 x.h, .int .i64 x.n, str x.p, x.v] : List Value)[1]? = some (.int .i64 (hn : Nat)) := by show some (Value.int .i64 x.h) = _; rw [hhn]
              refine CW.seq ?_
              refine CW.reg ?_
              refine WL.val rfl (run_move) ?_
              refine WL.val rfl (run_move) ?_
              refine WL.val rfl (run_ixSlN Tryd.underlying41 ty47 rfl rfl (by omega)) ?_
              refine WL.val rfl (run_field (o' := 0) Tryd.underlying47 rfl ty3 rfl rfl rfl) ?_
              refine WL.val rfl (run_load1 ty3 rfl ((hxk.step hs (by simp)).cell (j := 0) rfl)) ?_
              refine WL.val rfl (run_bT (run_eql rfl rfl) (by exact h7)) ?_
              refine WL.val rfl (run_move) ?_
              refine WL.yes rfl rfl rfl ?_; refine WL.val rfl (run_move) ?_
              refine WL.yes rfl rfl rfl ?_; refine WL.val rfl (run_move) ?_
              refine WL.yes rfl rfl rfl ?_; (first | refine WL.val rfl (run_ixSlN Tryd.underlying41 ty47 rfl rfl (by omega)) ?_ | refine WL.val rfl (run_ixSl Tryd.underlying41 ty47 rfl rfl (by omega)) ?_)
              refine WL.yes rfl rfl rfl ?_; refine WL.val rfl (run_field (o' := 1) Tryd.underlying47 rfl ty3 rfl rfl rfl) ?_
              refine WL.yes rfl rfl rfl ?_
              refine WL.val rfl (run_load1 ty3 rfl ((hxk.step hs (by simp)).cell (j := 1) hcl)) ?_
              refine WL.yes rfl rfl rfl ?_
              refine WL.val rfl (run_bT (run_geq rfl rfl) (by omega)) ?_
              refine WL.val rfl (run_pickT rfl) ?_
              refine WL.val rfl (run_move) ?_
              refine WL.yes rfl rfl rfl ?_; refine WL.val rfl (run_move) ?_
              refine WL.yes rfl rfl rfl ?_; refine WL.val rfl (run_move) ?_
              refine WL.yes rfl rfl rfl ?_; (first | refine WL.val rfl (run_ixSlN Tryd.underlying41 ty47 rfl rfl (by omega)) ?_ | refine WL.val rfl (run_ixSl Tryd.underlying41 ty47 rfl rfl (by omega)) ?_)
              refine WL.yes rfl rfl rfl ?_; refine WL.val rfl (run_field (o' := 1) Tryd.underlying47 rfl ty3 rfl rfl rfl) ?_
              refine WL.yes rfl rfl rfl ?_
              refine WL.val rfl (run_load1 ty3 rfl ((hxk.step hs (by simp)).cell (j := 1) hcl)) ?_
              refine WL.yes rfl rfl rfl ?_
              refine WL.val rfl (run_bT (run_lss rfl rfl) (by omega)) ?_
              refine WL.val rfl (run_pickT rfl) ?_
              refine WL.nil ?_
              refine CW.cond rfl (fun hc => ?_) (fun hc => ?_)
              · replace hs := hs.perm perm_b1.symm
                refine CW.reg ?_
                refine WL.val rfl (run_move) ?_
                refine WL.val rfl (run_move) ?_
                refine WL.val rfl (run_move) ?_
                refine WL.val rfl (run_ixSlN Tryd.underlying41 ty47 rfl rfl (by omega)) ?_
                refine WL.val rfl (run_field (o' := 1) Tryd.underlying47 rfl ty3 rfl rfl rfl) ?_
                refine WL.val rfl (run_load1 ty3 rfl ((hxk.step hs (by simp)).cell (j := 1) hcl)) ?_
                refine WL.val rfl (run_ixSlN Tryd.underlying62 ty4 rfl rfl (by omega)) ?_
                refine WL.store1 ty4 rfl rfl (rfl) hs (by first | (simp; done) | omega | (simp only [List.length_append, List.length_replicate, List.length_cons, List.length_nil, List.length_set]; omega) | (simp [Ent.cells, u8s]; done) | exact Nat.le_of_ble_eq_true rfl) (fun w hs => ?_)
                refine WL.nil ?_
                refine ⟨rfl, ?_, rfl, rfl, rfl, rfl, rfl, rfl, trivial⟩
                rw [hd, ← oC_set]
                exact hs.perm perm_b1
              · cases hc
            · have hd := (hd7 h7).2 hr
              rw [hd]
              by_cases hneg : x.h < 0
              · refine CW.seq ?_
                refine CW.reg ?_
                refine WL.val rfl (run_move) ?_
                refine WL.val rfl (run_move) ?_
                refine WL.val rfl (run_ixSlN Tryd.underlying41 ty47 rfl rfl (by omega)) ?_
                refine WL.val rfl (run_field (o' := 0) Tryd.underlying47 rfl ty3 rfl rfl rfl) ?_
                refine WL.val rfl (run_load1 ty3 rfl ((hxk.step hs (by simp)).cell (j := 0) rfl)) ?_
                refine WL.val rfl (run_bT (run_eql rfl rfl) (by exact h7)) ?_
                refine WL.val rfl (run_move) ?_
                refine WL.yes rfl rfl rfl ?_; refine WL.val rfl (run_move) ?_
                refine WL.yes rfl rfl rfl ?_; refine WL.val rfl (run_move) ?_
                refine WL.yes rfl rfl rfl ?_; (first | refine WL.val rfl (run_ixSlN Tryd.underlying41 ty47 rfl rfl (by omega)) ?_ | refine WL.val rfl (run_ixSl Tryd.underlying41 ty47 rfl rfl (by omega)) ?_)
                refine WL.yes rfl rfl rfl ?_; refine WL.val rfl (run_field (o' := 1) Tryd.underlying47 rfl ty3 rfl rfl rfl) ?_
                refine WL.yes rfl rfl rfl ?_
                refine WL.val rfl (run_load1 ty3 rfl ((hxk.step hs (by simp)).cell (j := 1) rfl)) ?_
                refine WL.yes rfl rfl rfl ?_
                refine WL.val rfl (run_bF (run_geq rfl rfl) (by omega)) ?_
                refine WL.val rfl (run_pickT rfl) ?_
                refine WL.val rfl (run_move) ?_
                refine WL.no rfl rfl rfl (.inl rfl) ?_
                refine WL.no rfl rfl rfl (.inl rfl) ?_
                refine WL.no rfl rfl rfl (.inl rfl) ?_
                refine WL.no rfl rfl rfl (.inl rfl) ?_
                refine WL.no rfl rfl rfl (.inl rfl) ?_
                refine WL.no rfl rfl rfl (.inl rfl) ?_
                refine WL.val rfl (run_pickF rfl) ?_
                refine WL.nil ?_
                refine CW.cond rfl (fun hc => ?_) (fun hc => ?_)
                · cases hc
                refine CW.skip ?_
                exact ⟨rfl, hs, rfl, rfl, rfl, rfl, rfl, rfl, trivial⟩
              · refine CW.seq ?_
                refine CW.reg ?_
                refine WL.val rfl (run_move) ?_
                refine WL.val rfl (run_move) ?_
                refine WL.val rfl (run_ixSlN Tryd.underlying41 ty47 rfl rfl (by omega)) ?_
                refine WL.val rfl (run_field (o' := 0) Tryd.underlying47 rfl ty3 rfl rfl rfl) ?_
                refine WL.val rfl (run_load1 ty3 rfl ((hxk.step hs (by simp)).cell (j := 0) rfl)) ?_
                refine WL.val rfl (run_bT (run_eql rfl rfl) (by exact h7)) ?_
                refine WL.val rfl (run_move) ?_
                refine WL.yes rfl rfl rfl ?_; refine WL.val rfl (run_move) ?_
                refine WL.yes rfl rfl rfl ?_; refine WL.val rfl (run_move) ?_
                refine WL.yes rfl rfl rfl ?_; (first | refine WL.val rfl (run_ixSlN Tryd.underlying41 ty47 rfl rfl (by omega)) ?_ | refine WL.val rfl (run_ixSl Tryd.underlying41 ty47 rfl rfl (by omega)) ?_)
                refine WL.yes rfl rfl rfl ?_; refine WL.val rfl (run_field (o' := 1) Tryd.underlying47 rfl ty3 rfl rfl rfl) ?_
                refine WL.yes rfl rfl rfl ?_
                refine WL.val rfl (run_load1 ty3 rfl ((hxk.step hs (by simp)).cell (j := 1) rfl)) ?_
                refine WL.yes rfl rfl rfl ?_
                refine WL.val rfl (run_bT (run_geq rfl rfl) (by omega)) ?_
                refine WL.val rfl (run_pickT rfl) ?_
                refine WL.val rfl (run_move) ?_
                refine WL.yes rfl rfl rfl ?_; refine WL.val rfl (run_move) ?_
                refine WL.yes rfl rfl rfl ?_; refine WL.val rfl (run_move) ?_
                refine WL.yes rfl rfl rfl ?_; (first | refine WL.val rfl (run_ixSlN Tryd.underlying41 ty47 rfl rfl (by omega)) ?_ | refine WL.val rfl (run_ixSl Tryd.underlying41 ty47 rfl rfl (by omega)) ?_)
                refine WL.yes rfl rfl rfl ?_; refine WL.val rfl (run_field (o' := 1) Tryd.underlying47 rfl ty3 rfl rfl rfl) ?_
                refine WL.yes rfl rfl rfl ?_
                refine WL.val rfl (run_load1 ty3 rfl ((hxk.step hs (by simp)).cell (j := 1) rfl)) ?_
                refine WL.yes rfl rfl rfl ?_
                refine WL.val rfl (run_bF (run_lss rfl rfl) (by omega)) ?_
                refine WL.val rfl (run_pickT rfl) ?_
                refine WL.nil ?_
                refine CW.cond rfl (fun hc => ?_) (fun hc => ?_)
                · cases hc
                refine CW.skip ?_
                exact ⟨rfl, hs, rfl, rfl, rfl, rfl, rfl, rfl, trivial⟩
          · rw [if_neg h7]
            refine CW.seq ?_
            refine CW.reg ?_
            refine WL.val rfl (run_move) ?_
            refine WL.val rfl (run_move) ?_
            refine WL.val rfl (run_ixSlN Tryd.underlying41 ty47 rfl rfl (by omega)) ?_
            refine WL.val rfl (run_field (o' := 0) Tryd.underlying47 rfl ty3 rfl rfl rfl) ?_
            refine WL.val rfl (run_load1 ty3 rfl ((hxk.step hs (by simp)).cell (j := 0) rfl)) ?_
            refine WL.val rfl (run_bF (run_eql rfl rfl) (by exact h7)) ?_
            refine WL.val rfl (run_move) ?_
            refine WL.no rfl rfl rfl (.inl rfl) ?_
            refine WL.no rfl rfl rfl (.inl rfl) ?_
            refine WL.no rfl rfl rfl (.inl rfl) ?_
            refine WL.no rfl rfl rfl (.inl rfl) ?_
            refine WL.no rfl rfl rfl (.inl rfl) ?_
            refine WL.no rfl rfl rfl (.inl rfl) ?_
            refine WL.val rfl (run_pickF rfl) ?_
            refine WL.val rfl (run_move) ?_
            refine WL.no rfl rfl rfl (.inl rfl) ?_
            refine WL.no rfl rfl rfl (.inl rfl) ?_
            refine WL.no rfl rfl rfl (.inl rfl) ?_
            refine WL.no rfl rfl rfl (.inl rfl) ?_
            refine WL.no rfl rfl rfl (.inl rfl) ?_
            refine WL.no rfl rfl rfl (.inl rfl) ?_
            refine WL.val rfl (run_pickF rfl) ?_
            refine WL.nil ?_
            refine CW.cond rfl (fun hc => ?_) (fun hc => ?_)
            · cases hc
            refine CW.skip ?_
            exact ⟨rfl, hs, rfl, rfl, rfl, rfl, rfl, rfl, trivial⟩
        clear hs
        rintro f w ⟨hs, hf⟩
        refine CW.seqM (fun f w => Step [] (L2 ++ [(b43, blk 4 (oC (opn s2))), (b4, blk 30 (quoC a b c))]) w0 w ∧ Holds f [(2, .slice (some ⟨bs, os, none⟩) sc.length c2), (4, .pointer (some ⟨b4, 0, none⟩)), (7, .pointer (some ⟨bf, 0, none⟩)), (9, .slice (some ⟨b43, 0, none⟩) 64 64), (10, .int .i64 i)]) ?_ ?_
        · by_cases h1 : x.k = 1
          · rw [if_neg (show ¬ x.k = 7 by omega)] at hs
            rcases hd1 h1 with ⟨hneg, he⟩ | ⟨hh, hres, h64, hfree, hbef, he⟩
            · have hobt := hf.chain
              obtain ⟨g, rfl⟩ := hobt
              rw [he]
              refine CW.seq ?_
              refine CW.reg ?_
              refine WL.val rfl (run_move) ?_
              refine WL.val rfl (run_move) ?_
              refine WL.val rfl (run_ixSlN Tryd.underlying41 ty47 rfl rfl (by omega)) ?_
              refine WL.val rfl (run_field (o' := 0) Tryd.underlying47 rfl ty3 rfl rfl rfl) ?_
              refine WL.val rfl (run_load1 ty3 rfl ((hxk.step hs (by simp)).cell (j := 0) rfl)) ?_
              refine WL.val rfl (run_bT (run_eql rfl rfl) (by exact h1)) ?_
              refine WL.val rfl (run_move) ?_
              refine WL.yes rfl rfl rfl ?_; refine WL.val rfl (run_move) ?_
              refine WL.yes rfl rfl rfl ?_
              refine WL.val rfl (run_bF (run_geq rfl rfl) (by omega)) ?_
              refine WL.val rfl (run_pickT rfl) ?_
              refine WL.nil ?_
              refine CW.cond rfl (fun hc => ?_) (fun hc => ?_)
              · cases hc
              refine CW.skip ?_
              exact ⟨rfl, hs, rfl, rfl, rfl, rfl, rfl, trivial⟩
            · rw [hres] at hf
              have hobt := hf.chain
              obtain ⟨g, rfl⟩ := hobt
              refine CW.seq ?_
              refine CW.reg ?_
              refine WL.val rfl (run_move) ?_
              refine WL.val rfl (run_move) ?_
              refine WL.val rfl (run_ixSlN Tryd.underlying41 ty47 rfl rfl (by omega)) ?_
              refine WL.val rfl (run_field (o' := 0) Tryd.underlying47 rfl ty3 rfl rfl rfl) ?_
              refine WL.val rfl (run_load1 ty3 rfl ((hxk.step hs (by simp)).cell (j := 0) rfl)) ?_
              refine WL.val rfl (run_bT (run_eql rfl rfl) (by exact h1)) ?_
              refine WL.val rfl (run_move) ?_
              refine WL.yes rfl rfl rfl ?_; refine WL.val rfl (run_move) ?_
              refine WL.yes rfl rfl rfl ?_
              refine WL.val rfl (run_bT (run_geq rfl rfl) (by omega)) ?_
              refine WL.val rfl (run_pickT rfl) ?_
              refine WL.nil ?_
              refine CW.cond rfl (fun hc => ?_) (fun hc => ?_)
              · refine CW.seq <| CW.seq ?_
                refine CW.reg ?_
                refine WL.val rfl (run_move) ?_
                refine WL.val rfl (run_bF (run_geq rfl rfl) (by omega)) ?_
                refine WL.val rfl (run_move) ?_
                refine WL.yes rfl rfl rfl ?_; refine WL.val rfl (run_move) ?_
                refine WL.yes rfl rfl rfl ?_; refine WL.val rfl (run_move) ?_
                refine WL.yes rfl rfl rfl ?_; (first | refine WL.val rfl (run_ixSlN Tryd.underlying62 ty4 rfl rfl (by omega)) ?_ | refine WL.val rfl (run_ixSl Tryd.underlying62 ty4 rfl rfl (by omega)) ?_)
                refine WL.yes rfl rfl rfl ?_
                refine WL.val rfl (run_load1 ty4 rfl ((bool_at hs hfree))) ?_
                refine WL.val rfl (run_pickF rfl) ?_
                refine WL.nil ?_
                refine CW.cond rfl (fun hc2 => ?_) (fun hc2 => ?_)
                · cases hc2
                refine CW.skip ?_
                refine CW.seqM (fun f w => Step [] (L2 ++ [(b43, blk 4 (oC (opn s))), (b4, blk 30 (quoC a b c))]) w0 w ∧ Holds f [(2, .slice (some ⟨bs, os, none⟩) sc.length c2), (4, .pointer (some ⟨b4, 0, none⟩)), (7, .pointer (some ⟨bf, 0, none⟩)), (9, .slice (some ⟨b43, 0, none⟩) 64 64), (10, .int .i64 i), (11, .int .i64 hh)]) ?_ ?_
                · refine CW.seq ?_
                  refine CW.reg ?_
                  refine WL.val rfl (run_assign) ?_
                  refine WL.nil ?_
                  refine CW.block ?_
                  refine CW.loop (fun z f w => ∃ k, k ≤ hh ∧ z = hh - k ∧ Step [] (L2 ++ [(b43, blk 4 (oC (opn s))), (b4, blk 30 (quoC a b c))]) w0 w ∧ Holds f [(2, .slice (some ⟨bs, os, none⟩) sc.length c2), (4, .pointer (some ⟨b4, 0, none⟩)), (7, .pointer (some ⟨bf, 0, none⟩)), (9, .slice (some ⟨b43, 0, none⟩) 64 64), (10, .int .i64 i), (11, .int .i64 hh), (12, .int .i64 k)]) (m := hh) ?_ ?_
                  · exact ⟨0, by omega, by omega, hs, rfl, rfl, rfl, rfl, rfl, rfl, rfl, trivial⟩
                  clear hs
                  rintro z f w ⟨k, hk, rfl, hs, hf⟩
                  have hobt := hf.chain
                  obtain ⟨g, rfl⟩ := hobt
                  by_cases hkh : k < hh
                  · refine CW.seq <| CW.seq ?_
                    refine CW.reg ?_
                    refine WL.val rfl (run_move) ?_
                    refine WL.val rfl (run_move) ?_
                    refine WL.val rfl (run_bT (run_lss rfl rfl) (by omega)) ?_
                    refine WL.nil ?_
                    refine CW.cond rfl (fun hc3 => ?_) (fun hc3 => ?_)
                    · repeat (first | refine CW.seq ?_ | refine CW.block ?_ | refine CW.skip ?_)
                      refine CW.reg ?_
                      refine WL.val rfl (run_move) ?_
                      refine WL.val rfl (run_move) ?_
                      refine WL.val rfl (run_ixSlN Tryd.underlying62 ty4 rfl rfl (by omega)) ?_
                      refine WL.val rfl (run_load1 ty4 rfl ((bool_at hs (hbef k hkh)))) ?_
                      refine WL.val rfl (run_not rfl) ?_
                      refine WL.nil ?_
                      refine CW.cond rfl (fun hc4 => ?_) (fun hc4 => ?_)
                      · cases hc4
                      refine CW.skip ?_
                      refine CW.reg ?_
                      refine WL.val rfl (run_move) ?_
                      refine WL.val rfl (run_add (c := ((k + 1 : Nat) : Int)) rfl rfl (by omega) (by omega)) ?_
                      refine WL.val rfl (run_assign) ?_
                      refine WL.nil ?_
                      refine (show _ ∧ _ from ⟨rfl, _, ?_, k + 1, by omega, rfl, hs, rfl, rfl, rfl, rfl, rfl, rfl, rfl, trivial⟩)
                      omega
                    · cases hc3
                  · refine CW.seq <| CW.seq ?_
                    refine CW.reg ?_
                    refine WL.val rfl (run_move) ?_
                    refine WL.val rfl (run_move) ?_
                    refine WL.val rfl (run_bF (run_lss rfl rfl) (by omega)) ?_
                    refine WL.nil ?_
                    refine CW.cond rfl (fun hc3 => ?_) (fun hc3 => ?_)
                    · cases hc3
                    refine CW.exit ?_
                    exact ⟨rfl, hs, rfl, rfl, rfl, rfl, rfl, rfl, trivial⟩
                clear hs
                rintro f w ⟨hs, hf⟩
                have hobt := hf.chain
                obtain ⟨g, rfl⟩ := hobt
                replace hs := hs.perm perm_b1.symm
                refine CW.reg ?_
                refine WL.val rfl (run_move) ?_
                refine WL.val rfl (run_move) ?_
                refine WL.val rfl (run_ixSlN Tryd.underlying62 ty4 rfl rfl (by omega)) ?_
                refine WL.store1 ty4 rfl rfl (rfl) hs (by first | (simp; done) | omega | (simp only [List.length_append, List.length_replicate, List.length_cons, List.length_nil, List.length_set]; omega) | (simp [Ent.cells, u8s]; done) | exact Nat.le_of_ble_eq_true rfl) (fun w hs => ?_)
                refine WL.nil ?_
                refine ⟨rfl, ?_, rfl, rfl, rfl, rfl, rfl, trivial⟩
                rw [he, ← oC_set]
                exact hs.perm perm_b1
              · cases hc
          · have hobt := hf.chain
            obtain ⟨g, rfl⟩ := hobt
            have he : (if x.k = 7 then opn s2 else opn s) = opn s2 := by
              by_cases h7 : x.k = 7
              · rw [if_pos h7]
              · rw [if_neg h7, hdn h7 h1]
            rw [he] at hs
            refine CW.seq ?_
            refine CW.reg ?_
            refine WL.val rfl (run_move) ?_
            refine WL.val rfl (run_move) ?_
            refine WL.val rfl (run_ixSlN Tryd.underlying41 ty47 rfl rfl (by omega)) ?_
            refine WL.val rfl (run_field (o' := 0) Tryd.underlying47 rfl ty3 rfl rfl rfl) ?_
            refine WL.val rfl (run_load1 ty3 rfl ((hxk.step hs (by simp)).cell (j := 0) rfl)) ?_
            refine WL.val rfl (run_bF (run_eql rfl rfl) (by exact h1)) ?_
            refine WL.val rfl (run_move) ?_
            refine WL.no rfl rfl rfl (.inl rfl) ?_
            refine WL.no rfl rfl rfl (.inl rfl) ?_
            refine WL.val rfl (run_pickF rfl) ?_
            refine WL.nil ?_
            refine CW.cond rfl (fun hc => ?_) (fun hc => ?_)
            · cases hc
            refine CW.skip ?_
            exact ⟨rfl, hs, rfl, rfl, rfl, rfl, rfl, trivial⟩
        clear hs
        rintro f w ⟨hs, hf⟩
        have hobt := hf.chain
        obtain ⟨g, rfl⟩ := hobt
        have hcnt : (((opn s2).take 64).filter id).length = s2.op := by
          rw [List.take_of_length_le (by omega), sn2.op]
          exact cnt_opn s2.H 64 sn2.hl
        have hR3 := hR2
        obtain ⟨mf, md, vh, Lh, Fs, Ds, Hs, o2⟩ := hR3
        have hpl := fun {w} k hw => place_spec (w0 := w) (h := k) o2 ok2 hw
        have hus := fun {w} hw => used_spec (w0 := w) o2 ok2 hD2 hw
        refine CW.seq ?_
        refine CW.reg ?_
        refine WL.val rfl (run_assign) ?_
        refine WL.nil ?_
        refine CW.seqM (fun f w => Step [] (L2 ++ [(b43, blk 4 (oC (opn s2))), (b4, blk 30 (quoC a b c))]) w0 w ∧ Holds f [(2, .slice (some ⟨bs, os, none⟩) sc.length c2), (4, .pointer (some ⟨b4, 0, none⟩)), (7, .pointer (some ⟨bf, 0, none⟩)), (9, .slice (some ⟨b43, 0, none⟩) 64 64), (10, .int .i64 i), (13, .int .i64 (s2.op : Nat))]) ?_ ?_
        · refine CW.seq ?_
          refine CW.reg ?_
          refine WL.val rfl (run_assign) ?_
          refine WL.nil ?_
          refine CW.block ?_
          refine CW.loop (fun z f w => ∃ k : Nat, k ≤ 64 ∧ z = 64 - k ∧ Step [] (L2 ++ [(b43, blk 4 (oC (opn s2))), (b4, blk 30 (quoC a b c))]) w0 w ∧ Holds f [(2, .slice (some ⟨bs, os, none⟩) sc.length c2), (4, .pointer (some ⟨b4, 0, none⟩)), (7, .pointer (some ⟨bf, 0, none⟩)), (9, .slice (some ⟨b43, 0, none⟩) 64 64), (10, .int .i64 i), (13, .int .i64 ((((opn s2).take k).filter id).length : Nat)), (14, .int .i64 k)]) (m := 64) ?_ ?_
          · exact ⟨0, by omega, by omega, hs, rfl, rfl, rfl, rfl, rfl, rfl, rfl, trivial⟩
          clear hs
          rintro z f w ⟨k, hk, rfl, hs, hf⟩
          have hobt := hf.chain
          obtain ⟨g, rfl⟩ := hobt
          by_cases hk64 : k < 64
          · have hobt : ∃ pp pl pe, s2.place k = (pp, pl, pe) := ⟨_, _, _, rfl⟩
            obtain ⟨pp, pl, pe, hpe⟩ := hobt
            have hplk := fun {w} hw => hpl (w := w) (k : Nat) hw
            simp only [hpe] at hplk
            have hpv := place_e (s := s2) (k := k)
            rw [hpe] at hpv
            have hpv : pe = if opn1 s2.H k = true then 0 else 95 := hpv
            have hgk := opn_get (s := s2) hk64
            have hstep : ((opn s2).take (k + 1)).filter id = ((opn s2).take k).filter id ++ (if opn1 s2.H k = true then [true] else []) := by
              have hobt := List.getElem?_eq_some_iff.1 hgk
              obtain ⟨u1, u2⟩ := hobt
              rw [← List.take_append_getElem u1, u2, List.filter_append]
              cases opn1 s2.H k <;> rfl
            have hcl : (((opn s2).take k).filter id).length ≤ k := by
              have h1 := List.length_filter_le id ((opn s2).take k)
              rw [List.length_take] at h1
              omega
            have hobt : ∃ bb, opn1 s2.H k = bb := ⟨_, rfl⟩
            obtain ⟨bb, hbb⟩ := hobt
            rw [hbb] at hpv hgk hstep
            have hb2 : bb = true ∨ bb = false := by cases bb <;> simp
            refine CW.seq <| CW.seq ?_
            refine CW.reg ?_
            refine WL.val rfl (run_move) ?_
            refine WL.val rfl (run_bT (run_lss rfl rfl) (by omega)) ?_
            refine WL.nil ?_
            refine CW.cond rfl (fun hc => ?_) (fun hc => ?_)
            · repeat (first | refine CW.seq ?_ | refine CW.block ?_ | refine CW.skip ?_)
              refine CW.reg ?_
              refine WL.val rfl (run_move) ?_
              refine WL.val rfl (run_move) ?_
              refine WL.enter rfl (run_call en22 rfl rfl) (hplk (fun p hp => hs.has p (by simp [hp]))) ?_
              rintro e w ⟨rfl, hq⟩
              refine ⟨_, rfl, ?_⟩
              replace hs := hs.callE hq
              refine WL.val rfl (run_move) ?_
              refine WL.val rfl (run_extract rfl rfl) ?_
              refine WL.val rfl (run_extract rfl rfl) ?_
              refine WL.val rfl (run_extract rfl rfl) ?_
              refine WL.val rfl (run_assign) ?_
              refine WL.val rfl (run_assign) ?_
              refine WL.val rfl (run_assign) ?_
              refine WL.nil ?_
              rcases hb2 with rfl | rfl
              · have hpv : pe = 0 := hpv
                have hstep2 := congrArg List.length hstep
                rw [List.length_append] at hstep2
                have hstep2 : (((opn s2).take (k + 1)).filter id).length = (((opn s2).take k).filter id).length + 1 := hstep2
                refine CW.seq <| CW.seq ?_
                refine CW.reg ?_
                refine WL.val rfl (run_move) ?_
                refine WL.val rfl (run_bT (run_eql rfl rfl) (by exact hpv)) ?_
                refine WL.val rfl (run_move) ?_
                refine WL.val rfl (run_move) ?_
                refine WL.val rfl (run_ixSlN Tryd.underlying62 ty4 rfl rfl (by omega)) ?_
                refine WL.val rfl (run_load1 ty4 rfl ((bool_at hs hgk))) ?_
                refine WL.val rfl (run_neqB Tryd.underlying4 rfl rfl) ?_
                refine WL.nil ?_
                refine CW.cond rfl (fun hc2 => ?_) (fun hc2 => ?_)
                · cases hc2
                repeat (first | refine CW.seq ?_ | refine CW.skip ?_)
                refine CW.reg ?_
                refine WL.val rfl (run_move) ?_
                refine WL.val rfl (run_move) ?_
                refine WL.val rfl (run_ixSlN Tryd.underlying62 ty4 rfl rfl (by omega)) ?_
                refine WL.val rfl (run_load1 ty4 rfl ((bool_at hs hgk))) ?_
                refine WL.nil ?_
                refine CW.cond rfl (fun hc3 => ?_) (fun hc3 => ?_)
                · skip
                  refine CW.reg ?_
                  refine WL.val rfl (run_move) ?_
                  refine WL.val rfl (run_add (c := (((((opn s2).take (k + 1)).filter id).length : Nat) : Int)) rfl rfl (by omega) (by omega)) ?_
                  refine WL.val rfl (run_assign) ?_
                  refine WL.nil ?_
                  refine CW.reg ?_
                  refine WL.val rfl (run_move) ?_
                  refine WL.val rfl (run_add (c := ((k + 1 : Nat) : Int)) rfl rfl (by omega) (by omega)) ?_
                  refine WL.val rfl (run_assign) ?_
                  refine WL.nil ?_
                  refine (show _ ∧ _ from ⟨rfl, _, ?_, k + 1, by omega, rfl, hs, rfl, rfl, rfl, rfl, rfl, rfl, rfl, trivial⟩)
                  omega
                · cases hc3
              · have hpv : pe = 95 := hpv
                have hstep2 := congrArg List.length hstep
                rw [List.length_append] at hstep2
                have hstep2 : (((opn s2).take (k + 1)).filter id).length = (((opn s2).take k).filter id).length := hstep2
                have hcv : Value.int .i64 ((((opn s2).take k).filter id).length : Nat) = .int .i64 ((((opn s2).take (k + 1)).filter id).length : Nat) := by rw [hstep2]
                refine CW.seq <| CW.seq ?_
                refine CW.reg ?_
                refine WL.val rfl (run_move) ?_
                refine WL.val rfl (run_bF (run_eql rfl rfl) (by omega)) ?_
                refine WL.val rfl (run_move) ?_
                refine WL.val rfl (run_move) ?_
                refine WL.val rfl (run_ixSlN Tryd.underlying62 ty4 rfl rfl (by omega)) ?_
                refine WL.val rfl (run_load1 ty4 rfl ((bool_at hs hgk))) ?_
                refine WL.val rfl (run_neqB Tryd.underlying4 rfl rfl) ?_
                refine WL.nil ?_
                refine CW.cond rfl (fun hc2 => ?_) (fun hc2 => ?_)
                · cases hc2
                repeat (first | refine CW.seq ?_ | refine CW.skip ?_)
                refine CW.reg ?_
                refine WL.val rfl (run_move) ?_
                refine WL.val rfl (run_move) ?_
                refine WL.val rfl (run_ixSlN Tryd.underlying62 ty4 rfl rfl (by omega)) ?_
                refine WL.val rfl (run_load1 ty4 rfl ((bool_at hs hgk))) ?_
                refine WL.nil ?_
                refine CW.cond rfl (fun hc3 => ?_) (fun hc3 => ?_)
                · cases hc3
                refine CW.skip ?_
                refine CW.reg ?_
                refine WL.val rfl (run_move) ?_
                refine WL.val rfl (run_add (c := ((k + 1 : Nat) : Int)) rfl rfl (by omega) (by omega)) ?_
                refine WL.val rfl (run_assign) ?_
                refine WL.nil ?_
                refine (show _ ∧ _ from ⟨rfl, _, ?_, k + 1, by omega, rfl, hs, rfl, rfl, rfl, rfl, rfl, hcv, rfl, trivial⟩)
                omega
            · cases hc
          · obtain rfl : k = 64 := by omega
            have hcv : Value.int .i64 ((((opn s2).take 64).filter id).length : Nat) = .int .i64 (s2.op : Nat) := by rw [hcnt]
            refine CW.seq <| CW.seq ?_
            refine CW.reg ?_
            refine WL.val rfl (run_move) ?_
            refine WL.val rfl (run_bF (run_lss rfl rfl) (by omega)) ?_
            refine WL.nil ?_
            refine CW.cond rfl (fun hc => ?_) (fun hc => ?_)
            · cases hc
            refine CW.exit ?_
            exact ⟨rfl, hs, rfl, rfl, rfl, rfl, rfl, hcv, trivial⟩
        clear hs
        rintro f w ⟨hs, hf⟩
        have hobt := hf.chain
        obtain ⟨g, rfl⟩ := hobt
        have hq4 := fun {A : List (Nat × Obj)} {w : World} (hs : Step [] (A ++ [(b43, blk 4 (oC (opn s2))), (b4, blk 30 (quoC a b c))]) w0 w) => At.of_blk (hs.has (b4, blk 30 (quoC a b c)) (by simp))
        have hqb : (s2.by_ : Int) ≤ a := Int.le_trans q2.b (by rw [g1]; exact Int.min_le_left _ _)
        have hqf : (s2.items : Int) ≤ b := Int.le_trans q2.f (by rw [g2]; exact Int.min_le_left _ _)
        have hqo : s2.op = 0 ∨ (s2.op : Int) ≤ c := q2.o.imp id fun h => Int.le_trans h (by rw [g3]; exact Int.min_le_left _ _)
        refine CW.seq ?_
        refine CW.reg ?_
        refine WL.val rfl (run_move) ?_
        refine WL.enter rfl (run_call en23 rfl rfl) (hus (fun p hp => hs.has p (by simp [hp]))) ?_
        rintro e w ⟨rfl, hq⟩
        refine ⟨_, rfl, ?_⟩
        replace hs := hs.callE hq
        refine WL.alloc ty30 rfl hs (fun b18 w hs => ?_)
        refine WL.storeAll ty30 rfl rfl ((rfl)) (Cells1.of_all rfl) hs (by first | rfl | assumption) (fun w hs => ?_)
        refine WL.nil ?_
        by_cases hop0 : s2.op = 0
        · refine CW.seq ?_
          refine CW.reg ?_
          refine WL.val rfl (run_field (o' := 0) Tryd.underlying30 rfl ty3 rfl rfl rfl) ?_
          refine WL.val rfl (run_load1 ty3 rfl (hs.c0 (v := .int .i64 (s2.by_ : Nat)) rfl)) ?_
          refine WL.val rfl (run_field (o' := 0) Tryd.underlying30 rfl ty3 rfl rfl rfl) ?_
          refine WL.val rfl (run_load1 ty3 rfl ((hq4 (A := _ :: L2) hs).cell (j := 0) rfl)) ?_
          refine WL.val rfl (run_bF (run_gtr rfl rfl) (by exact Int.not_lt.2 hqb)) ?_
          refine WL.val rfl (run_move) ?_
          refine WL.yes rfl rfl rfl ?_; refine WL.val rfl (run_field (o' := 1) Tryd.underlying30 rfl ty3 rfl rfl rfl) ?_
          refine WL.yes rfl rfl rfl ?_
          refine WL.val rfl (run_load1 ty3 rfl (hs.c0 (v := .int .i64 (s2.items : Nat)) rfl)) ?_
          refine WL.yes rfl rfl rfl ?_; refine WL.val rfl (run_field (o' := 1) Tryd.underlying30 rfl ty3 rfl rfl rfl) ?_
          refine WL.yes rfl rfl rfl ?_
          refine WL.val rfl (run_load1 ty3 rfl ((hq4 (A := _ :: L2) hs).cell (j := 1) rfl)) ?_
          refine WL.yes rfl rfl rfl ?_
          refine WL.val rfl (run_bF (run_gtr rfl rfl) (by exact Int.not_lt.2 hqf)) ?_
          refine WL.val rfl (run_pickF rfl) ?_
          refine WL.val rfl (run_move) ?_
          refine WL.yes rfl rfl rfl ?_; refine WL.val rfl (run_field (o' := 2) Tryd.underlying30 rfl ty3 rfl rfl rfl) ?_
          refine WL.yes rfl rfl rfl ?_
          refine WL.val rfl (run_load1 ty3 rfl (hs.c0 (v := .int .i64 (s2.op : Nat)) rfl)) ?_
          refine WL.yes rfl rfl rfl ?_; refine WL.val rfl (run_move) ?_
          refine WL.yes rfl rfl rfl ?_
          refine WL.val rfl (run_bF (run_neq rfl rfl) (by exact fun h => h rfl)) ?_
          refine WL.val rfl (run_pickF rfl) ?_
          refine WL.val rfl (run_move) ?_
          refine WL.yes rfl rfl rfl ?_; refine WL.val rfl (run_move) ?_
          refine WL.yes rfl rfl rfl ?_
          refine WL.val rfl (run_bF (run_gtr rfl rfl) (by exact fun h => absurd (show 0 < ((s2.op : Nat) : Int) from h) (by rw [hop0]; decide))) ?_
          refine WL.yes rfl rfl rfl ?_; refine WL.val rfl (run_move) ?_
          refine WL.no rfl rfl rfl (.inl rfl) ?_
          refine WL.no rfl rfl rfl (.inl rfl) ?_
          refine WL.no rfl rfl rfl (.inl rfl) ?_
          refine WL.no rfl rfl rfl (.inl rfl) ?_
          refine WL.yes rfl rfl rfl ?_; (first | refine WL.val rfl (run_pickT rfl) ?_ | refine WL.val rfl (run_pickF rfl) ?_)
          refine WL.val rfl (run_pickF rfl) ?_
          refine WL.nil ?_
          refine CW.cond rfl (fun hc => ?_) (fun hc => ?_)
          · cases hc
          refine CW.skip ?_
          refine CW.reg ?_
          refine WL.val rfl (run_move) ?_
          refine WL.val rfl (run_add (c := ((i + 1 : Nat) : Int)) rfl rfl (by omega) (by omega)) ?_
          refine WL.val rfl (run_assign) ?_
          refine WL.nil ?_
          refine (show _ ∧ _ from ⟨rfl, _, ?_, i + 1, s2, L2, by omega, rfl, hR2, sn2, t2, q2, ⟨g1, g2, g3⟩, hs.tail, hc4.symm, rfl, rfl, rfl, rfl, trivial⟩)
          omega
        · refine CW.seq ?_
          refine CW.reg ?_
          refine WL.val rfl (run_field (o' := 0) Tryd.underlying30 rfl ty3 rfl rfl rfl) ?_
          refine WL.val rfl (run_load1 ty3 rfl (hs.c0 (v := .int .i64 (s2.by_ : Nat)) rfl)) ?_
          refine WL.val rfl (run_field (o' := 0) Tryd.underlying30 rfl ty3 rfl rfl rfl) ?_
          refine WL.val rfl (run_load1 ty3 rfl ((hq4 (A := _ :: L2) hs).cell (j := 0) rfl)) ?_
          refine WL.val rfl (run_bF (run_gtr rfl rfl) (by exact Int.not_lt.2 hqb)) ?_
          refine WL.val rfl (run_move) ?_
          refine WL.yes rfl rfl rfl ?_; refine WL.val rfl (run_field (o' := 1) Tryd.underlying30 rfl ty3 rfl rfl rfl) ?_
          refine WL.yes rfl rfl rfl ?_
          refine WL.val rfl (run_load1 ty3 rfl (hs.c0 (v := .int .i64 (s2.items : Nat)) rfl)) ?_
          refine WL.yes rfl rfl rfl ?_; refine WL.val rfl (run_field (o' := 1) Tryd.underlying30 rfl ty3 rfl rfl rfl) ?_
          refine WL.yes rfl rfl rfl ?_
          refine WL.val rfl (run_load1 ty3 rfl ((hq4 (A := _ :: L2) hs).cell (j := 1) rfl)) ?_
          refine WL.yes rfl rfl rfl ?_
          refine WL.val rfl (run_bF (run_gtr rfl rfl) (by exact Int.not_lt.2 hqf)) ?_
          refine WL.val rfl (run_pickF rfl) ?_
          refine WL.val rfl (run_move) ?_
          refine WL.yes rfl rfl rfl ?_; refine WL.val rfl (run_field (o' := 2) Tryd.underlying30 rfl ty3 rfl rfl rfl) ?_
          refine WL.yes rfl rfl rfl ?_
          refine WL.val rfl (run_load1 ty3 rfl (hs.c0 (v := .int .i64 (s2.op : Nat)) rfl)) ?_
          refine WL.yes rfl rfl rfl ?_; refine WL.val rfl (run_move) ?_
          refine WL.yes rfl rfl rfl ?_
          refine WL.val rfl (run_bF (run_neq rfl rfl) (by exact fun h => h rfl)) ?_
          refine WL.val rfl (run_pickF rfl) ?_
          refine WL.val rfl (run_move) ?_
          refine WL.yes rfl rfl rfl ?_; refine WL.val rfl (run_move) ?_
          refine WL.yes rfl rfl rfl ?_
          refine WL.val rfl (run_bT (run_gtr rfl rfl) (by exact Int.natCast_pos.2 (Nat.pos_of_ne_zero hop0))) ?_
          refine WL.yes rfl rfl rfl ?_; refine WL.val rfl (run_move) ?_
          refine WL.yes rfl rfl rfl ?_; refine WL.val rfl (run_move) ?_
          refine WL.yes rfl rfl rfl ?_; refine WL.val rfl (run_field (o' := 2) Tryd.underlying30 rfl ty3 rfl rfl rfl) ?_
          refine WL.yes rfl rfl rfl ?_
          refine WL.val rfl (run_load1 ty3 rfl ((hq4 (A := _ :: L2) hs).cell (j := 2) rfl)) ?_
          refine WL.yes rfl rfl rfl ?_
          refine WL.val rfl (run_bF (run_gtr rfl rfl) (by exact Int.not_lt.2 (hqo.resolve_left hop0))) ?_
          refine WL.yes rfl rfl rfl ?_; (first | refine WL.val rfl (run_pickT rfl) ?_ | refine WL.val rfl (run_pickF rfl) ?_)
          refine WL.val rfl (run_pickF rfl) ?_
          refine WL.nil ?_
          refine CW.cond rfl (fun hc => ?_) (fun hc => ?_)
          · cases hc
          refine CW.skip ?_
          refine CW.reg ?_
          refine WL.val rfl (run_move) ?_
          refine WL.val rfl (run_add (c := ((i + 1 : Nat) : Int)) rfl rfl (by omega) (by omega)) ?_
          refine WL.val rfl (run_assign) ?_
          refine WL.nil ?_
          refine (show _ ∧ _ from ⟨rfl, _, ?_, i + 1, s2, L2, by omega, rfl, hR2, sn2, t2, q2, ⟨g1, g2, g3⟩, hs.tail, hc4.symm, rfl, rfl, rfl, rfl, trivial⟩)
          omega
      · cases h
    · have hobt := hf.chain
      obtain ⟨g, rfl⟩ := hobt
      refine CW.seq <| CW.seq ?_
      refine CW.reg ?_
      refine WL.val rfl (run_move) ?_
      refine WL.val rfl (run_move) ?_
      refine WL.val rfl (run_lenSl Tryd.underlying41 rfl) ?_
      refine WL.val rfl (run_bF (run_lss rfl rfl) (by omega)) ?_
      refine WL.nil ?_
      refine CW.cond rfl (fun h => ?_) (fun h => ?_)
      · cases h
      refine CW.exit ?_
      exact ⟨rfl, s, L, hR, sn, t, hs, rfl, trivial⟩
  clear hs hR0 sn0 t0 q0 hH0 e1 e2 e3 hits hnew hno
  rintro f w ⟨s, L, hR, sn, t, hs, hf⟩
  have hobt := hf.chain
  obtain ⟨g, rfl⟩ := hobt
  have ok := sn.ok
  have hD0 : 0 < s.D.length := by
    have hobt := Option.isSome_iff_exists.1 sn.root
    obtain ⟨j, hj⟩ := hobt
    unfold VS.dir at hj
    have := (List.findIdx?_eq_some_iff_getElem.1 hj).1
    omega
  have T := tree_items sn t
  have hil := items_len sn t
  have hisum := items_sum sn
  have hR1 := hR
  obtain ⟨mf, md, vh, Lh, Fs, Ds, Hs, o⟩ := hR1
  have hit := fun {w} hg hw => allItems_spec (w0 := w) o ok t hg hw
  have hus := fun {w} hw => used_spec (w0 := w) o ok hD0 hw
  refine CW.seq ?_
  refine CW.reg ?_
  refine WL.val rfl (run_move) ?_
  refine WL.enter rfl (run_call en14 rfl rfl) (hit (hg.step hs) (fun p hp => hs.has p (by simp [hp]))) ?_
  rintro e w ⟨u, Lu, R, rfl, habs, hu, hRo, hq⟩
  refine ⟨_, rfl, ?_⟩
  replace hs := hs.call0 hq
  refine WL.val rfl (run_assign) ?_
  refine WL.nil ?_
  have hRo2 : ∀ r ∈ R, ∃ a c, r.v = .slice a r.x.length c := fun r hr => (hRo r hr).form
  have hobt : ∃ X, absR R = X := ⟨_, rfl⟩
  obtain ⟨X, hX⟩ := hobt
  have hobt : ∃ n, R.length = n := ⟨_, rfl⟩
  obtain ⟨n, hn⟩ := hobt
  have hXn : X.length = n := by rw [← hX, ← hn]; simp [absR]
  rw [← habs] at T hil hisum
  have hist := fun {w} hw => isTree_spec w hu hRo2 T hw
  rw [hX] at T hil hisum
  rw [hn] at hu
  have hobt := hu.form
  obtain ⟨au, cu, rfl⟩ := hobt
  have hlen := T.len
  refine CW.seq ?_
  refine CW.reg ?_
  refine WL.val rfl (run_assign) ?_
  refine WL.nil ?_
  refine CW.seqM (fun f w => Step [] ((Lu ++ R.flatMap (·.Lv)) ++ (L ++ [(b43, blk 4 (oC (opn s))), (b4, blk 30 (quoC a b c))])) w0 w ∧ Holds f [(7, .pointer (some ⟨bf, 0, none⟩)), (19, .slice au n cu), (20, .int .i64 (s.by_ : Nat))]) ?_ ?_
  · refine CW.seq ?_
    refine CW.reg ?_
    refine WL.val rfl (run_assign) ?_
    refine WL.nil ?_
    refine CW.block ?_
    refine CW.loop (fun z f w => ∃ i, i ≤ n ∧ z = n - i ∧ Step [] ((Lu ++ R.flatMap (·.Lv)) ++ (L ++ [(b43, blk 4 (oC (opn s))), (b4, blk 30 (quoC a b c))])) w0 w ∧ Holds f [(7, .pointer (some ⟨bf, 0, none⟩)), (19, .slice au n cu), (20, .int .i64 (((X.take i).map (·.2.2.length)).sum : Nat)), (21, .int .i64 i)]) (m := n) ?_ ?_
    · exact ⟨0, by omega, by omega, hs, rfl, rfl, rfl, rfl, trivial⟩
    clear hs
    rintro z f w ⟨i, hi, rfl, hs, hf⟩
    by_cases hlt : i < n
    · have hobt := hu.some1 (by omega)
      obtain ⟨bu, capu, mu, hqu, hLu, hcu⟩ := hobt
      injection hqu with u1 u2 u3
      have hc4 := congrArg (fun z => Value.slice z n cu) u1
      rw [show Value.slice au n cu = Value.slice (some ⟨bu, 0, none⟩) n cu from hc4] at hf
      have hobt := hf.chain
      obtain ⟨g, rfl⟩ := hobt
      have hobt : ∃ r, R[i]? = some r := ⟨_, List.getElem?_eq_getElem (by omega)⟩
      obtain ⟨r, hr⟩ := hobt
      have hxi : X[i]? = some (r.p, r.d, r.x) := by rw [← hX, absR, List.getElem?_map, hr]; rfl
      have hobt := hRo2 r (List.mem_of_getElem? hr)
      obtain ⟨ax, cx, hve⟩ := hobt
      have hev : r.enc[2]? = some (.slice ax r.x.length cx) := by show some r.v = _; rw [hve]
      have hss := sumT_step hxi
      have hss : ((X.take (i + 1)).map (·.2.2.length)).sum = ((X.take i).map (·.2.2.length)).sum + r.x.length := hss
      have hs1 := sumT_le T i
      have hs2 := sumT_le T (i + 1)
      have hrow := rowsI_blk (b := bu) (T := 50) (more := mu) hs (by rw [hLu]; simp) hr
      refine CW.seq <| CW.seq ?_
      refine CW.reg ?_
      refine WL.val rfl (run_move) ?_
      refine WL.val rfl (run_move) ?_
      refine WL.val rfl (run_lenSl Tryd.underlying40 rfl) ?_
      refine WL.val rfl (run_bT (run_lss rfl rfl) (by omega)) ?_
      refine WL.nil ?_
      refine CW.cond rfl (fun h => ?_) (fun h => ?_)
      · repeat (first | refine CW.seq ?_ | refine CW.block ?_ | refine CW.skip ?_)
        refine CW.reg ?_
        refine WL.val rfl (run_move) ?_
        refine WL.val rfl (run_move) ?_
        refine WL.val rfl (run_move) ?_
        refine WL.val rfl (run_ixSlN Tryd.underlying40 ty50 rfl rfl (by omega)) ?_
        refine WL.val rfl (run_field (o' := 2) Tryd.underlying50 rfl ty34 rfl rfl rfl) ?_
        refine WL.val rfl (run_load1 ty34 rfl (hrow.cell hev)) ?_
        refine WL.val rfl (run_lenSl Tryd.underlying34 rfl) ?_
        refine WL.val rfl (run_add (c := ((((X.take (i + 1)).map (·.2.2.length)).sum : Nat) : Int)) rfl rfl (by omega) (by omega)) ?_
        refine WL.val rfl (run_assign) ?_
        refine WL.nil ?_
        refine CW.reg ?_
        refine WL.val rfl (run_move) ?_
        refine WL.val rfl (run_add (c := ((i + 1 : Nat) : Int)) rfl rfl (by omega) (by omega)) ?_
        refine WL.val rfl (run_assign) ?_
        refine WL.nil ?_
        refine (show _ ∧ _ from ⟨rfl, _, ?_, i + 1, by omega, rfl, hs, rfl, hc4.symm, rfl, rfl, trivial⟩)
        omega
      · cases h
    · have hobt := hf.chain
      obtain ⟨g, rfl⟩ := hobt
      obtain rfl : i = n := by omega
      have hv : Value.int .i64 (((X.take i).map (·.2.2.length)).sum : Nat) = .int .i64 (s.by_ : Nat) := by rw [List.take_of_length_le (by omega), hisum]
      refine CW.seq <| CW.seq ?_
      refine CW.reg ?_
      refine WL.val rfl (run_move) ?_
      refine WL.val rfl (run_move) ?_
      refine WL.val rfl (run_lenSl Tryd.underlying40 rfl) ?_
      refine WL.val rfl (run_bF (run_lss rfl rfl) (by omega)) ?_
      refine WL.nil ?_
      refine CW.cond rfl (fun h => ?_) (fun h => ?_)
      · cases h
      refine CW.exit ?_
      exact ⟨rfl, hs, rfl, rfl, hv, trivial⟩
  clear hs
  rintro f w ⟨hs, hf⟩
  have hobt := hf.chain
  obtain ⟨g, rfl⟩ := hobt
  refine CW.seq ?_
  refine CW.reg ?_
  refine WL.val rfl (run_move) ?_
  refine WL.enter rfl (run_call en23 rfl rfl) (hus (fun p hp => hs.has p (by simp [hp]))) ?_
  rintro e w ⟨rfl, hq⟩
  refine ⟨_, rfl, ?_⟩
  replace hs := hs.callE hq
  refine WL.alloc ty30 rfl hs (fun b22 w hs => ?_)
  refine WL.storeAll ty30 rfl rfl ((rfl)) (Cells1.of_all rfl) hs (by first | rfl | assumption) (fun w hs => ?_)
  refine WL.nil ?_
  refine CW.seq ?_
  refine CW.reg ?_
  refine WL.val rfl (run_move) ?_
  refine WL.enter rfl (run_call en24 rfl rfl) (hist (fun p hp => hs.has p (by simp [hp]))) ?_
  rintro e w ⟨rfl, hq⟩
  refine ⟨_, rfl, ?_⟩
  replace hs := hs.callE hq
  refine WL.val rfl (run_move) ?_
  refine WL.yes rfl rfl rfl ?_; refine WL.val rfl (run_field (o' := 0) Tryd.underlying30 rfl ty3 rfl rfl rfl) ?_
  refine WL.yes rfl rfl rfl ?_
  refine WL.val rfl (run_load1 ty3 rfl (hs.c0 (v := .int .i64 (s.by_ : Nat)) rfl)) ?_
  refine WL.yes rfl rfl rfl ?_; refine WL.val rfl (run_move) ?_
  refine WL.yes rfl rfl rfl ?_
  refine WL.val rfl (run_bT (run_eql rfl rfl) (by rfl)) ?_
  refine WL.val rfl (run_pickT rfl) ?_
  refine WL.val rfl (run_move) ?_
  refine WL.yes rfl rfl rfl ?_; refine WL.val rfl (run_field (o' := 1) Tryd.underlying30 rfl ty3 rfl rfl rfl) ?_
  refine WL.yes rfl rfl rfl ?_
  refine WL.val rfl (run_load1 ty3 rfl (hs.c0 (v := .int .i64 (s.items : Nat)) rfl)) ?_
  refine WL.yes rfl rfl rfl ?_; refine WL.val rfl (run_move) ?_
  refine WL.yes rfl rfl rfl ?_; refine WL.val rfl (run_lenSl Tryd.underlying40 rfl) ?_
  refine WL.yes rfl rfl rfl ?_
  refine WL.val rfl (run_bT (run_eql rfl rfl) (by omega)) ?_
  refine WL.val rfl (run_pickT rfl) ?_
  refine WL.val rfl (run_assign) ?_
  refine WL.nil ?_
  refine CW.ret ?_
  refine fin_ret1 rfl ?_
  exact ⟨rfl, hs.clear⟩
end Go.Gx
