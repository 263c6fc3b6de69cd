/- Files in memory: one step of a script, whatever is answered. The document's SameItems, and places, where both are alike. Files in memory: what the laws ask of file systems that stand side by side. Slices of their own, grown in turns. No program in sight. A text of its own for each number: mark, walked. Rows of like cells; the marks of the lists that are grown. -/
import Derived.Test.YtepaojbhjgefiaaDoorA9
import Derived.Test.YtepaojbhjgefiaaDoorVtA
import Derived.Test.YtepaojbhjgefiaaDoorA5
import Derived.Test.YtepaojbhjgefiaaDoorA6
/-! Vt14 -/
namespace Go.Gx
open Go.Proofs
set_option linter.unusedVariables false
set_option linter.unusedSimpArgs false
set_option maxRecDepth 100000
theorem perm_t1 {α : Type} {a b c : List α} : ((a ++ b) ++ c).Perm (a ++ (b ++ c)) := by rw [List.append_assoc]
def VS.doS (s : VS) (x : Stv) : VS × Int :=
  if x.k = 1 then ((s.open x.p x.n).2.2, if (s.open x.p x.n).2.1 = 0 then (s.open x.p x.n).1 else -1) else
  if x.k = 2 then ((s.read x.h x.n).2.2, -1) else
  if x.k = 4 then ((s.write x.h x.b).2, -1) else
  if x.k = 7 then ((s.close x.h).2, -1) else (s, -1)
theorem read_tree {s : VS} (t : s.Tree) (h n : Int) : (s.read h n).2.2.Tree := by
  unfold VS.read
  split
  · exact t
  · split
    · exact t
    · exact t.of rfl rfl
theorem close_tree {s : VS} (t : s.Tree) (h : Int) : (s.close h).2.Tree := by
  unfold VS.close
  split
  · exact t
  · exact t.of rfl rfl
theorem set_fst {F : List (List UInt8 × List UInt8)} {i : Nat} {x : List UInt8} : (F.set i (((F[i]?).map (·.1)).getD [], x)).map (·.1) = F.map (·.1) := by
  rw [List.map_set]
  apply List.ext_getElem?
  intro k
  by_cases hk : i = k
  · subst hk
    by_cases hi : i < F.length
    · rw [List.getElem?_set_self (by simpa using hi), List.getElem?_map, List.getElem?_eq_getElem hi]
      rfl
    · rw [List.getElem?_eq_none (by simpa using hi), List.getElem?_eq_none (by simpa using hi)]
  · rw [List.getElem?_set_ne hk]
theorem write_tree {s : VS} (t : s.Tree) (h : Int) (b : List UInt8) : (s.write h b).2.Tree := by
  unfold VS.write
  split
  · exact t
  · split
    · exact t
    · exact t.of rfl set_fst
theorem do_keeps {s : VS} (sn : s.Sane) (t : s.Tree) (x : Stv) : (s.doS x).1.Sane ∧ (s.doS x).1.Tree := by
  unfold VS.doS
  split
  · exact open_keeps sn t x.p x.n
  · split
    · exact ⟨sn.read x.h x.n, read_tree t x.h x.n⟩
    · split
      · exact ⟨sn.write x.h x.b, write_tree t x.h x.b⟩
      · split
        · exact ⟨sn.close x.h, close_tree t x.h⟩
        · exact ⟨sn, t⟩
theorem is_op {s : VS} (sn : s.Sane) {h : Int} (hi : (s.is h).isSome) : 1 ≤ s.op := by
  have hobt := Option.isSome_iff_exists.1 hi
  obtain ⟨a, ha⟩ := hobt
  have hobt := is_at ha
  obtain ⟨k, _, hk⟩ := hobt
  have := count_none hk
  have := sn.op
  omega
theorem Stv.cells1 {w : World} {x : Stv} (h : x.Ok w) : Cells1 x.cells := by
  intro v hv
  simp only [Stv.cells, List.mem_cons, List.not_mem_nil, or_false] at hv
  have hobt := h.hb.form
  obtain ⟨a, c, he⟩ := hobt
  rcases hv with rfl | rfl | rfl | rfl | rfl
  · rfl
  · rfl
  · rfl
  · rfl
  · rw [he]; rfl
section
variable {bf : Nat} {s : VS} {L : List (Nat × Obj)} {w0 : World}
set_option maxHeartbeats 4000000 in
theorem do_spec (hR : VRep bf s L) (sn : s.Sane) (t : s.Tree) (hg : Gl w0) (h0 : 0 ∉ L.map (·.1)) (hw : Step (L.map (·.1)) L w0 w0) {x : Stv} (hx : x.Ok w0) (hv : ∀ {L' w}, Step (L.map (·.1)) L' w0 w → Sl w 1 x.v x.b.length (u8s x.b)) : Calls Tryd.prog 13 #[.pointer (some ⟨bf, 0, none⟩), .agg x.cells.toArray] w0 fun e w' => ∃ L', e = .returned (.int .i64 (s.doS x).2) ∧ VRep bf (s.doS x).1 L' ∧ Step (L.map (·.1)) L' w0 w' := by
  have hs : Step (L.map (·.1)) L w0 w0 := hw
  have hc1 := Stv.cells1 hx
  obtain ⟨k, h, n, p, v, b⟩ := x
  have hobt := hx.hb.form
  obtain ⟨av, cv, hve⟩ := hobt
  have hve : v = .slice av b.length cv := hve
  subst hve
  have hk := hx.hk
  have hh := hx.hh
  have hn := hx.hn
  have hpl := hx.hp
  have hlb := hx.lb
  have hR0 := hR
  have ok := sn.ok
  obtain ⟨mf, md, vh, Lh, Fs, Ds, Hs, o⟩ := hR
  have hobt : ∃ S, L.map (·.1) = S := ⟨_, rfl⟩
  obtain ⟨S, hS⟩ := hobt
  rw [hS] at hs h0 ⊢
  simp only [hS] at hv
  have hcell := fun {A : List (Nat × Obj)} {b3 : Nat} {w : World} (hs : Step S (A ++ [(b3, blk 47 [.int .i64 k, .int .i64 h, .int .i64 n, str p, .slice av b.length cv])]) w0 w) => At.of_blk (hs.has (b3, blk 47 [.int .i64 k, .int .i64 h, .int .i64 n, str p, .slice av b.length cv]) (by simp))
  have hz0 : ∀ {A R : List (Nat × Obj)} {w : World}, Step S (A ++ R) w0 w → 0 ∉ A.map (·.1) := fun hs => hs.dropR.zero h0 hg
  refine calls (n := 67) Tryd.func13 rfl rfl rfl ?_
  refine CW.seq <| CW.reg ?_
  refine WL.box (cs := [.int .i64 k, .int .i64 h, .int .i64 n, str p, .slice av b.length cv]) rfl rfl rfl hs (fun b3 w hs => ?_)
  refine WL.val rfl (run_assign) <| WL.nil ?_
  replace hs := hs.perm perm_k3
  refine CW.seq <| CW.seq <| CW.reg <| WL.val rfl (run_field (o' := 0) Tryd.underlying47 rfl ty3 rfl rfl rfl) <| WL.val rfl (run_load1 ty3 rfl ((hcell hs).cell (j := 0) rfl)) <| WL.nil ?_
  by_cases h1 : k = 1
  · have e1 : s.doS ⟨k, h, n, p, .slice av b.length cv, b⟩ = ((s.open p n).2.2, if (s.open p n).2.1 = 0 then (s.open p n).1 else -1) := if_pos h1
    rw [e1]
    have hop := fun {w} hg h0 hw => open_spec (w0 := w) (p := p) (mode := n) hR0 sn hg h0 hw hpl
    have hobt : ∃ r1 r2 s2, s.open p n = (r1, r2, s2) := ⟨_, _, _, rfl⟩
    obtain ⟨r1, r2, s2, hr⟩ := hobt
    simp only [hr] at hop ⊢
    repeat (first | refine CW.seq ?_ | refine CW.block ?_)
    refine CW.reg <| WL.val rfl (run_bT (run_eql rfl rfl) (by exact h1)) <| WL.val rfl (run_assign) <| WL.nil ?_
    refine CW.cond rfl (fun hc => ?_) (fun hc => ?_)
    · refine CW.seq <| CW.reg <| WL.val rfl (run_move) <| WL.val rfl (run_field (o' := 3) Tryd.underlying47 rfl ty9 rfl rfl rfl) <| WL.val rfl (run_load1 ty9 rfl ((hcell hs).cell (j := 3) rfl)) <| WL.val rfl (run_field (o' := 2) Tryd.underlying47 rfl ty3 rfl rfl rfl) <| WL.val rfl (run_load1 ty3 rfl ((hcell hs).cell (j := 2) rfl)) ?_
      refine WL.enter rfl (run_call en9 rfl rfl) (hop (hg.stepS hs h0) (hz0 hs) hs.own) ?_
      rintro e w ⟨L2, rfl, hR2, hq⟩
      refine ⟨_, rfl, ?_⟩
      replace hs := hs.call hq
      refine WL.val rfl (run_move) <| WL.val rfl (run_extract rfl rfl) <| WL.val rfl (run_extract rfl rfl) <| WL.val rfl (run_assign) <| WL.val rfl (run_assign) <| WL.nil ?_
      by_cases h2 : r2 = 0
      · rw [if_pos h2]
        refine CW.seq <| CW.reg <| WL.val rfl (run_move) <| WL.val rfl (run_bT (run_eql rfl rfl) (by exact h2)) <| WL.nil ?_
        refine CW.cond rfl (fun hc2 => ?_) (fun hc2 => ?_)
        · refine CW.seq <| CW.reg <| WL.val rfl (run_move) <| WL.val rfl (run_assign) <| WL.nil ?_
          refine CW.ret ?_
          refine fin_ret1 rfl ?_
          exact ⟨L2, rfl, hR2, hs.dropR⟩
        · cases hc2
      · have he : (if r2 = 0 then r1 else -1) = -1 := if_neg h2
        refine CW.seq <| CW.reg <| WL.val rfl (run_move) <| WL.val rfl (run_bF (run_eql rfl rfl) (by exact h2)) <| WL.nil ?_
        refine CW.cond rfl (fun hc2 => ?_) (fun hc2 => ?_)
        · cases hc2
        repeat (first | refine CW.seq ?_ | refine CW.skip ?_)
        refine CW.reg <| WL.val rfl (run_assign) <| WL.nil ?_
        refine CW.ret ?_
        refine fin_ret1 rfl ?_
        exact ⟨_, congrArg (fun z => Ending.returned (.int .i64 z)) he.symm, hR2, hs.dropR⟩
    · cases hc
  by_cases h2 : k = 2
  · have he : (s.doS ⟨k, h, n, p, .slice av b.length cv, b⟩).2 = -1 := by unfold VS.doS; rw [if_neg h1, if_pos h2]
    have e2 : (s.doS ⟨k, h, n, p, .slice av b.length cv, b⟩).1 = (s.read h n).2.2 := by unfold VS.doS; rw [if_neg h1, if_pos h2]
    rw [he, e2]
    have he : (-1 : Int) = -1 := rfl
    have hrd := fun {w} hw => read_spec (w0 := w) (h := h) (n := n) hR0 ok hw hn
    repeat (first | refine CW.seq ?_ | refine CW.block ?_)
    refine CW.reg <| WL.val rfl (run_bF (run_eql rfl rfl) (by exact h1)) <| WL.val rfl (run_assign) <| WL.nil ?_
    refine CW.cond rfl (fun hc => ?_) (fun hc => ?_)
    · cases hc
    refine CW.seq <| CW.reg <| WL.val rfl (run_bT (run_eql rfl rfl) (by exact h2)) <| WL.val rfl (run_assign) <| WL.nil ?_
    refine CW.cond rfl (fun hc => ?_) (fun hc => ?_)
    · skip
      refine CW.reg <| WL.val rfl (run_move) <| WL.val rfl (run_field (o' := 1) Tryd.underlying47 rfl ty3 rfl rfl rfl) <| WL.val rfl (run_load1 ty3 rfl ((hcell hs).cell (j := 1) rfl)) <| WL.val rfl (run_field (o' := 2) Tryd.underlying47 rfl ty3 rfl rfl rfl) <| WL.val rfl (run_load1 ty3 rfl ((hcell hs).cell (j := 2) rfl)) ?_
      refine WL.enter rfl (run_call en16 rfl rfl) (hrd hs.own) ?_
      rintro e w ⟨v', Lv, L2, rfl, hu, hR2, hq⟩
      refine ⟨_, rfl, ?_⟩
      replace hs := (hs.call hq)
      replace hs := (hs.perm perm_t1).dropL
      refine WL.nil <| CW.seq <| CW.reg <| WL.val rfl (run_assign) <| WL.nil ?_
      refine CW.ret ?_
      refine fin_ret1 rfl ?_
      exact ⟨_, congrArg (fun z => Ending.returned (.int .i64 z)) he.symm, hR2, hs.dropR⟩
    · cases hc
  by_cases h3 : k = 3
  · have e2 : s.doS ⟨k, h, n, p, .slice av b.length cv, b⟩ = (s, -1) := by unfold VS.doS; rw [if_neg h1, if_neg h2, if_neg (show ¬ k = 4 by omega), if_neg (show ¬ k = 7 by omega)]
    rw [e2]
    have he : (-1 : Int) = -1 := rfl
    have hR2 := hR0
    have hpk := fun {w} hw => peek_spec (w0 := w) (h := h) (n := n) o ok hw hn
    repeat (first | refine CW.seq ?_ | refine CW.block ?_)
    refine CW.reg <| WL.val rfl (run_bF (run_eql rfl rfl) (by exact h1)) <| WL.val rfl (run_assign) <| WL.nil ?_
    refine CW.cond rfl (fun hc => ?_) (fun hc => ?_)
    · cases hc
    refine CW.seq <| CW.reg <| WL.val rfl (run_bF (run_eql rfl rfl) (by exact h2)) <| WL.val rfl (run_assign) <| WL.nil ?_
    refine CW.cond rfl (fun hc => ?_) (fun hc => ?_)
    · cases hc
    refine CW.seq <| CW.reg <| WL.val rfl (run_bT (run_eql rfl rfl) (by exact h3)) <| WL.val rfl (run_assign) <| WL.nil ?_
    refine CW.cond rfl (fun hc => ?_) (fun hc => ?_)
    · skip
      refine CW.reg <| WL.val rfl (run_move) <| WL.val rfl (run_field (o' := 1) Tryd.underlying47 rfl ty3 rfl rfl rfl) <| WL.val rfl (run_load1 ty3 rfl ((hcell hs).cell (j := 1) rfl)) <| WL.val rfl (run_field (o' := 2) Tryd.underlying47 rfl ty3 rfl rfl rfl) <| WL.val rfl (run_load1 ty3 rfl ((hcell hs).cell (j := 2) rfl)) ?_
      refine WL.enter rfl (run_call en36 rfl rfl) (hpk (fun p hp => hs.has p (by simp [hp]))) ?_
      rintro e w ⟨rfl, hq⟩
      refine ⟨_, rfl, ?_⟩
      replace hs := hs.callE hq
      refine WL.nil <| CW.seq <| CW.reg <| WL.val rfl (run_assign) <| WL.nil ?_
      refine CW.ret ?_
      refine fin_ret1 rfl ?_
      exact ⟨_, congrArg (fun z => Ending.returned (.int .i64 z)) he.symm, hR2, hs.dropR⟩
    · cases hc
  by_cases h4 : k = 4
  · have he : (s.doS ⟨k, h, n, p, .slice av b.length cv, b⟩).2 = -1 := by unfold VS.doS; rw [if_neg h1, if_neg h2, if_pos h4]
    have e2 : (s.doS ⟨k, h, n, p, .slice av b.length cv, b⟩).1 = (s.write h b).2 := by unfold VS.doS; rw [if_neg h1, if_neg h2, if_pos h4]
    rw [he, e2]
    have he : (-1 : Int) = -1 := rfl
    have hwr := fun {w} hw (hsb : ∀ {L' w'}, Step (L.map (·.1)) L' w w' → Sl w' 1 (.slice av b.length cv) b.length (u8s b)) => write_spec (w0 := w) (h := h) (b := b) hR0 ok hw hlb hsb
    repeat (first | refine CW.seq ?_ | refine CW.block ?_)
    refine CW.reg <| WL.val rfl (run_bF (run_eql rfl rfl) (by exact h1)) <| WL.val rfl (run_assign) <| WL.nil ?_
    refine CW.cond rfl (fun hc => ?_) (fun hc => ?_)
    · cases hc
    refine CW.seq <| CW.reg <| WL.val rfl (run_bF (run_eql rfl rfl) (by exact h2)) <| WL.val rfl (run_assign) <| WL.nil ?_
    refine CW.cond rfl (fun hc => ?_) (fun hc => ?_)
    · cases hc
    refine CW.seq <| CW.reg <| WL.val rfl (run_bF (run_eql rfl rfl) (by exact h3)) <| WL.val rfl (run_assign) <| WL.nil ?_
    refine CW.cond rfl (fun hc => ?_) (fun hc => ?_)
    · cases hc
    refine CW.seq <| CW.reg <| WL.val rfl (run_bT (run_eql rfl rfl) (by exact h4)) <| WL.val rfl (run_assign) <| WL.nil ?_
    refine CW.cond rfl (fun hc => ?_) (fun hc => ?_)
    · skip
      refine CW.reg <| WL.val rfl (run_move) <| WL.val rfl (run_field (o' := 1) Tryd.underlying47 rfl ty3 rfl rfl rfl) <| WL.val rfl (run_load1 ty3 rfl ((hcell hs).cell (j := 1) rfl)) <| WL.val rfl (run_field (o' := 4) Tryd.underlying47 rfl ty34 rfl rfl rfl) <| WL.val rfl (run_load1 ty34 rfl ((hcell hs).cell (j := 4) rfl)) ?_
      refine WL.enter rfl (run_call en11 rfl rfl) (hwr hs.own (fun h => hv (hs.dropR.call1 h))) ?_
      rintro e w ⟨L2, rfl, hR2, hq⟩
      refine ⟨_, rfl, ?_⟩
      replace hs := hs.call hq
      refine WL.nil <| CW.seq <| CW.reg <| WL.val rfl (run_assign) <| WL.nil ?_
      refine CW.ret ?_
      refine fin_ret1 rfl ?_
      exact ⟨_, congrArg (fun z => Ending.returned (.int .i64 z)) he.symm, hR2, hs.dropR⟩
    · cases hc
  by_cases h5 : k = 5
  · have e2 : s.doS ⟨k, h, n, p, .slice av b.length cv, b⟩ = (s, -1) := by unfold VS.doS; rw [if_neg h1, if_neg h2, if_neg (show ¬ k = 4 by omega), if_neg (show ¬ k = 7 by omega)]
    rw [e2]
    have he : (-1 : Int) = -1 := rfl
    have hR2 := hR0
    have hmy := fun {w} hw => may_spec (w0 := w) (h := h) (n := n) o ok hw hn
    repeat (first | refine CW.seq ?_ | refine CW.block ?_)
    refine CW.reg <| WL.val rfl (run_bF (run_eql rfl rfl) (by exact h1)) <| WL.val rfl (run_assign) <| WL.nil ?_
    refine CW.cond rfl (fun hc => ?_) (fun hc => ?_)
    · cases hc
    refine CW.seq <| CW.reg <| WL.val rfl (run_bF (run_eql rfl rfl) (by exact h2)) <| WL.val rfl (run_assign) <| WL.nil ?_
    refine CW.cond rfl (fun hc => ?_) (fun hc => ?_)
    · cases hc
    refine CW.seq <| CW.reg <| WL.val rfl (run_bF (run_eql rfl rfl) (by exact h3)) <| WL.val rfl (run_assign) <| WL.nil ?_
    refine CW.cond rfl (fun hc => ?_) (fun hc => ?_)
    · cases hc
    refine CW.seq <| CW.reg <| WL.val rfl (run_bF (run_eql rfl rfl) (by exact h4)) <| WL.val rfl (run_assign) <| WL.nil ?_
    refine CW.cond rfl (fun hc => ?_) (fun hc => ?_)
    · cases hc
    refine CW.seq <| CW.reg <| WL.val rfl (run_bT (run_eql rfl rfl) (by exact h5)) <| WL.val rfl (run_assign) <| WL.nil ?_
    refine CW.cond rfl (fun hc => ?_) (fun hc => ?_)
    · skip
      refine CW.reg <| WL.val rfl (run_move) <| WL.val rfl (run_field (o' := 1) Tryd.underlying47 rfl ty3 rfl rfl rfl) <| WL.val rfl (run_load1 ty3 rfl ((hcell hs).cell (j := 1) rfl)) <| WL.val rfl (run_field (o' := 2) Tryd.underlying47 rfl ty3 rfl rfl rfl) <| WL.val rfl (run_load1 ty3 rfl ((hcell hs).cell (j := 2) rfl)) ?_
      refine WL.enter rfl (run_call en34 rfl rfl) (hmy (fun p hp => hs.has p (by simp [hp]))) ?_
      rintro e w ⟨rfl, hq⟩
      refine ⟨_, rfl, ?_⟩
      replace hs := hs.callE hq
      refine WL.nil <| CW.seq <| CW.reg <| WL.val rfl (run_assign) <| WL.nil ?_
      refine CW.ret ?_
      refine fin_ret1 rfl ?_
      exact ⟨_, congrArg (fun z => Ending.returned (.int .i64 z)) he.symm, hR2, hs.dropR⟩
    · cases hc
  by_cases h6 : k = 6
  · have e2 : s.doS ⟨k, h, n, p, .slice av b.length cv, b⟩ = (s, -1) := by unfold VS.doS; rw [if_neg h1, if_neg h2, if_neg (show ¬ k = 4 by omega), if_neg (show ¬ k = 7 by omega)]
    rw [e2]
    have he : (-1 : Int) = -1 := rfl
    have hR2 := hR0
    have hls := fun {w} hg hw => list_spec (w0 := w) (p := p) o ok t hg hw hpl
    repeat (first | refine CW.seq ?_ | refine CW.block ?_)
    refine CW.reg <| WL.val rfl (run_bF (run_eql rfl rfl) (by exact h1)) <| WL.val rfl (run_assign) <| WL.nil ?_
    refine CW.cond rfl (fun hc => ?_) (fun hc => ?_)
    · cases hc
    refine CW.seq <| CW.reg <| WL.val rfl (run_bF (run_eql rfl rfl) (by exact h2)) <| WL.val rfl (run_assign) <| WL.nil ?_
    refine CW.cond rfl (fun hc => ?_) (fun hc => ?_)
    · cases hc
    refine CW.seq <| CW.reg <| WL.val rfl (run_bF (run_eql rfl rfl) (by exact h3)) <| WL.val rfl (run_assign) <| WL.nil ?_
    refine CW.cond rfl (fun hc => ?_) (fun hc => ?_)
    · cases hc
    refine CW.seq <| CW.reg <| WL.val rfl (run_bF (run_eql rfl rfl) (by exact h4)) <| WL.val rfl (run_assign) <| WL.nil ?_
    refine CW.cond rfl (fun hc => ?_) (fun hc => ?_)
    · cases hc
    refine CW.seq <| CW.reg <| WL.val rfl (run_bF (run_eql rfl rfl) (by exact h5)) <| WL.val rfl (run_assign) <| WL.nil ?_
    refine CW.cond rfl (fun hc => ?_) (fun hc => ?_)
    · cases hc
    refine CW.seq <| CW.reg <| WL.val rfl (run_bT (run_eql rfl rfl) (by exact h6)) <| WL.val rfl (run_assign) <| WL.nil ?_
    refine CW.cond rfl (fun hc => ?_) (fun hc => ?_)
    · skip
      refine CW.reg <| WL.val rfl (run_move) <| WL.val rfl (run_field (o' := 3) Tryd.underlying47 rfl ty9 rfl rfl rfl) <| WL.val rfl (run_load1 ty9 rfl ((hcell hs).cell (j := 3) rfl)) ?_
      refine WL.enter rfl (run_call en15 rfl rfl) (hls (hg.stepS hs h0) (fun p hp => hs.has p (by simp [hp]))) ?_
      rintro e w ⟨u, Lu, rfl, hu, hq⟩
      refine ⟨_, rfl, ?_⟩
      replace hs := (hs.call0 hq).dropL
      refine WL.nil <| CW.seq <| CW.reg <| WL.val rfl (run_assign) <| WL.nil ?_
      refine CW.ret ?_
      refine fin_ret1 rfl ?_
      exact ⟨_, congrArg (fun z => Ending.returned (.int .i64 z)) he.symm, hR2, hs.dropR⟩
    · cases hc
  by_cases h7 : k = 7
  · have he : (s.doS ⟨k, h, n, p, .slice av b.length cv, b⟩).2 = -1 := by unfold VS.doS; rw [if_neg h1, if_neg h2, if_neg h4, if_pos h7]
    have e2 : (s.doS ⟨k, h, n, p, .slice av b.length cv, b⟩).1 = (s.close h).2 := by unfold VS.doS; rw [if_neg h1, if_neg h2, if_neg h4, if_pos h7]
    rw [he, e2]
    have he : (-1 : Int) = -1 := rfl
    have hcl := fun {w} hw => close_spec (w0 := w) (h := h) hR0 ok (is_op sn) hw
    repeat (first | refine CW.seq ?_ | refine CW.block ?_)
    refine CW.reg <| WL.val rfl (run_bF (run_eql rfl rfl) (by exact h1)) <| WL.val rfl (run_assign) <| WL.nil ?_
    refine CW.cond rfl (fun hc => ?_) (fun hc => ?_)
    · cases hc
    refine CW.seq <| CW.reg <| WL.val rfl (run_bF (run_eql rfl rfl) (by exact h2)) <| WL.val rfl (run_assign) <| WL.nil ?_
    refine CW.cond rfl (fun hc => ?_) (fun hc => ?_)
    · cases hc
    refine CW.seq <| CW.reg <| WL.val rfl (run_bF (run_eql rfl rfl) (by exact h3)) <| WL.val rfl (run_assign) <| WL.nil ?_
    refine CW.cond rfl (fun hc => ?_) (fun hc => ?_)
    · cases hc
    refine CW.seq <| CW.reg <| WL.val rfl (run_bF (run_eql rfl rfl) (by exact h4)) <| WL.val rfl (run_assign) <| WL.nil ?_
    refine CW.cond rfl (fun hc => ?_) (fun hc => ?_)
    · cases hc
    refine CW.seq <| CW.reg <| WL.val rfl (run_bF (run_eql rfl rfl) (by exact h5)) <| WL.val rfl (run_assign) <| WL.nil ?_
    refine CW.cond rfl (fun hc => ?_) (fun hc => ?_)
    · cases hc
    refine CW.seq <| CW.reg <| WL.val rfl (run_bF (run_eql rfl rfl) (by exact h6)) <| WL.val rfl (run_assign) <| WL.nil ?_
    refine CW.cond rfl (fun hc => ?_) (fun hc => ?_)
    · cases hc
    refine CW.seq <| CW.reg <| WL.val rfl (run_bT (run_eql rfl rfl) (by exact h7)) <| WL.val rfl (run_assign) <| WL.nil ?_
    refine CW.cond rfl (fun hc => ?_) (fun hc => ?_)
    · skip
      refine CW.reg <| WL.val rfl (run_move) <| WL.val rfl (run_field (o' := 1) Tryd.underlying47 rfl ty3 rfl rfl rfl) <| WL.val rfl (run_load1 ty3 rfl ((hcell hs).cell (j := 1) rfl)) ?_
      refine WL.enter rfl (run_call en10 rfl rfl) (hcl hs.own) ?_
      rintro e w ⟨L2, rfl, hR2, hq⟩
      refine ⟨_, rfl, ?_⟩
      replace hs := hs.call hq
      refine WL.nil <| CW.seq <| CW.reg <| WL.val rfl (run_assign) <| WL.nil ?_
      refine CW.ret ?_
      refine fin_ret1 rfl ?_
      exact ⟨_, congrArg (fun z => Ending.returned (.int .i64 z)) he.symm, hR2, hs.dropR⟩
    · cases hc
  have e2 : s.doS ⟨k, h, n, p, .slice av b.length cv, b⟩ = (s, -1) := by unfold VS.doS; rw [if_neg h1, if_neg h2, if_neg h4, if_neg h7]
  rw [e2]
  have he : (-1 : Int) = -1 := rfl
  have hR2 := hR0
  repeat (first | refine CW.seq ?_ | refine CW.block ?_)
  refine CW.reg <| WL.val rfl (run_bF (run_eql rfl rfl) (by exact h1)) <| WL.val rfl (run_assign) <| WL.nil ?_
  refine CW.cond rfl (fun hc => ?_) (fun hc => ?_)
  · cases hc
  refine CW.seq <| CW.reg <| WL.val rfl (run_bF (run_eql rfl rfl) (by exact h2)) <| WL.val rfl (run_assign) <| WL.nil ?_
  refine CW.cond rfl (fun hc => ?_) (fun hc => ?_)
  · cases hc
  refine CW.seq <| CW.reg <| WL.val rfl (run_bF (run_eql rfl rfl) (by exact h3)) <| WL.val rfl (run_assign) <| WL.nil ?_
  refine CW.cond rfl (fun hc => ?_) (fun hc => ?_)
  · cases hc
  refine CW.seq <| CW.reg <| WL.val rfl (run_bF (run_eql rfl rfl) (by exact h4)) <| WL.val rfl (run_assign) <| WL.nil ?_
  refine CW.cond rfl (fun hc => ?_) (fun hc => ?_)
  · cases hc
  refine CW.seq <| CW.reg <| WL.val rfl (run_bF (run_eql rfl rfl) (by exact h5)) <| WL.val rfl (run_assign) <| WL.nil ?_
  refine CW.cond rfl (fun hc => ?_) (fun hc => ?_)
  · cases hc
  refine CW.seq <| CW.reg <| WL.val rfl (run_bF (run_eql rfl rfl) (by exact h6)) <| WL.val rfl (run_assign) <| WL.nil ?_
  refine CW.cond rfl (fun hc => ?_) (fun hc => ?_)
  · cases hc
  refine CW.seq <| CW.reg <| WL.val rfl (run_bF (run_eql rfl rfl) (by exact h7)) <| WL.val rfl (run_assign) <| WL.nil ?_
  refine CW.cond rfl (fun hc => ?_) (fun hc => ?_)
  · cases hc
  repeat (first | refine CW.seq ?_ | refine CW.skip ?_)
  refine CW.reg <| WL.val rfl (run_assign) <| WL.nil ?_
  refine CW.ret ?_
  refine fin_ret1 rfl ?_
  exact ⟨_, congrArg (fun z => Ending.returned (.int .i64 z)) he.symm, hR2, hs.dropR⟩
end
end Go.Gx
/-! Vw5 -/
namespace Go.Gx
open Go.Proofs Go.RowKit
set_option linter.unusedVariables false
set_option linter.unusedSimpArgs false
set_option maxRecDepth 100000
theorem rows_cell {w0 : World} {R : List RowI} {u : Value} {n : Nat} {Lu : List (Nat × Obj)} (hu : OwnSl 50 3 u n (rowsI R) Lu) (hw : ∀ p ∈ Lu, w0.heap[p.1]? = some p.2) (h0 : 0 < n) : ∃ b c, u = .slice (some ⟨b, 0, none⟩) n c ∧ ∀ (j : Nat) q, R[j]? = some q → At w0 b (0 + j * 3) q.enc := by
  have hobt := hu.some1 h0
  obtain ⟨b, c, more, hq, hL, hc⟩ := hobt
  have hb : w0.heap[b]? = some (blk 50 (rowsI R ++ more)) := hw (b, blk 50 (rowsI R ++ more)) (by rw [hL]; simp)
  exact ⟨b, c, hq, fun j q hj => rowsI_blk (b := b) (T := 50) (more := more) (A := [(b, blk 50 (rowsI R ++ more))]) (Step.start (L := [(b, blk 50 (rowsI R ++ more))]) (w := w0) (by simp) (fun p hp => by rw [List.mem_singleton.1 hp]; exact hb)) (by simp) hj⟩
set_option maxHeartbeats 4000000 in
theorem same_spec {u u' : Value} {R R' : List RowI} {n : Nat} {Lu Lu' : List (Nat × Obj)} (w0 : World) (hn : R.length = n) (hn' : R'.length = n) (hnl : n ≤ 131072) (he : absR R = absR R') (hu : OwnSl 50 3 u n (rowsI R) Lu) (hu' : OwnSl 50 3 u' n (rowsI R') Lu') (hw : ∀ p ∈ Lu, w0.heap[p.1]? = some p.2) (hw' : ∀ p ∈ Lu', w0.heap[p.1]? = some p.2) (hd : ∀ r ∈ R, Sl w0 1 r.v r.x.length (u8s r.x)) (hd' : ∀ r ∈ R', Sl w0 1 r.v r.x.length (u8s r.x)) (hx : ∀ r ∈ R, r.x.length ≤ 1048576) : Calls Tryd.prog 20 #[u, u'] w0 (Ret0 (.bool true) w0) := by
  have hs : Step [] [] w0 w0 := Step.refl w0
  have hobt := hu.form
  obtain ⟨a1, c1, rfl⟩ := hobt
  have hobt := hu'.form
  obtain ⟨a2, c2, rfl⟩ := hobt
  by_cases h0 : n = 0
  · subst h0
    refine calls (n := 56) Tryd.func20 rfl rfl rfl ?_
    refine CW.seq <| CW.reg <| WL.val rfl (run_assign) <| WL.nil <| CW.seq <| CW.seq <| CW.reg <| WL.val rfl (run_move) <| WL.val rfl (run_lenSl Tryd.underlying40 rfl) <| WL.val rfl (run_move) <| WL.val rfl (run_lenSl Tryd.underlying40 rfl) <| WL.val rfl (run_bF (run_neq rfl rfl) (by exact fun h => h rfl)) <| WL.nil ?_
    refine CW.cond rfl (fun h => ?_) (fun h => ?_)
    · cases h
    repeat (first | refine CW.seq ?_ | refine CW.skip ?_)
    refine CW.reg <| WL.val rfl (run_assign) <| WL.nil <| CW.block ?_
    refine CW.loop (fun z f w => z = 0 ∧ Step [] [] w0 w ∧ Holds f [(0, .slice a1 0 c1), (5, .int .i64 0)]) (m := 0) ?_ ?_
    · exact ⟨rfl, hs, rfl, rfl, trivial⟩
    clear hs
    rintro z f w ⟨rfl, hs, hf⟩
    have hobt := hf.chain
    obtain ⟨g, rfl⟩ := hobt
    refine CW.seq <| CW.seq <| CW.reg <| WL.val rfl (run_move) <| WL.val rfl (run_move) <| WL.val rfl (run_lenSl Tryd.underlying40 rfl) <| WL.val rfl (run_bF (run_lss rfl rfl) (by omega)) <| WL.nil ?_
    refine CW.cond rfl (fun h => ?_) (fun h => ?_)
    · cases h
    repeat (first | refine CW.seq ?_ | refine CW.exit ?_)
    refine CW.reg <| WL.val rfl (run_assign) <| WL.nil ?_
    refine CW.ret ?_
    refine fin_ret1 rfl ?_
    exact ⟨rfl, hs⟩
  have hobt := rows_cell hu hw (by omega)
  obtain ⟨b1, d1, hq1, hr1⟩ := hobt
  have hobt := rows_cell hu' hw' (by omega)
  obtain ⟨b2, d2, hq2, hr2⟩ := hobt
  injection hq1 with hq1 hq3 hq4
  injection hq2 with hq2 hq5 hq6
  subst hq1
  subst hq2
  refine calls (n := 56) Tryd.func20 rfl rfl rfl ?_
  refine CW.seq <| CW.reg <| WL.val rfl (run_assign) <| WL.nil <| CW.seq <| CW.seq <| CW.reg <| WL.val rfl (run_move) <| WL.val rfl (run_lenSl Tryd.underlying40 rfl) <| WL.val rfl (run_move) <| WL.val rfl (run_lenSl Tryd.underlying40 rfl) <| WL.val rfl (run_bF (run_neq rfl rfl) (by exact fun h => h rfl)) <| WL.nil ?_
  refine CW.cond rfl (fun h => ?_) (fun h => ?_)
  · cases h
  repeat (first | refine CW.seq ?_ | refine CW.skip ?_)
  refine CW.reg <| WL.val rfl (run_assign) <| WL.nil <| CW.block ?_
  refine CW.loop (fun z f w => ∃ i : Nat, i ≤ n ∧ z = n - i ∧ Step [] [] w0 w ∧ Holds f [(0, .slice (some ⟨b1, 0, none⟩) n c1), (1, .slice (some ⟨b2, 0, none⟩) n c2), (5, .int .i64 i)]) (m := n) ?_ ?_
  · exact ⟨0, by omega, by omega, hs, rfl, rfl, rfl, trivial⟩
  clear hs
  rintro z f w ⟨i, hi, rfl, hs, hf⟩
  have hobt := hf.chain
  obtain ⟨g, rfl⟩ := hobt
  by_cases hlt : i < n
  · have hobt : ∃ r, R[i]? = some r := ⟨_, List.getElem?_eq_getElem (by omega)⟩
    obtain ⟨r, hr⟩ := hobt
    have hobt : ∃ r, R'[i]? = some r := ⟨_, List.getElem?_eq_getElem (by omega)⟩
    obtain ⟨r', hr'⟩ := hobt
    have hy : (r.p, r.d, r.x) = (r'.p, r'.d, r'.x) := by
      have h1 := congrArg (·[i]?) he
      simpa [absR, List.getElem?_map, hr, hr'] using h1
    simp only [Prod.mk.injEq] at hy
    obtain ⟨hyp, hyd, hyx⟩ := hy
    have c1' := fun {L w} (hs : Step [] L w0 w) => (hr1 i r hr).step hs (by simp)
    have c2' := fun {L w} (hs : Step [] L w0 w) => (hr2 i r' hr').step hs (by simp)
    have s1 := hd r (List.mem_of_getElem? hr)
    have s2 := hd' r' (List.mem_of_getElem? hr')
    have hxl := hx r (List.mem_of_getElem? hr)
    have hxl' : r'.x.length ≤ 1048576 := by rw [← hyx]; exact hxl
    have hf1 := s1.form
    have hf2 := s2.form
    obtain ⟨a3, c3, hv3⟩ := hf1
    obtain ⟨a4, c4, hv4⟩ := hf2
    have e3 : r.enc[2]? = some (.slice a3 r.x.length c3) := by show some r.v = _; rw [hv3]
    have e4 : r'.enc[2]? = some (.slice a4 r'.x.length c4) := by show some r'.v = _; rw [hv4]
    rw [hv3] at s1
    rw [hv4] at s2
    have hdb : r.d = true ∨ r.d = false := by cases r.d <;> simp
    rcases hdb with hdd | hdd
    · have e1 : r.enc[1]? = some (.bool true) := by show some (Value.bool r.d) = _; rw [hdd]
      have e2 : r'.enc[1]? = some (.bool true) := by show some (Value.bool r'.d) = _; rw [← hyd, hdd]
      refine CW.seq <| CW.seq <| CW.reg <| WL.val rfl (run_move) <| WL.val rfl (run_move) <| WL.val rfl (run_lenSl Tryd.underlying40 rfl) <| WL.val rfl (run_bT (run_lss rfl rfl) (by omega)) <| WL.nil ?_
      refine CW.cond rfl (fun h => ?_) (fun h => ?_)
      · repeat (first | refine CW.seq ?_ | refine CW.block ?_ | refine CW.skip ?_)
        refine CW.quiet mixedP (by kernel_rfl) hs ?_
        refine QL.val rfl (fun w hs => run_move) ?_
        refine QL.val rfl (fun w hs => run_move) ?_
        refine QL.val rfl (fun w hs => run_ixSlN Tryd.underlying40 ty50 rfl rfl (by omega)) ?_
        refine QL.val rfl (fun w hs => run_field (o' := 0) Tryd.underlying50 rfl ty9 rfl rfl rfl) ?_
        refine QL.val rfl (fun w hs => run_load1 ty9 rfl ((c1' hs).cell (j := 0) (v := str r.p) rfl)) ?_
        refine QL.val rfl (fun w hs => run_move) ?_
        refine QL.val rfl (fun w hs => run_move) ?_
        refine QL.val rfl (fun w hs => run_ixSlN Tryd.underlying40 ty50 rfl rfl (by omega)) ?_
        refine QL.val rfl (fun w hs => run_field (o' := 0) Tryd.underlying50 rfl ty9 rfl rfl rfl) ?_
        refine QL.val rfl (fun w hs => run_load1 ty9 rfl ((c2' hs).cell (j := 0) (v := str r'.p) rfl)) ?_
        refine QL.val rfl (fun w hs => run_bF (run_strNe rfl rfl) (by exact fun h => h hyp)) ?_
        refine QL.val rfl (fun w hs => run_move) ?_
        refine QL.yes rfl rfl rfl ?_; refine QL.val rfl (fun w hs => run_move) ?_
        refine QL.yes rfl rfl rfl ?_; refine QL.val rfl (fun w hs => run_move) ?_
        refine QL.yes rfl rfl rfl ?_; (first | refine QL.val rfl (fun w hs => run_ixSlN Tryd.underlying40 ty50 rfl rfl (by omega)) ?_ | refine QL.val rfl (fun w hs => run_ixSl Tryd.underlying40 ty50 rfl rfl (by omega)) ?_)
        refine QL.yes rfl rfl rfl ?_; refine QL.val rfl (fun w hs => run_field (o' := 1) Tryd.underlying50 rfl ty4 rfl rfl rfl) ?_
        refine QL.yes rfl rfl rfl ?_
        refine QL.val rfl (fun w hs => run_load1 ty4 rfl ((c1' hs).cell (j := 1) e1)) ?_
        refine QL.yes rfl rfl rfl ?_; refine QL.val rfl (fun w hs => run_move) ?_
        refine QL.yes rfl rfl rfl ?_; refine QL.val rfl (fun w hs => run_move) ?_
        refine QL.yes rfl rfl rfl ?_; (first | refine QL.val rfl (fun w hs => run_ixSlN Tryd.underlying40 ty50 rfl rfl (by omega)) ?_ | refine QL.val rfl (fun w hs => run_ixSl Tryd.underlying40 ty50 rfl rfl (by omega)) ?_)
        refine QL.yes rfl rfl rfl ?_; refine QL.val rfl (fun w hs => run_field (o' := 1) Tryd.underlying50 rfl ty4 rfl rfl rfl) ?_
        refine QL.yes rfl rfl rfl ?_
        refine QL.val rfl (fun w hs => run_load1 ty4 rfl ((c2' hs).cell (j := 1) e2)) ?_
        refine QL.yes rfl rfl rfl ?_; refine QL.val rfl (fun w hs => run_neqB Tryd.underlying4 rfl rfl) ?_
        refine QL.val rfl (fun w hs => run_pickF rfl) ?_
        refine QL.val rfl (fun w hs => run_move) ?_
        refine QL.yes rfl rfl rfl ?_; refine QL.val rfl (fun w hs => run_move) ?_
        refine QL.yes rfl rfl rfl ?_; refine QL.val rfl (fun w hs => run_move) ?_
        refine QL.yes rfl rfl rfl ?_; (first | refine QL.val rfl (fun w hs => run_ixSlN Tryd.underlying40 ty50 rfl rfl (by omega)) ?_ | refine QL.val rfl (fun w hs => run_ixSl Tryd.underlying40 ty50 rfl rfl (by omega)) ?_)
        refine QL.yes rfl rfl rfl ?_; refine QL.val rfl (fun w hs => run_field (o' := 2) Tryd.underlying50 rfl ty34 rfl rfl rfl) ?_
        refine QL.yes rfl rfl rfl ?_
        refine QL.val rfl (fun w hs => run_load1 ty34 rfl ((c1' hs).cell (j := 2) e3)) ?_
        refine QL.yes rfl rfl rfl ?_
        refine QL.val rfl (fun w hs => run_toString Tryd.underlying34 Tryd.underlying9 Tryd.underlying5 rfl (s1.step0 hs)) ?_
        refine QL.yes rfl rfl rfl ?_; refine QL.val rfl (fun w hs => run_move) ?_
        refine QL.yes rfl rfl rfl ?_; refine QL.val rfl (fun w hs => run_move) ?_
        refine QL.yes rfl rfl rfl ?_; (first | refine QL.val rfl (fun w hs => run_ixSlN Tryd.underlying40 ty50 rfl rfl (by omega)) ?_ | refine QL.val rfl (fun w hs => run_ixSl Tryd.underlying40 ty50 rfl rfl (by omega)) ?_)
        refine QL.yes rfl rfl rfl ?_; refine QL.val rfl (fun w hs => run_field (o' := 2) Tryd.underlying50 rfl ty34 rfl rfl rfl) ?_
        refine QL.yes rfl rfl rfl ?_
        refine QL.val rfl (fun w hs => run_load1 ty34 rfl ((c2' hs).cell (j := 2) e4)) ?_
        refine QL.yes rfl rfl rfl ?_
        refine QL.val rfl (fun w hs => run_toString Tryd.underlying34 Tryd.underlying9 Tryd.underlying5 rfl (s2.step0 hs)) ?_
        refine QL.yes rfl rfl rfl ?_
        refine QL.val rfl (fun w hs => run_bF (run_strNe rfl rfl) (by exact fun h => h hyx)) ?_
        refine QL.val rfl (fun w hs => run_pickF rfl) ?_
        refine QL.nil (fun w hs => ?_)
        refine CW.cond rfl (fun h2 => ?_) (fun h2 => ?_)
        · cases h2
        refine CW.skip <| CW.reg <| WL.val rfl (run_move) <| WL.val rfl (run_add (c := ((i + 1 : Nat) : Int)) rfl rfl (by omega) (by omega)) <| WL.val rfl (run_assign) <| WL.nil ?_
        refine (show _ ∧ _ from ⟨rfl, _, ?_, i + 1, by omega, rfl, hs, rfl, rfl, rfl, trivial⟩)
        omega
      · cases h
    · have e1 : r.enc[1]? = some (.bool false) := by show some (Value.bool r.d) = _; rw [hdd]
      have e2 : r'.enc[1]? = some (.bool false) := by show some (Value.bool r'.d) = _; rw [← hyd, hdd]
      refine CW.seq <| CW.seq <| CW.reg <| WL.val rfl (run_move) <| WL.val rfl (run_move) <| WL.val rfl (run_lenSl Tryd.underlying40 rfl) <| WL.val rfl (run_bT (run_lss rfl rfl) (by omega)) <| WL.nil ?_
      refine CW.cond rfl (fun h => ?_) (fun h => ?_)
      · repeat (first | refine CW.seq ?_ | refine CW.block ?_ | refine CW.skip ?_)
        refine CW.quiet mixedP (by kernel_rfl) hs ?_
        refine QL.val rfl (fun w hs => run_move) ?_
        refine QL.val rfl (fun w hs => run_move) ?_
        refine QL.val rfl (fun w hs => run_ixSlN Tryd.underlying40 ty50 rfl rfl (by omega)) ?_
        refine QL.val rfl (fun w hs => run_field (o' := 0) Tryd.underlying50 rfl ty9 rfl rfl rfl) ?_
        refine QL.val rfl (fun w hs => run_load1 ty9 rfl ((c1' hs).cell (j := 0) (v := str r.p) rfl)) ?_
        refine QL.val rfl (fun w hs => run_move) ?_
        refine QL.val rfl (fun w hs => run_move) ?_
        refine QL.val rfl (fun w hs => run_ixSlN Tryd.underlying40 ty50 rfl rfl (by omega)) ?_
        refine QL.val rfl (fun w hs => run_field (o' := 0) Tryd.underlying50 rfl ty9 rfl rfl rfl) ?_
        refine QL.val rfl (fun w hs => run_load1 ty9 rfl ((c2' hs).cell (j := 0) (v := str r'.p) rfl)) ?_
        refine QL.val rfl (fun w hs => run_bF (run_strNe rfl rfl) (by exact fun h => h hyp)) ?_
        refine QL.val rfl (fun w hs => run_move) ?_
        refine QL.yes rfl rfl rfl ?_; refine QL.val rfl (fun w hs => run_move) ?_
        refine QL.yes rfl rfl rfl ?_; refine QL.val rfl (fun w hs => run_move) ?_
        refine QL.yes rfl rfl rfl ?_; (first | refine QL.val rfl (fun w hs => run_ixSlN Tryd.underlying40 ty50 rfl rfl (by omega)) ?_ | refine QL.val rfl (fun w hs => run_ixSl Tryd.underlying40 ty50 rfl rfl (by omega)) ?_)
        refine QL.yes rfl rfl rfl ?_; refine QL.val rfl (fun w hs => run_field (o' := 1) Tryd.underlying50 rfl ty4 rfl rfl rfl) ?_
        refine QL.yes rfl rfl rfl ?_
        refine QL.val rfl (fun w hs => run_load1 ty4 rfl ((c1' hs).cell (j := 1) e1)) ?_
        refine QL.yes rfl rfl rfl ?_; refine QL.val rfl (fun w hs => run_move) ?_
        refine QL.yes rfl rfl rfl ?_; refine QL.val rfl (fun w hs => run_move) ?_
        refine QL.yes rfl rfl rfl ?_; (first | refine QL.val rfl (fun w hs => run_ixSlN Tryd.underlying40 ty50 rfl rfl (by omega)) ?_ | refine QL.val rfl (fun w hs => run_ixSl Tryd.underlying40 ty50 rfl rfl (by omega)) ?_)
        refine QL.yes rfl rfl rfl ?_; refine QL.val rfl (fun w hs => run_field (o' := 1) Tryd.underlying50 rfl ty4 rfl rfl rfl) ?_
        refine QL.yes rfl rfl rfl ?_
        refine QL.val rfl (fun w hs => run_load1 ty4 rfl ((c2' hs).cell (j := 1) e2)) ?_
        refine QL.yes rfl rfl rfl ?_; refine QL.val rfl (fun w hs => run_neqB Tryd.underlying4 rfl rfl) ?_
        refine QL.val rfl (fun w hs => run_pickF rfl) ?_
        refine QL.val rfl (fun w hs => run_move) ?_
        refine QL.yes rfl rfl rfl ?_; refine QL.val rfl (fun w hs => run_move) ?_
        refine QL.yes rfl rfl rfl ?_; refine QL.val rfl (fun w hs => run_move) ?_
        refine QL.yes rfl rfl rfl ?_; (first | refine QL.val rfl (fun w hs => run_ixSlN Tryd.underlying40 ty50 rfl rfl (by omega)) ?_ | refine QL.val rfl (fun w hs => run_ixSl Tryd.underlying40 ty50 rfl rfl (by omega)) ?_)
        refine QL.yes rfl rfl rfl ?_; refine QL.val rfl (fun w hs => run_field (o' := 2) Tryd.underlying50 rfl ty34 rfl rfl rfl) ?_
        refine QL.yes rfl rfl rfl ?_
        refine QL.val rfl (fun w hs => run_load1 ty34 rfl ((c1' hs).cell (j := 2) e3)) ?_
        refine QL.yes rfl rfl rfl ?_
        refine QL.val rfl (fun w hs => run_toString Tryd.underlying34 Tryd.underlying9 Tryd.underlying5 rfl (s1.step0 hs)) ?_
        refine QL.yes rfl rfl rfl ?_; refine QL.val rfl (fun w hs => run_move) ?_
        refine QL.yes rfl rfl rfl ?_; refine QL.val rfl (fun w hs => run_move) ?_
        refine QL.yes rfl rfl rfl ?_; (first | refine QL.val rfl (fun w hs => run_ixSlN Tryd.underlying40 ty50 rfl rfl (by omega)) ?_ | refine QL.val rfl (fun w hs => run_ixSl Tryd.underlying40 ty50 rfl rfl (by omega)) ?_)
        refine QL.yes rfl rfl rfl ?_; refine QL.val rfl (fun w hs => run_field (o' := 2) Tryd.underlying50 rfl ty34 rfl rfl rfl) ?_
        refine QL.yes rfl rfl rfl ?_
        refine QL.val rfl (fun w hs => run_load1 ty34 rfl ((c2' hs).cell (j := 2) e4)) ?_
        refine QL.yes rfl rfl rfl ?_
        refine QL.val rfl (fun w hs => run_toString Tryd.underlying34 Tryd.underlying9 Tryd.underlying5 rfl (s2.step0 hs)) ?_
        refine QL.yes rfl rfl rfl ?_
        refine QL.val rfl (fun w hs => run_bF (run_strNe rfl rfl) (by exact fun h => h hyx)) ?_
        refine QL.val rfl (fun w hs => run_pickF rfl) ?_
        refine QL.nil (fun w hs => ?_)
        refine CW.cond rfl (fun h2 => ?_) (fun h2 => ?_)
        · cases h2
        refine CW.skip <| CW.reg <| WL.val rfl (run_move) <| WL.val rfl (run_add (c := ((i + 1 : Nat) : Int)) rfl rfl (by omega) (by omega)) <| WL.val rfl (run_assign) <| WL.nil ?_
        refine (show _ ∧ _ from ⟨rfl, _, ?_, i + 1, by omega, rfl, hs, rfl, rfl, rfl, trivial⟩)
        omega
      · cases h
  · refine CW.seq <| CW.seq <| CW.reg <| WL.val rfl (run_move) <| WL.val rfl (run_move) <| WL.val rfl (run_lenSl Tryd.underlying40 rfl) <| WL.val rfl (run_bF (run_lss rfl rfl) (by omega)) <| WL.nil ?_
    refine CW.cond rfl (fun h => ?_) (fun h => ?_)
    · cases h
    repeat (first | refine CW.seq ?_ | refine CW.exit ?_)
    refine CW.reg <| WL.val rfl (run_assign) <| WL.nil ?_
    refine CW.ret ?_
    refine fin_ret1 rfl ?_
    exact ⟨rfl, hs⟩
end Go.Gx
/-! VwC -/
namespace Go.Gx
open Go.Proofs Go.RowKit
set_option linter.unusedVariables false
set_option linter.unusedSimpArgs false
set_option maxRecDepth 100000
/-- A script's steps, one after the other. -/
def VS.goS (s : VS) (l : List Stv) : VS := l.foldl (fun s x => (s.doS x).1) s
theorem goS_keeps : ∀ (l : List Stv) {s : VS}, s.Sane → s.Tree → (s.goS l).Sane ∧ (s.goS l).Tree
  | [], s, sn, t => ⟨sn, t⟩
  | x :: l, s, sn, t => goS_keeps l (do_keeps sn t x).1 (do_keeps sn t x).2
theorem goS_step {s : VS} {l : List Stv} {i : Nat} {x : Stv} (h : l[i]? = some x) : s.goS (l.take (i + 1)) = ((s.goS (l.take i)).doS x).1 := by
  have hobt := List.getElem?_eq_some_iff.1 h
  obtain ⟨h1, h2⟩ := hobt
  rw [← List.take_append_getElem h1, h2, VS.goS, List.foldl_append]
  rfl
theorem goS_all {s : VS} {l : List Stv} {i : Nat} (h : l.length ≤ i) : s.goS (l.take i) = s.goS l := by rw [List.take_of_length_le h]
theorem open_low {s : VS} {p : List UInt8} {m : Int} : 0 ≤ (s.open p m).1 := by
  unfold VS.open
  split
  · exact Int.le_refl _
  split
  · exact Int.le_refl _
  split
  · exact Int.le_refl _
  split
  · exact Int.le_refl _
  split
  · exact Int.le_refl _
  exact Int.natCast_nonneg _
theorem do_low {s : VS} {x : Stv} : -1 ≤ (s.doS x).2 := by
  have h := open_low (s := s) (p := x.p) (m := x.n)
  unfold VS.doS
  split
  · show -1 ≤ (if (s.open x.p x.n).2.1 = 0 then (s.open x.p x.n).1 else -1)
    split <;> omega
  · split
    · exact Int.le_refl _
    · split
      · exact Int.le_refl _
      · split <;> exact Int.le_refl _
theorem itemsL_x {s : VS} (ok : s.Ok) : ∀ t ∈ s.itemsL, t.2.2.length ≤ 1048576 := fun t ht => by
  have h1 : t ∈ s.itemsU := (itemsL_perm s.itemsU).mem_iff.1 ht
  unfold VS.itemsU at h1
  rcases List.mem_append.1 h1 with h | h
  · have hobt := List.mem_map.1 h
    obtain ⟨p, _, rfl⟩ := hobt
    exact Nat.zero_le _
  · have hobt := List.mem_map.1 h
    obtain ⟨e, he, rfl⟩ := hobt
    exact ok.x e he
theorem itemsL_n {s : VS} (sn : s.Sane) : s.itemsL.length ≤ 131072 := by
  have h1 : s.itemsL.length = s.itemsU.length := (itemsL_perm s.itemsU).length_eq
  rw [h1]
  unfold VS.itemsU
  rw [List.length_append, List.length_map, List.length_map]
  have h2 := List.length_filter_le (fun p : List UInt8 => decide (p ≠ [])) (s.D.map (·.1))
  rw [List.length_map] at h2
  have := sn.lim
  omega
section
variable {bf bf' : Nat} {s s' : VS} {L L' R : List (Nat × Obj)} {w0 w : World}
/-- A file system's blocks in their place. -/
theorem do_at (hs : Step [] (L ++ R) w0 w) (hR : VRep bf s L) (sn : s.Sane) (t : s.Tree) (hg : Gl w0) {x : Stv} (hx : x.Ok w0) : Calls Tryd.prog 13 #[.pointer (some ⟨bf, 0, none⟩), .agg x.cells.toArray] w fun e w' => ∃ L', e = .returned (.int .i64 (s.doS x).2) ∧ VRep bf (s.doS x).1 L' ∧ Step [] (L' ++ R) w0 w' :=
  (do_spec (x := x) hR sn t (hg.step hs) (hs.dropR.zero (by simp) hg) hs.own ⟨hx.hk, hx.hh, hx.hn, hx.hp, hx.hb.step0 hs, hx.lb⟩ (fun h => hx.hb.step0 (hs.call h))).mono fun e w' ⟨L', h1, h2, h3⟩ => ⟨L', h1, h2, hs.call h3⟩
theorem items_at (hs : Step [] R w0 w) (hR : VRep bf s L) (hL : ∀ p ∈ L, p ∈ R) (sn : s.Sane) (t : s.Tree) (hg : Gl w0) : Calls Tryd.prog 14 #[.pointer (some ⟨bf, 0, none⟩)] w fun e w' => ∃ u Lu RR, e = .returned u ∧ absR RR = s.itemsL ∧ OwnSl 50 3 u RR.length (rowsI RR) Lu ∧ (∀ r ∈ RR, OwnSl 5 1 r.v r.x.length (u8s r.x) r.Lv) ∧ Step [] ((Lu ++ RR.flatMap (·.Lv)) ++ R) w0 w' := by
  obtain ⟨mf, md, vh, Lh, Fs, Ds, Hs, o⟩ := hR
  exact (allItems_spec o sn.ok t (hg.step hs) fun p hp => hs.has p (hL p hp)).mono fun e w' ⟨u, Lu, RR, h1, h2, h3, h4, h5⟩ => ⟨u, Lu, RR, h1, h2, h3, h4, hs.call0 h5⟩
theorem used_at (hs : Step [] R w0 w) (hR : VRep bf s L) (hL : ∀ p ∈ L, p ∈ R) (sn : s.Sane) : Calls Tryd.prog 23 #[.pointer (some ⟨bf, 0, none⟩)] w (Ret0 (.agg (quoC (s.by_ : Nat) (s.items : Nat) (s.op : Nat)).toArray) w) := by
  obtain ⟨mf, md, vh, Lh, Fs, Ds, Hs, o⟩ := hR
  have hD0 : 0 < s.D.length := by
    have hobt := Option.isSome_iff_exists.1 sn.root
    obtain ⟨j, hj⟩ := hobt
    unfold VS.dir at hj
    have := (List.findIdx?_eq_some_iff_getElem.1 hj).1
    omega
  exact used_spec o sn.ok hD0 fun p hp => hs.has p (hL p hp)
theorem same_at {u u' : Value} {A A' : List RowI} {Lu Lu' : List (Nat × Obj)} {X : List Tri} (hs : Step [] R w0 w) (hx : ∀ t ∈ X, t.2.2.length ≤ 1048576) (hn : X.length ≤ 131072) (hA : absR A = X) (hA' : absR A' = X) (hu : OwnSl 50 3 u A.length (rowsI A) Lu) (hu' : OwnSl 50 3 u' A'.length (rowsI A') Lu') (ho : ∀ r ∈ A, OwnSl 5 1 r.v r.x.length (u8s r.x) r.Lv) (ho' : ∀ r ∈ A', OwnSl 5 1 r.v r.x.length (u8s r.x) r.Lv) (hL : ∀ p ∈ Lu ++ A.flatMap (·.Lv), p ∈ R) (hL' : ∀ p ∈ Lu' ++ A'.flatMap (·.Lv), p ∈ R) : Calls Tryd.prog 20 #[u, u'] w (Ret0 (.bool true) w) := by
  have h1 : A.length = X.length := by rw [← hA, absR, List.length_map]
  have h2 : A'.length = X.length := by rw [← hA', absR, List.length_map]
  rw [h1] at hu
  rw [h2] at hu'
  exact same_spec w h1 h2 hn (hA.trans hA'.symm) hu hu' (fun p hp => hs.has p (hL p (List.mem_append_left _ hp))) (fun p hp => hs.has p (hL' p (List.mem_append_left _ hp)))
    (fun r hr => (ho r hr).slW fun p hp => hs.has p (hL p (List.mem_append_right _ (List.mem_flatMap.2 ⟨r, hr, hp⟩))))
    (fun r hr => (ho' r hr).slW fun p hp => hs.has p (hL' p (List.mem_append_right _ (List.mem_flatMap.2 ⟨r, hr, hp⟩))))
    (fun r hr => hx (r.p, r.d, r.x) (by rw [← hA]; exact List.mem_map.2 ⟨r, hr, rfl⟩))
end
end Go.Gx
/-! Gr1 -/
namespace Go.Gx
set_option linter.unusedVariables false
set_option linter.unusedSimpArgs false
section
variable {P : Program} {ops : Array Oper} {Q : Post} {n : Nat} {rest : List Oper} {f : Slots} {ds : List Deferred} {w w0 : World} {ty : TypeId} {pos : String} {af : Array Edge} {d : Nat} {x y : Operand} {T : TypeId} {S : List Nat} {L : List (Nat × Obj)}
/-- What append yields, of our own slice: in its room, or in a new block: the old one stands. -/
theorem run_append2 {agg : Bool} {sz bytes k m : Nat} {zs xs ys : List Value} {E T' : TypeId} {v u : Value} {Lv : List (Nat × Obj)} (ht : P.underlying T = some (.slice E)) (hz' : SrcT P T') (hE : Ty P E agg sz bytes zs) (hzl : zs.length = sz) (hb0 : 0 < bytes)
    (hv : OwnSl E sz v k xs Lv) (hs : Step S (Lv ++ L) w0 w) (hul : (Builtin.lenOf u).run P w = .ok m w) (hu : (Builtin.firstCells sz m u).run P w = .ok ys.toArray w) (hud : (Builtin.firstCells sz m u).run P w.drew = .ok ys.toArray w.drew) (hly : ys.length = m * sz) (hc1 : Cells1 ys) (hroom : (k + m) * bytes ≤ 140737488355328) (hm : 0 < m) :
    ∃ v' w', (Builtin.append_ #[T, T'] ty #[v, u]).run P w = .ok v' w' ∧ ((∃ b cap more more', v = .slice (some ⟨b, 0, none⟩) k cap ∧ v' = .slice (some ⟨b, 0, none⟩) (k + m) cap ∧ Lv = [(b, blk E (xs ++ more))] ∧ (xs ++ ys ++ more').length = cap * sz ∧ Step S ((b, blk E (xs ++ ys ++ more')) :: L) w0 w') ∨
      (∃ Lv', OwnSl E sz v' (k + m) (xs ++ ys) Lv' ∧ Step S (Lv' ++ (Lv ++ L)) w0 w')) := by
  have hsl := hv.sl hs
  obtain ⟨hl, hcase⟩ := hv
  obtain ⟨a, cap, rfl⟩ : ∃ a cap, v = .slice a k cap := by
    rcases hcase with ⟨rfl, rfl, rfl⟩ | ⟨b, cap, more, rfl, rfl, hcap⟩ <;> exact ⟨_, _, rfl⟩
  by_cases hfit : k + m ≤ cap
  · rcases hcase with ⟨h1, rfl, rfl⟩ | ⟨b, cap', more, h1, rfl, hcap⟩
    · injection h1 with h1 h2 h3
      omega
    · injection h1 with h1 h2 h3
      subst h1; subst h3
      have hlm : (xs ++ more).length = xs.length + more.length := by simp
      have hle : ys.length ≤ more.length := by
        have : (k + m) * sz ≤ cap * sz := Nat.mul_le_mul_right _ hfit
        rw [Nat.add_mul] at this
        omega
      have hst := run_storeCells (P := P) ys 0 (k * sz) b E (xs ++ more) w hs.hd (by rw [hlm]; omega) hc1
      refine ⟨.slice (some ⟨b, 0, none⟩) (k + m) cap, setRow w b (k * sz + 0) ys, ?_, .inl ⟨b, cap, more, more.drop ys.length, rfl, rfl, rfl, ?_, ?_⟩⟩
      · rw [run_append_in ht hz' hE hul hu hfit, hst]
        rfl
      · simp only [List.length_append, List.length_drop] at hcap ⊢
        omega
      · have := Step.row ys (k * sz) (xs ++ more) w hs (by rw [hlm]; omega)
        rw [← hl, splice_end xs more ys hle] at this
        rw [Nat.add_zero, ← hl]
        exact this
  · have hle : k + m ≤ grownCap w (k + m) cap E := by unfold grownCap Question.cut; exact Nat.le_add_right _ _
    refine ⟨_, _, run_append_new ht hz' hE hb0 hul hud (run_firstCells_drew hsl) (by omega) hroom, .inr ⟨[(w.heap.size, _)], ⟨by simp [hl, hly, Nat.add_mul], .inr ⟨_, _, _, rfl, rfl, ?_⟩⟩, hs.drew.alloc _⟩⟩
    simp only [List.length_append, List.length_flatten, List.map_replicate, List.sum_replicate_nat, hl, hly, hzl, ← Nat.add_mul]
    congr 1
    omega
/-- Two slices: one as it was handed out, with marks in it; the other the same, grown: in its room or apart. -/
def Tw (E : TypeId) (sz : Nat) (v u : Value) (n j : Nat) (ms gs : List Value) (L : List (Nat × Obj)) : Prop :=
  ms.length = n * sz ∧ gs.length = j * sz ∧
  ((∃ b cap room, v = .slice (some ⟨b, 0, none⟩) n cap ∧ u = .slice (some ⟨b, 0, none⟩) (n + j) cap ∧ L = [(b, blk E (ms ++ gs ++ room))] ∧ (ms ++ gs ++ room).length = cap * sz) ∨
   (∃ Lo Lu, L = Lo ++ Lu ∧ OwnSl E sz v n ms Lo ∧ OwnSl E sz u (n + j) (ms ++ gs) Lu))
theorem Tw.start {E sz : Nat} {v : Value} {n : Nat} {ms : List Value} (h : OwnSl E sz v n ms L) : Tw E sz v v n 0 ms [] L := by
  obtain ⟨hl, ⟨rfl, rfl, rfl⟩ | ⟨b, cap, more, rfl, rfl, hc⟩⟩ := h
  · exact ⟨hl, by simp, .inr ⟨[], [], rfl, ⟨hl, .inl ⟨rfl, rfl, rfl⟩⟩, ⟨by simpa using hl, .inl ⟨rfl, rfl, rfl⟩⟩⟩⟩
  · exact ⟨hl, by simp, .inl ⟨b, cap, more, rfl, rfl, by simp, by simpa using hc⟩⟩
theorem OwnSl.slH {E sz : Nat} {v : Value} {k : Nat} {xs : List Value} {Lv : List (Nat × Obj)} {w : World} (h : OwnSl E sz v k xs Lv) (hw : ∀ p ∈ Lv, w.heap[p.1]? = some p.2) : Sl w sz v k xs := by
  obtain ⟨hl, ⟨rfl, rfl, rfl⟩ | ⟨b, cap, more, rfl, rfl, hc⟩⟩ := h
  · exact ⟨hl, .inl ⟨none, 0, rfl, rfl⟩⟩
  · exact .mk hl (At.of_blk (hw (b, blk E (xs ++ more)) (by simp))).left
theorem Tw.left {E sz : Nat} {v u : Value} {n j : Nat} {ms gs : List Value} (h : Tw E sz v u n j ms gs L) (hw : ∀ p ∈ L, w.heap[p.1]? = some p.2) : Sl w sz v n ms := by
  obtain ⟨h1, h2, ⟨b, cap, room, rfl, rfl, rfl, hc⟩ | ⟨Lo, Lu, rfl, ho, hu⟩⟩ := h
  · have := At.of_blk (hw (b, blk E (ms ++ gs ++ room)) (by simp))
    rw [List.append_assoc] at this
    exact .mk h1 this.left
  · exact ho.slH fun p hp => hw p (by simp [hp])
theorem Tw.right {E sz : Nat} {v u : Value} {n j : Nat} {ms gs : List Value} (h : Tw E sz v u n j ms gs L) (hw : ∀ p ∈ L, w.heap[p.1]? = some p.2) : Sl w sz u (n + j) (ms ++ gs) := by
  obtain ⟨h1, h2, ⟨b, cap, room, rfl, rfl, rfl, hc⟩ | ⟨Lo, Lu, rfl, ho, hu⟩⟩ := h
  · exact .mk (by rw [List.length_append, h1, h2, Nat.add_mul]) (At.of_blk (hw (b, blk E (ms ++ gs ++ room)) (by simp))).left
  · exact hu.slH fun p hp => hw p (by simp [hp])
theorem Tw.formL {E sz : Nat} {v u : Value} {n j : Nat} {ms gs : List Value} (h : Tw E sz v u n j ms gs L) : ∃ a c, v = .slice a n c := by
  obtain ⟨h1, h2, ⟨b, cap, room, rfl, rfl, rfl, hc⟩ | ⟨Lo, Lu, rfl, ho, hu⟩⟩ := h
  · exact ⟨_, _, rfl⟩
  · exact ho.form
theorem Tw.formR {E sz : Nat} {v u : Value} {n j : Nat} {ms gs : List Value} (h : Tw E sz v u n j ms gs L) : ∃ a c, u = .slice a (n + j) c := by
  obtain ⟨h1, h2, ⟨b, cap, room, rfl, rfl, rfl, hc⟩ | ⟨Lo, Lu, rfl, ho, hu⟩⟩ := h
  · exact ⟨_, _, rfl⟩
  · exact hu.form
theorem Tw.oneR {E sz : Nat} {v u : Value} {n j : Nat} {ms gs : List Value} (h : Tw E sz v u n j ms gs L) : u.oneCell' = true := by
  have hobt := h.formR
  obtain ⟨a, c, rfl⟩ := hobt
  rfl
/-- append(u, e...), u the grown one. -/
theorem WL.appendTw {agg : Bool} {sz bytes k j m : Nat} {zs ms gs ys : List Value} {E T' : TypeId} {v u e : Value} {L1 : List (Nat × Obj)} (ht : P.underlying T = some (.slice E)) (ht' : P.underlying T' = some (.slice E)) (hE : Ty P E agg sz bytes zs) (hzl : zs.length = sz) (hb0 : 0 < bytes)
    (hx : ev f x = u) (hy : ev f y = e) (hv : Tw E sz v u k j ms gs L1) (hs : Step S (L1 ++ L) w0 w) (hu : Sl w sz e m ys) (hm : 0 < m) (hc1 : Cells1 ys) (hroom : (k + j + m) * bytes ≤ 140737488355328) (hd : Nat.blt d n = true)
    (h : ∀ u' L1' w', Tw E sz v u' k (j + m) ms (gs ++ ys) L1' → Step S (L1' ++ L) w0 w' → WL P ops Q n rest (upd f d u') ds w') :
    WL P ops Q n (⟨some d, .call { callee := .builtin .append, args := #[x, y], argTypes := #[T, T'] }, ty, pos, af, none⟩ :: rest) f ds w := by
  have hly := hu.1
  obtain ⟨h1, h2, ⟨b, cap, room, rfl, rfl, rfl, hc⟩ | ⟨Lo, Lu, rfl, ho, hu2⟩⟩ := hv
  · have hown : OwnSl E sz (.slice (some ⟨b, 0, none⟩) (k + j) cap) (k + j) (ms ++ gs) [(b, blk E (ms ++ gs ++ room))] := ⟨by rw [List.length_append, h1, h2, Nat.add_mul], .inr ⟨b, cap, room, rfl, rfl, hc⟩⟩
    have hobt := run_append2 (ty := ty) ht (.inl ⟨E, ht'⟩) hE hzl hb0 hown hs (run_lenOf hu) (run_firstCells hu) (run_firstCells_drew hu) hu.1 hc1 hroom hm
    obtain ⟨v', w', hr, hcase⟩ := hobt
    have hrun : (execOp (ev f) ⟨some d, .call { callee := .builtin .append, args := #[x, y], argTypes := #[T, T'] }, ty, pos, af, none⟩).run P w = .ok (.value v') w' := by
      simp [execOp, hx, hy, resolve, invoke, builtin, hr]
    rcases hcase with ⟨b', cap', more, more', e1, rfl, e3, e4, hst⟩ | ⟨Lv', hv', hst⟩
    · obtain ⟨rfl, rfl⟩ : b = b' ∧ cap = cap' := by
        injection e1 with e1 _ e2
        injection e1 with e1
        injection e1 with e1
        exact ⟨e1, e2⟩
      refine WL.val hd hrun (h _ [(b, blk E (ms ++ (gs ++ ys) ++ more'))] w' ⟨h1, by rw [List.length_append, h2, hly, Nat.add_mul], .inl ⟨b, cap, more', rfl, by rw [Nat.add_assoc], rfl, by rw [← e4]; simp [List.append_assoc]⟩⟩ ?_)
      simpa [List.append_assoc] using hst
    · refine WL.val hd hrun (h _ ([(b, blk E (ms ++ gs ++ room))] ++ Lv') w' ⟨h1, by rw [List.length_append, h2, hly, Nat.add_mul], .inr ⟨[(b, blk E (ms ++ gs ++ room))], Lv', rfl, ⟨h1, .inr ⟨b, cap, gs ++ room, rfl, by rw [List.append_assoc], by rw [← hc, List.append_assoc]⟩⟩, ?_⟩⟩ ?_)
      · rw [← Nat.add_assoc, ← List.append_assoc]
        exact hv'
      · refine hst.perm ?_
        rw [List.append_assoc]
        exact List.perm_append_comm_assoc _ _ _
  · have hs2 : Step S (Lu ++ (Lo ++ L)) w0 w := hs.perm (by
      rw [List.append_assoc]
      exact List.perm_append_comm_assoc _ _ _)
    have hobt := run_append2 (ty := ty) ht (.inl ⟨E, ht'⟩) hE hzl hb0 hu2 hs2 (run_lenOf hu) (run_firstCells hu) (run_firstCells_drew hu) hu.1 hc1 hroom hm
    obtain ⟨v', w', hr, hcase⟩ := hobt
    have hrun : (execOp (ev f) ⟨some d, .call { callee := .builtin .append, args := #[x, y], argTypes := #[T, T'] }, ty, pos, af, none⟩).run P w = .ok (.value v') w' := by
      simp [execOp, hx, hy, resolve, invoke, builtin, hr]
    have fin : ∀ Lv', OwnSl E sz v' (k + j + m) (ms ++ gs ++ ys) Lv' → Step S (Lv' ++ (Lo ++ L)) w0 w' → WL P ops Q n rest (upd f d v') ds w' := fun Lv' hv' hst => by
      refine h _ (Lo ++ Lv') w' ⟨h1, by rw [List.length_append, h2, hly, Nat.add_mul], .inr ⟨Lo, Lv', rfl, ho, ?_⟩⟩ ?_
      · rw [← Nat.add_assoc, ← List.append_assoc]
        exact hv'
      · refine hst.perm ?_
        rw [List.append_assoc]
        exact List.perm_append_comm_assoc _ _ _
    rcases hcase with ⟨b', cap', more, more', e1, rfl, e3, e4, hst⟩ | ⟨Lv', hv', hst⟩
    · exact WL.val hd hrun (fin [(b', blk E (ms ++ gs ++ ys ++ more'))] ⟨by rw [List.length_append, List.length_append, h1, h2, hly, Nat.add_mul, Nat.add_mul], .inr ⟨b', cap', more', rfl, rfl, e4⟩⟩ hst)
    · refine WL.val hd hrun (fin Lv' hv' ?_)
      have h3 : Step S (Lu ++ (Lv' ++ (Lo ++ L))) w0 w' := hst.perm (List.perm_append_comm_assoc _ _ _)
      exact Step.dropL h3
end
section
variable {Ls : Nat → List (Nat × Obj)} {A B X : List (Nat × Obj)} {i N : Nat} {S : List Nat} {w0 w : World}
theorem flatMap_congr' {α β : Type} {f g : α → List β} : ∀ {l : List α}, (∀ a ∈ l, f a = g a) → l.flatMap f = l.flatMap g
  | [], _ => rfl
  | a :: l, h => by
    rw [List.flatMap_cons, List.flatMap_cons, h a (by simp), flatMap_congr' fun b hb => h b (by simp [hb])]
def allL (Ls : Nat → List (Nat × Obj)) (N : Nat) : List (Nat × Obj) := (List.range N).flatMap Ls
def othL (Ls : Nat → List (Nat × Obj)) (i N : Nat) : List (Nat × Obj) := ((List.range N).filter (· != i)).flatMap Ls
def putL (Ls : Nat → List (Nat × Obj)) (i : Nat) (X : List (Nat × Obj)) (k : Nat) : List (Nat × Obj) := if k = i then X else Ls k
theorem allL_perm (h : i < N) : (allL Ls N).Perm (Ls i ++ othL Ls i N) := by
  have h1 : (List.range N).Perm (i :: (List.range N).erase i) := List.perm_cons_erase (by simpa using h)
  rw [List.Nodup.erase_eq_filter List.nodup_range] at h1
  exact h1.flatMap_right Ls
theorem othL_put : othL (putL Ls i X) i N = othL Ls i N := by
  unfold othL
  apply flatMap_congr'
  intro k hk
  have : k ≠ i := by simpa using (List.mem_filter.1 hk).2
  simp [putL, this]
theorem allL_mem {p : Nat × Obj} (h : i < N) (hp : p ∈ Ls i) : p ∈ allL Ls N := List.mem_flatMap.2 ⟨i, by simpa using h, hp⟩
theorem allL_succ : allL Ls (N + 1) = allL Ls N ++ Ls N := by simp [allL, List.range_succ]
theorem allL_congr {Ls' : Nat → List (Nat × Obj)} (h : ∀ k, k < N → Ls k = Ls' k) : allL Ls N = allL Ls' N := flatMap_congr' fun k hk => h k (by simpa using hk)
theorem Step.openL (h : i < N) (hs : Step S (A ++ (allL Ls N ++ B)) w0 w) : Step S (Ls i ++ (A ++ (othL Ls i N ++ B))) w0 w := hs.perm (by
  have h1 := ((allL_perm (Ls := Ls) h).append_right B).append_left A
  have h2 : (A ++ (Ls i ++ othL Ls i N ++ B)).Perm (Ls i ++ (A ++ (othL Ls i N ++ B))) := by
    rw [List.append_assoc]
    exact List.perm_append_comm_assoc _ _ _
  exact h1.trans h2)
theorem Step.shutL (h : i < N) (hs : Step S (X ++ (A ++ (othL Ls i N ++ B))) w0 w) : Step S (A ++ (allL (putL Ls i X) N ++ B)) w0 w := hs.perm (by
  have h0 : putL Ls i X i = X := by simp [putL]
  have h1 := ((allL_perm (Ls := putL Ls i X) h).append_right B).append_left A
  rw [h0, othL_put] at h1
  have h2 : (A ++ (X ++ othL Ls i N ++ B)).Perm (X ++ (A ++ (othL Ls i N ++ B))) := by
    rw [List.append_assoc]
    exact List.perm_append_comm_assoc _ _ _
  exact (h1.trans h2).symm)
theorem Step.openA (h : i < N) (hs : Step S (A ++ allL Ls N) w0 w) : Step S (Ls i ++ (A ++ othL Ls i N)) w0 w := by
  have := Step.openL (B := []) h (by rw [List.append_nil]; exact hs)
  rwa [List.append_nil] at this
theorem Step.shutA (h : i < N) (hs : Step S (X ++ (A ++ othL Ls i N)) w0 w) : Step S (A ++ allL (putL Ls i X) N) w0 w := by
  have := Step.shutL (B := []) h (by rw [List.append_nil]; exact hs)
  rwa [List.append_nil] at this
end
theorem set_map {us : Nat → Value} {room : List Value} {i N : Nat} {u : Value} (h : i < N) : ((List.range N).map us ++ room).set (0 + i * 1) u = (List.range N).map (fun q => if q = i then u else us q) ++ room := by
  rw [Nat.zero_add, Nat.mul_one, List.set_append_left _ _ (by simpa using h)]
  congr 1
  apply List.ext_getElem?
  intro q
  by_cases hq : q < N
  · rw [List.getElem?_set, List.getElem?_map, List.getElem?_map, List.getElem?_range hq]
    by_cases hqi : i = q
    · subst hqi
      simp [hq]
    · simp [hqi, Ne.symm hqi]
  · rw [List.getElem?_eq_none (by simp; omega), List.getElem?_eq_none (by simp; omega)]
theorem map_get {us : Nat → Value} {room : List Value} {i N : Nat} (h : i < N) : ((List.range N).map us ++ room)[0 + i * 1]? = some (us i) := by
  rw [Nat.zero_add, Nat.mul_one, List.getElem?_append_left (by simpa using h), List.getElem?_map, List.getElem?_range h]
  rfl
theorem Sl.baseB {w : World} {sz n : Nat} {v : Value} {cs : List Value} (h : Sl w sz v n cs) (h0 : 0 < n) : ∃ b off c, v = .slice (some ⟨b, off, none⟩) n c := by
  obtain ⟨hl, ⟨a, c, hc, h1⟩ | ⟨b, off, c, hc, hat⟩⟩ := h
  · omega
  · exact ⟨b, off, c, hc⟩
theorem Sl.atB {w : World} {sz n b off c : Nat} {cs : List Value} (h : Sl w sz (.slice (some ⟨b, off, none⟩) n c) n cs) (h0 : 0 < n) : At w b off cs := by
  obtain ⟨hl, ⟨a, c, hc, h1⟩ | ⟨b', off', c', hc, hat⟩⟩ := h
  · omega
  · injection hc with e1 e2 e3
    injection e1 with e1
    injection e1 with e1 e4
    subst e1 e4
    exact hat
theorem filledA2 {v u z : Value} (hv : v.oneCell' = true) (hu : u.oneCell' = true) : Filled 1 2 [z] [(0, v), (1, u)] [v, u] := by
  have h1 := cells_one hv
  have h2 := cells_one hu
  simp [Filled, Instr.fill, h1, h2]
section
variable {α : Type}
def extF (f : Nat → α) (k : Nat) (l : List α) (d : α) (q : Nat) : α := if q < k then f q else l.getD (q - k) d
theorem extF_old {f : Nat → α} {k q : Nat} {l : List α} {d : α} (h : q < k) : extF f k l d q = f q := if_pos h
theorem extF_new {f : Nat → α} {k j : Nat} {l : List α} {d x : α} (h : l[j]? = some x) : extF f k l d (k + j) = x := by
  unfold extF
  rw [if_neg (by omega), show k + j - k = j by omega, List.getD_eq_getElem?_getD, h]
  rfl
theorem extF_map {f : Nat → α} {k : Nat} {l : List α} {d : α} : (List.range (k + l.length)).map (extF f k l d) = (List.range k).map f ++ l := by
  rw [List.range_add, List.map_append, List.map_map]
  congr 1
  · exact List.map_congr_left fun q hq => extF_old (by simpa using hq)
  · apply List.ext_getElem?
    intro j
    by_cases hj : j < l.length
    · rw [List.getElem?_map, List.getElem?_range hj]
      simp only [Option.map_some, Function.comp]
      rw [extF_new (x := l[j]) (List.getElem?_eq_getElem hj), List.getElem?_eq_getElem hj]
    · rw [List.getElem?_eq_none (by simp; omega), List.getElem?_eq_none (by omega)]
end
theorem allL_ext {Ls : Nat → List (Nat × Obj)} {k : Nat} {l : List (List (Nat × Obj))} : allL (extF Ls k l []) (k + l.length) = allL Ls k ++ l.flatten := by
  unfold allL
  have h := extF_map (f := Ls) (k := k) (l := l) (d := [])
  rw [List.flatMap_def, h, List.flatten_append, ← List.flatMap_def]
theorem own_ext {E : TypeId} {sz k : Nat} {vs : Nat → Value} {ns : Nat → Nat} {xs : Nat → List Value} {Ls : Nat → List (Nat × Obj)} {lv : List Value} {ln : List Nat} {lx : List (List Value)} {lL : List (List (Nat × Obj))} {N : Nat} (hN : N = k + lv.length) (h1 : lv.length = ln.length) (h2 : lv.length = lx.length) (h3 : lv.length = lL.length)
    (ho : ∀ q, q < k → OwnSl E sz (vs q) (ns q) (xs q) (Ls q) ∧ ns q ≤ 2000000) (hn : ∀ (j : Nat) (v : Value) (n : Nat) (x : List Value) (L : List (Nat × Obj)), lv[j]? = some v → ln[j]? = some n → lx[j]? = some x → lL[j]? = some L → OwnSl E sz v n x L ∧ n ≤ 2000000) :
    ∀ q, q < N → OwnSl E sz (extF vs k lv .nilFunc q) (extF ns k ln 0 q) (extF xs k lx [] q) (extF Ls k lL [] q) ∧ extF ns k ln 0 q ≤ 2000000 := by
  intro q hq
  by_cases hqk : q < k
  · rw [extF_old hqk, extF_old hqk, extF_old hqk, extF_old hqk]
    exact ho q hqk
  · have hobt : ∃ j, q = k + j := ⟨q - k, by omega⟩
    obtain ⟨j, rfl⟩ := hobt
    have hj : j < lv.length := by omega
    have e1 := List.getElem?_eq_getElem hj
    have e2 := List.getElem?_eq_getElem (show j < ln.length by omega)
    have e3 := List.getElem?_eq_getElem (show j < lx.length by omega)
    have e4 := List.getElem?_eq_getElem (show j < lL.length by omega)
    rw [extF_new e1, extF_new e2, extF_new e3, extF_new e4]
    exact hn j _ _ _ _ e1 e2 e3 e4
end Go.Gx
/-! Gr2 -/
namespace Go.Gx
open Go.Proofs
set_option linter.unusedVariables false
set_option linter.unusedSimpArgs false
set_option maxRecDepth 100000
section
variable {P : Program} {f : Slots} {w : World} {d : Option Tmp} {ty : TypeId} {pos : String} {af : Array Edge} {x y : Operand} {T T' : TypeId} {k : IntKind}
theorem run_remN {n m : Nat} (hx : ev f x = .int k n) (hy : ev f y = .int k m) (hm : m ≠ 0) : (execOp (ev f) ⟨d, .binOp .rem T x y T', ty, pos, af, none⟩).run P w = .ok (.value (.int k ((n % m : Nat) : Int))) w := by
  rw [run_rem hx hy (by omega), Int.ofNat_tmod]
end
def markL (n : Nat) : List UInt8 := if n < 10 then [UInt8.ofNat (48 + n)] else markL (n / 10) ++ [UInt8.ofNat (48 + n % 10)]
decreasing_by omega
theorem markL_lo {n : Nat} (h : n < 10) : markL n = [UInt8.ofNat (48 + n)] := by rw [markL, if_pos h]
theorem markL_hi {n : Nat} (h : ¬ n < 10) : markL n = markL (n / 10) ++ [UInt8.ofNat (48 + n % 10)] := by rw [markL, if_neg h]
theorem markL_len : ∀ (k n : Nat), n < 10 ^ (k + 1) → (markL n).length ≤ k + 1
  | 0, n, h => by rw [markL_lo (by simpa using h)]; simp
  | k + 1, n, h => by
    by_cases h10 : n < 10
    · rw [markL_lo h10]; simp
    · rw [markL_hi h10, List.length_append]
      have := markL_len k (n / 10) (by rw [Nat.pow_succ] at h; omega)
      simp only [List.length_cons, List.length_nil]
      omega
set_option maxHeartbeats 2000000 in
theorem mark_spec : ∀ (k n : Nat) (w0 : World), n < 10 ^ (k + 1) → k ≤ 16 → Calls Tryd.prog 43 #[.int .i64 (n : Nat)] w0 fun e w' => e = .returned (str (markL n)) ∧ Step [] [] w0 w' := by
  intro k
  induction k with
  | zero =>
    intro n w0 hn hk
    have h10 : n < 10 := by simpa using hn
    have hs : Step [] [] w0 w0 := Step.refl w0
    have hml : markL n = [UInt8.ofNat (48 + n)] := markL_lo h10
    refine calls (n := 20) Tryd.func43 rfl rfl rfl ?_
    refine CW.seq ?_
    refine CW.reg ?_
    refine WL.val rfl (run_assign) ?_
    refine WL.nil ?_
    refine CW.seq <| CW.seq ?_
    refine CW.reg ?_
    refine WL.val rfl (run_move) ?_
    refine WL.val rfl (run_bT (run_lss rfl rfl) (by omega)) ?_
    refine WL.nil ?_
    refine CW.cond rfl (fun h => ?_) (fun h => ?_)
    · refine CW.seq ?_
      refine CW.reg ?_
      refine WL.val rfl (run_move) ?_
      refine WL.val rfl (run_add (c := ((48 + n : Nat) : Int)) rfl rfl (by omega) (by omega)) ?_
      refine WL.val rfl (run_convU8 Tryd.underlying3 Tryd.underlying5 rfl) ?_
      refine WL.buildSlice (cs := (u8s [UInt8.ofNat (48 + n)])) Tryd.underlying34 ty5 rfl (by decide) rfl (filled_s _ _ rfl) rfl hs (fun b8 w hs => ?_)
      refine WL.val rfl (run_toString Tryd.underlying34 Tryd.underlying9 Tryd.underlying5 rfl (Sl.own1 (n := 1) (cs := u8s [UInt8.ofNat (48 + n)]) hs rfl)) ?_
      refine WL.val rfl (run_assign) ?_
      refine WL.nil ?_
      refine CW.ret ?_
      refine fin_ret1 rfl ?_
      exact ⟨by rw [hml]; rfl, hs.clear⟩
    · cases h
  | succ k ih =>
    intro n w0 hn hk
    have hnb : n < 1000000000000000000 := Nat.lt_of_lt_of_le hn (Nat.pow_le_pow_right (n := 10) (by decide) (by omega : k + 1 + 1 ≤ 18))
    by_cases h10 : n < 10
    · have hs : Step [] [] w0 w0 := Step.refl w0
      have hml : markL n = [UInt8.ofNat (48 + n)] := markL_lo h10
      refine calls (n := 20) Tryd.func43 rfl rfl rfl ?_
      refine CW.seq ?_
      refine CW.reg ?_
      refine WL.val rfl (run_assign) ?_
      refine WL.nil ?_
      refine CW.seq <| CW.seq ?_
      refine CW.reg ?_
      refine WL.val rfl (run_move) ?_
      refine WL.val rfl (run_bT (run_lss rfl rfl) (by omega)) ?_
      refine WL.nil ?_
      refine CW.cond rfl (fun h => ?_) (fun h => ?_)
      · refine CW.seq ?_
        refine CW.reg ?_
        refine WL.val rfl (run_move) ?_
        refine WL.val rfl (run_add (c := ((48 + n : Nat) : Int)) rfl rfl (by omega) (by omega)) ?_
        refine WL.val rfl (run_convU8 Tryd.underlying3 Tryd.underlying5 rfl) ?_
        refine WL.buildSlice (cs := (u8s [UInt8.ofNat (48 + n)])) Tryd.underlying34 ty5 rfl (by decide) rfl (filled_s _ _ rfl) rfl hs (fun b8 w hs => ?_)
        refine WL.val rfl (run_toString Tryd.underlying34 Tryd.underlying9 Tryd.underlying5 rfl (Sl.own1 (n := 1) (cs := u8s [UInt8.ofNat (48 + n)]) hs rfl)) ?_
        refine WL.val rfl (run_assign) ?_
        refine WL.nil ?_
        refine CW.ret ?_
        refine fin_ret1 rfl ?_
        exact ⟨by rw [hml]; rfl, hs.clear⟩
      · cases h
    · have hs : Step [] [] w0 w0 := Step.refl w0
      have hml : markL n = markL (n / 10) ++ [UInt8.ofNat (48 + n % 10)] := markL_hi h10
      have hn1 : n / 10 < 10 ^ (k + 1) := by rw [Nat.pow_succ] at hn; omega
      have hi := fun w0 => ih (n / 10) w0 hn1 (by omega)
      have hlen := markL_len k (n / 10) hn1
      refine calls (n := 20) Tryd.func43 rfl rfl rfl ?_
      refine CW.seq ?_
      refine CW.reg ?_
      refine WL.val rfl (run_assign) ?_
      refine WL.nil ?_
      refine CW.seq <| CW.seq ?_
      refine CW.reg ?_
      refine WL.val rfl (run_move) ?_
      refine WL.val rfl (run_bF (run_lss rfl rfl) (by omega)) ?_
      refine WL.nil ?_
      refine CW.cond rfl (fun h => ?_) (fun h => ?_)
      · cases h
      repeat (first | refine CW.seq ?_ | refine CW.skip ?_)
      refine CW.any (A := fun w => True) (C := fun w => True) 1000000 11 mixedP rfl ?_
      replace hs := hs.drew
      refine AL.val 0 rfl (by kernel_rfl) rfl (fun w hs => run_move) ?_
      refine AL.val 1 rfl (by kernel_rfl) rfl (fun w hs => run_quoN (n := n) (m := 10) rfl rfl (by decide) (by omega)) ?_
      refine AL.val 3 rfl (by kernel_rfl) rfl (fun w hs => run_move) ?_
      refine AL.val 4 rfl (by kernel_rfl) rfl (fun w hs => run_remN (n := n) (m := 10) rfl rfl (by decide)) ?_
      refine AL.val 5 rfl (by kernel_rfl) rfl (fun w hs => run_add (c := ((48 + n % 10 : Nat) : Int)) rfl rfl (by omega) (by omega)) ?_
      refine AL.val 6 rfl (by kernel_rfl) rfl (fun w hs => run_convU8 Tryd.underlying3 Tryd.underlying5 rfl) ?_
      refine AL.two 2 7 (by kernel_rfl) rfl rfl (trivial) (trivial) ?_ ?_
      · refine WL.enter rfl (run_call en43 rfl rfl) (hi _) ?_
        rintro e w ⟨rfl, hq⟩
        refine ⟨_, rfl, ?_⟩
        replace hs := hs.call0 hq
        refine WL.nil ?_
        refine ⟨rfl, ?_⟩
        refine AL.one 7 (by kernel_rfl) rfl (trivial) (trivial) ?_
        refine WL.buildSlice (cs := (u8s [UInt8.ofNat (48 + n % 10)])) Tryd.underlying34 ty5 rfl (by decide) rfl (filled_s _ _ rfl) rfl hs (fun b17 w hs => ?_)
        refine WL.nil ?_
        refine ⟨rfl, ?_⟩
        refine AL.one 8 (by kernel_rfl) rfl (trivial) (trivial) ?_
        refine WL.val rfl (run_toString Tryd.underlying34 Tryd.underlying9 Tryd.underlying5 rfl (by first | exact Sl.own1 (n := 1) (cs := u8s [UInt8.ofNat (48 + n % 10)]) hs rfl | exact Sl.own1 (n := 1) (cs := u8s [UInt8.ofNat (48 + n % 10)]) (hs.perm List.perm_append_comm) rfl)) ?_
        refine WL.nil ?_
        refine ⟨rfl, ?_⟩
        refine AL.val 9 rfl (by kernel_rfl) rfl (fun w hs => run_strAdd rfl rfl (by first | omega | (simp; omega) | simp)) ?_
        refine AL.val 10 rfl (by kernel_rfl) rfl (fun w hs => run_assign) ?_
        refine AL.end (by kernel_rfl) (trivial) (trivial) ?_
        refine CW.ret ?_
        refine fin_ret1 rfl ?_
        exact ⟨by rw [hml]; rfl, hs.clear⟩
      · refine WL.buildSlice (cs := (u8s [UInt8.ofNat (48 + n % 10)])) Tryd.underlying34 ty5 rfl (by decide) rfl (filled_s _ _ rfl) rfl hs (fun b17 w hs => ?_)
        refine WL.nil ?_
        refine ⟨rfl, ?_⟩
        refine AL.two 2 8 (by kernel_rfl) rfl rfl (trivial) (trivial) ?_ ?_
        · refine WL.enter rfl (run_call en43 rfl rfl) (hi _) ?_
          rintro e w ⟨rfl, hq⟩
          refine ⟨_, rfl, ?_⟩
          replace hs := hs.call0 hq
          refine WL.nil ?_
          refine ⟨rfl, ?_⟩
          refine AL.one 8 (by kernel_rfl) rfl (trivial) (trivial) ?_
          refine WL.val rfl (run_toString Tryd.underlying34 Tryd.underlying9 Tryd.underlying5 rfl (by first | exact Sl.own1 (n := 1) (cs := u8s [UInt8.ofNat (48 + n % 10)]) hs rfl | exact Sl.own1 (n := 1) (cs := u8s [UInt8.ofNat (48 + n % 10)]) (hs.perm List.perm_append_comm) rfl)) ?_
          refine WL.nil ?_
          refine ⟨rfl, ?_⟩
          refine AL.val 9 rfl (by kernel_rfl) rfl (fun w hs => run_strAdd rfl rfl (by first | omega | (simp; omega) | simp)) ?_
          refine AL.val 10 rfl (by kernel_rfl) rfl (fun w hs => run_assign) ?_
          refine AL.end (by kernel_rfl) (trivial) (trivial) ?_
          refine CW.ret ?_
          refine fin_ret1 rfl ?_
          exact ⟨by rw [hml]; rfl, hs.clear⟩
        · refine WL.val rfl (run_toString Tryd.underlying34 Tryd.underlying9 Tryd.underlying5 rfl (by first | exact Sl.own1 (n := 1) (cs := u8s [UInt8.ofNat (48 + n % 10)]) hs rfl | exact Sl.own1 (n := 1) (cs := u8s [UInt8.ofNat (48 + n % 10)]) (hs.perm List.perm_append_comm) rfl)) ?_
          refine WL.nil ?_
          refine ⟨rfl, ?_⟩
          refine AL.one 2 (by kernel_rfl) rfl (trivial) (trivial) ?_
          refine WL.enter rfl (run_call en43 rfl rfl) (hi _) ?_
          rintro e w ⟨rfl, hq⟩
          refine ⟨_, rfl, ?_⟩
          replace hs := hs.call0 hq
          refine WL.nil ?_
          refine ⟨rfl, ?_⟩
          refine AL.val 9 rfl (by kernel_rfl) rfl (fun w hs => run_strAdd rfl rfl (by first | omega | (simp; omega) | simp)) ?_
          refine AL.val 10 rfl (by kernel_rfl) rfl (fun w hs => run_assign) ?_
          refine AL.end (by kernel_rfl) (trivial) (trivial) ?_
          refine CW.ret ?_
          refine fin_ret1 rfl ?_
          exact ⟨by rw [hml]; rfl, hs.clear⟩
end Go.Gx
/-! Gr3 -/
namespace Go.Gx
open Go.Proofs
set_option linter.unusedVariables false
set_option linter.unusedSimpArgs false
set_option maxRecDepth 100000
def gs (c : Nat → List Value) (n : Nat) : List Value := (List.range n).flatMap c
section
variable {c d : Nat → List Value} {sz n m : Nat}
theorem gs_succ : gs c (n + 1) = gs c n ++ c n := by simp [gs, List.range_succ]
theorem gs_len (h : ∀ k, (c k).length = sz) : ∀ n, (gs c n).length = n * sz
  | 0 => by simp [gs]
  | n + 1 => by rw [gs_succ, List.length_append, gs_len h n, h n, Nat.add_mul, Nat.one_mul]
theorem gs_splice {k : Nat} {Z more : List Value} (h : ∀ k, (c k).length = sz) (hZ : sz ≤ Z.length) : splice (gs c k ++ (Z ++ more)) (0 + k * sz) (c k) = gs c (k + 1) ++ (Z.drop sz ++ more) := by
  have e : gs c k ++ (Z ++ more) = gs c k ++ Z.take sz ++ (Z.drop sz ++ more) := by
    rw [List.append_assoc, ← List.append_assoc (Z.take sz), List.take_append_drop]
  rw [e, splice_mid (by rw [gs_len h, Nat.zero_add]) (by rw [h, List.length_take, Nat.min_eq_left hZ]), gs_succ]
theorem gs_set {k : Nat} {v : Value} {Z more : List Value} (hv : c k = [v]) (h : ∀ k, (c k).length = 1) (hZ : 1 ≤ Z.length) : (gs c k ++ (Z ++ more)).set (0 + k * 1) v = gs c (k + 1) ++ (Z.drop 1 ++ more) := by
  obtain ⟨z, Z, rfl⟩ : ∃ z Z', Z = z :: Z' := by
    cases Z with
    | nil => simp at hZ
    | cons z Z => exact ⟨z, Z, rfl⟩
  have hl := gs_len h k
  rw [gs_succ, hv, List.set_append_right _ _ (by rw [hl]; omega), hl, show 0 + k * 1 - k * 1 = 0 by omega]
  simp
theorem gs_at (h : ∀ k, (c k).length = sz) : ∀ {n k j : Nat}, k < n → j < sz → (gs c n)[k * sz + j]? = (c k)[j]?
  | 0, k, j, hk, hj => by omega
  | n + 1, k, j, hk, hj => by
    rw [gs_succ]
    by_cases hkn : k < n
    · have h1 : (k + 1) * sz ≤ n * sz := Nat.mul_le_mul_right _ hkn
      rw [Nat.add_mul, Nat.one_mul] at h1
      rw [List.getElem?_append_left (by rw [gs_len h]; omega), gs_at h hkn hj]
    · obtain rfl : k = n := by omega
      rw [List.getElem?_append_right (by rw [gs_len h]; omega), gs_len h, show k * sz + j - k * sz = j by omega]
theorem At.gs1 {w : World} {b off k : Nat} {v : Value} {rest X : List Value} (ha : At w b off (gs c n ++ X)) (h : ∀ k, (c k).length = sz) (hk : k < n) (hv : c k = v :: rest) : w.cell? ⟨b, off + k * sz, none⟩ = some v := by
  have h0 : 0 < sz := by rw [← h k, hv]; simp
  have h1 : (k + 1) * sz ≤ n * sz := Nat.mul_le_mul_right _ hk
  rw [Nat.add_mul, Nat.one_mul] at h1
  refine ha.cell (j := k * sz) ?_
  have h2 := gs_at h hk h0
  rw [Nat.add_zero] at h2
  rw [List.getElem?_append_left (by rw [gs_len h]; omega), h2, hv]
  rfl
theorem At.gs0 {w : World} {b off k : Nat} {v : Value} {rest : List Value} (ha : At w b off (gs c n)) (h : ∀ k, (c k).length = sz) (hk : k < n) (hv : c k = v :: rest) : w.cell? ⟨b, off + k * sz, none⟩ = some v :=
  At.gs1 (X := []) (by rw [List.append_nil]; exact ha) h hk hv
theorem At.gs2 {w : World} {b off k : Nat} {v : Value} {rest : List Value} (ha : At w b off (gs c n ++ gs d m)) (h : ∀ k, (c k).length = sz) (h' : ∀ k, (d k).length = sz) (hk : k < m) (hv : d k = v :: rest) : w.cell? ⟨b, off + (n + k) * sz, none⟩ = some v := by
  have h0 : 0 < sz := by rw [← h' k, hv]; simp
  refine ha.cell (j := (n + k) * sz) ?_
  have h2 := gs_at h' hk h0
  rw [Nat.add_zero] at h2
  rw [List.getElem?_append_right (by rw [gs_len h, Nat.add_mul]; omega), gs_len h, show (n + k) * sz - n * sz = k * sz by rw [Nat.add_mul]; omega, h2, hv]
  rfl
end
def u8Z (z : Int) : UInt8 := UInt8.ofNat (z % 256).toNat
section
variable {P : Program} {f : Slots} {w : World} {d : Option Tmp} {ty : TypeId} {pos : String} {af : Array Edge} {x y : Operand} {T T' : TypeId} {k : IntKind}
theorem run_convM {z : Int} {ds : TypeDesc} (hs : P.underlying T = some ds) (ht : P.underlying T' = some (.int .u8)) (hx : ev f x = .int k z) :
    (execOp (ev f) ⟨d, .convert T T' x, ty, pos, af, none⟩).run P w = .ok (.value (.int .u8 (u8Z z).toNat)) w := by
  rw [run_convInt hs ht hx]
  congr 3
  have h1 : 0 ≤ z % 256 := Int.emod_nonneg _ (by decide)
  have h2 : z % 256 < 256 := Int.emod_lt_of_pos _ (by decide)
  have h3 : (u8Z z).toNat = (z % 256).toNat := by
    unfold u8Z
    rw [UInt8.toNat_ofNat']
    exact Nat.mod_eq_of_lt (by omega)
  rw [h3]
  have h4 : IntKind.u8.wrap z = z % 256 := by simp [IntKind.wrap, IntKind.signed, IntKind.bits]
  rw [h4]
  omega
end
def moreL : List UInt8 := [109, 111, 114, 101]
def gB1 (i k : Nat) : List Value := [.int .u8 (UInt8.ofNat (i * 37 + k)).toNat]
def gB2 (i k : Nat) : List Value := [.int .u8 (u8Z (255 - (i : Int) * 37 - (k : Int))).toNat]
def gN1 (i k : Nat) : List Value := [str (markL (1000 * i + k))]
def gN2 (i k : Nat) : List Value := [str (moreL ++ markL (1000 * i + k))]
def gI1 (i k : Nat) : List Value := [str (markL (1000 * i + k)), .bool false, .slice none 0 0]
def gI2 (i k : Nat) : List Value := [str (moreL ++ markL (1000 * i + k)), .bool false, .slice none 0 0]
theorem gB1_len (i k : Nat) : (gB1 i k).length = 1 := rfl
theorem gB2_len (i k : Nat) : (gB2 i k).length = 1 := rfl
theorem gN1_len (i k : Nat) : (gN1 i k).length = 1 := rfl
theorem gN2_len (i k : Nat) : (gN2 i k).length = 1 := rfl
theorem gI1_len (i k : Nat) : (gI1 i k).length = 3 := rfl
theorem gI2_len (i k : Nat) : (gI2 i k).length = 3 := rfl
theorem bld_gI (s : List UInt8) (w : World) : (Instr.build 50 #[(0, str s)]).run Tryd.prog w = .ok (.agg #[str s, .bool false, .slice none 0 0]) w := by kernel_rfl
end Go.Gx
