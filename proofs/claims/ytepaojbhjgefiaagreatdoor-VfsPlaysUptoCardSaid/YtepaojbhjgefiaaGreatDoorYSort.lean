/- The callback of Items, all draws counted. -/
import Derived.Test.YtepaojbhjgefiaaGreatDoorYLess
import Derived.Test.YtepaojbhjgefiaaGreatDoorVt8
set_option linter.unusedVariables false
set_option linter.unusedSimpArgs false
namespace Go.Gx.Gy
open Go.Proofs
set_option maxRecDepth 100000
theorem cmpI_spec (x y : RowI) (w0 : World) (hg : Gl w0) : Calls Tryz.prog 22 #[.agg x.enc.toArray, .agg y.enc.toArray] w0 (Ret0 (.int .i64 (RowI.cf x y)) w0) := by
 have hs : Step [] [] w0 w0 := Step.refl w0
 have hxl := x.hp
 have hyl := y.hp
 have hless := fun {w} hg => less_spec (s := x.p) (t := y.p) w hg (by omega) (by omega)
 unfold RowI.cf lessP
 cases hb : decide (cmpF (partsL x.p) (partsL y.p) < 0)
 ·simp only [hb] at hless
  refine calls (n := 10) Tryz.func22 rfl rfl rfl ?_
  repeat (first | refine CW.seq ?_ | refine CW.block ?_ | refine CW.skip ?_ | refine CW.label ?_ | refine CW.exit ?_ | refine CW.condT rfl ?_ | refine CW.condF rfl ?_)
  refine CW.reg ?_
  refine WL.box (cs := x.enc) rfl rfl rfl hs (fun b2 w hs => ?_)
  refine WL.box (cs := y.enc) rfl rfl rfl hs (fun b3 w hs => ?_)
  refine WL.val rfl (run_assign) <| WL.nil ?_
  repeat (first | refine CW.seq ?_ | refine CW.block ?_ | refine CW.skip ?_ | refine CW.label ?_ | refine CW.exit ?_ | refine CW.condT rfl ?_ | refine CW.condF rfl ?_)
  refine CW.reg <| WL.val rfl (run_field (o' := 0) Tryz.underlying56 rfl ty9 rfl rfl rfl) <| WL.val rfl (run_load1 ty9 rfl (hs.c1 (v := str x.p) rfl)) <| WL.val rfl (run_field (o' := 0) Tryz.underlying56 rfl ty9 rfl rfl rfl) <| WL.val rfl (run_load1 ty9 rfl (hs.c0 (v := str y.p) rfl)) ?_
  refine WL.enter rfl (run_call en23 rfl rfl) (hless (hg.step hs)) ?_
  rintro e w ⟨rfl, hq⟩
  refine ⟨_, rfl, ?_⟩
  replace hs := hs.callE hq
  refine WL.nil ?_
  repeat (first | refine CW.seq ?_ | refine CW.block ?_ | refine CW.skip ?_ | refine CW.label ?_ | refine CW.exit ?_)
  first | refine CW.condP rfl (fun h => ?_) (fun h => ?_) | refine CW.cond rfl (fun h => ?_) (fun h => ?_)
  ·cases h
  repeat (first | refine CW.seq ?_ | refine CW.block ?_ | refine CW.skip ?_ | refine CW.label ?_ | refine CW.exit ?_ | refine CW.condT rfl ?_ | refine CW.condF rfl ?_)
  refine CW.reg <| WL.val rfl (run_assign) <| WL.nil ?_
  repeat (first | refine CW.seq ?_ | refine CW.block ?_ | refine CW.skip ?_ | refine CW.label ?_ | refine CW.exit ?_ | refine CW.condT rfl ?_ | refine CW.condF rfl ?_)
  refine CW.ret ?_
  refine fin_ret1 rfl ?_
  exact ⟨rfl, hs.clear⟩
 ·simp only [hb] at hless
  refine calls (n := 10) Tryz.func22 rfl rfl rfl ?_
  repeat (first | refine CW.seq ?_ | refine CW.block ?_ | refine CW.skip ?_ | refine CW.label ?_ | refine CW.exit ?_ | refine CW.condT rfl ?_ | refine CW.condF rfl ?_)
  refine CW.reg ?_
  refine WL.box (cs := x.enc) rfl rfl rfl hs (fun b2 w hs => ?_)
  refine WL.box (cs := y.enc) rfl rfl rfl hs (fun b3 w hs => ?_)
  refine WL.val rfl (run_assign) <| WL.nil ?_
  repeat (first | refine CW.seq ?_ | refine CW.block ?_ | refine CW.skip ?_ | refine CW.label ?_ | refine CW.exit ?_ | refine CW.condT rfl ?_ | refine CW.condF rfl ?_)
  refine CW.reg <| WL.val rfl (run_field (o' := 0) Tryz.underlying56 rfl ty9 rfl rfl rfl) <| WL.val rfl (run_load1 ty9 rfl (hs.c1 (v := str x.p) rfl)) <| WL.val rfl (run_field (o' := 0) Tryz.underlying56 rfl ty9 rfl rfl rfl) <| WL.val rfl (run_load1 ty9 rfl (hs.c0 (v := str y.p) rfl)) ?_
  refine WL.enter rfl (run_call en23 rfl rfl) (hless (hg.step hs)) ?_
  rintro e w ⟨rfl, hq⟩
  refine ⟨_, rfl, ?_⟩
  replace hs := hs.callE hq
  refine WL.nil ?_
  repeat (first | refine CW.seq ?_ | refine CW.block ?_ | refine CW.skip ?_ | refine CW.label ?_ | refine CW.exit ?_)
  first | refine CW.condP rfl (fun h => ?_) (fun h => ?_) | refine CW.cond rfl (fun h => ?_) (fun h => ?_)
  ·repeat (first | refine CW.seq ?_ | refine CW.block ?_ | refine CW.skip ?_ | refine CW.label ?_ | refine CW.exit ?_ | refine CW.condT rfl ?_ | refine CW.condF rfl ?_)
   refine CW.reg <| WL.val rfl (run_assign) <| WL.nil ?_
   repeat (first | refine CW.seq ?_ | refine CW.block ?_ | refine CW.skip ?_ | refine CW.label ?_ | refine CW.exit ?_ | refine CW.condT rfl ?_ | refine CW.condF rfl ?_)
   refine CW.ret ?_
   refine fin_ret1 rfl ?_
   exact ⟨rfl, hs.clear⟩
  ·cases h
/-- Nothing turned: draws and new blocks. -/
theorem Step.grown {L : List (Nat × Obj)} {w w' : World} (h : Step [] L w w') : ∃ q os, w' = Go.Sort.grow (w.drewN q) os := by
 refine ⟨w'.drawn - w.drawn, w'.heap.extract w.heap.size w'.heap.size, ?_⟩
 have hc := h.chg
 have h1 : w'.heap = w.heap ++ w'.heap.extract w.heap.size w'.heap.size := by
  apply Array.ext_getElem?
  intro i
  rw [Array.getElem?_append]
  by_cases hi : i < w.heap.size
  ·rw [if_pos hi, hc.block i hi (by simp)]
  ·rw [if_neg hi, Array.getElem?_extract]
   have hle := hc.size
   by_cases h2 : i < w'.heap.size
   ·rw [if_pos (by omega), show w.heap.size + (i - w.heap.size) = i by omega]
   ·rw [if_neg (by omega), Array.getElem?_eq_none (by omega)]
 have h2 : w'.drawn = w.drawn + (w'.drawn - w.drawn) := by have : w.drawn ≤ w'.drawn := hc.drawn; omega
 obtain ⟨hh, t, dr, o, out⟩ := w'
 obtain ⟨hh2, t2, dr2, o2, out2⟩ := w
 obtain rfl := hc.os
 obtain rfl := hc.tape
 obtain rfl := hc.output
 simp only [Go.Sort.grow, World.drewN]
 simp only at h1 h2
 rw [World.mk.injEq]
 exact ⟨h1, rfl, h2, rfl, rfl⟩
theorem gl_sort {w : World} {m : Nat} {dk : Array RowI} {os : Array Obj} {blk off : Nat} (hg : Gl w) (hb : blk ≠ 0) : Gl (sortWorldK RowI.enc 3 w blk off m dk os) := by
 obtain ⟨z, hz⟩ := hg
 have hlt : 0 < w.heap.size := by
  unfold World.cell? at hz
  split at hz
  ·rename_i hb2; exact lt_of_get hb2
  ·cases hz
 refine ⟨z, ?_⟩
 have e : (sortWorldK RowI.enc 3 w blk off m dk os).heap[0]? = w.heap[0]? := by
  show ((w.heap.modify blk _) ++ os)[0]? = _
  rw [Array.getElem?_append_left (by simpa using hlt), Array.getElem?_modify, if_neg hb]
 rw [cell_of_heap e]
 exact hz
theorem cmpLaysI (blk off size : Nat) (w : World) (hg : Gl w) (hb : blk ≠ 0) : CmpLays Tryz.prog 22 #[] RowI.enc 3 RowI.cf blk off size w :=
 fun m os dk hs x y => (cmpI_spec x y _ (gl_sort hg hb)).mono fun e w' ⟨h1, h2⟩ => ⟨h1, h2.grown⟩
end Go.Gx.Gy
