/- path.Less, all draws counted. -/
import Derived.Test.YtepaojbhjgefiaaGreatDoorPCmp
import Derived.Test.YtepaojbhjgefiaaGreatDoorYBase
import Derived.Test.YtepaojbhjgefiaaGreatDoorC2
import Derived.Test.YtepaojbhjgefiaaGreatDoorC3
set_option linter.unusedVariables false
set_option linter.unusedSimpArgs false
namespace Go.Gx.Gy
open Go.Proofs Go.RowKit
set_option maxRecDepth 100000
/-- The library's one int variable that a road reads holds an int. -/
def Gl (w : World) : Prop := ∃ m : Int, w.cell? ⟨0, 0, none⟩ = some (.int .i64 m)
theorem Gl.step {L : List (Nat × Obj)} {w w' : World} (h : Gl w) (hs : Step [] L w w') : Gl w' := by
 obtain ⟨m, hm⟩ := h
 refine ⟨m, ?_⟩
 have hlt : 0 < w.heap.size := by
  unfold World.cell? at hm
  split at hm
  ·rename_i hb; exact lt_of_get hb
  ·cases hm
 rw [cell_of_heap (hs.chg.block 0 hlt (by simp))]
 exact hm
theorem split_spec {s : List UInt8} (w0 : World) (hg : Gl w0) (hs1 : s.length < 4294967281) : Calls Tryz.prog 87 #[str s, str [47]] w0 fun e w' => ∃ u Lu, e = .returned u ∧ OwnSl 9 1 u (splitL s).length (strs (splitL s)) Lu ∧ Step [] Lu w0 w' := by
 obtain ⟨m, hm⟩ := hg
 have h := Tryz.strings_Split ⟨⟨s⟩⟩ slashB m w0 hs1 hm (Nat.le_refl 1)
 have hobt := split_eq s.length s (Nat.le_refl _)
 obtain ⟨e1, e2⟩ := hobt
 rw [e1, e2] at h
 refine h.mono fun e w' ⟨h1, h2⟩ => ?_
 have hst := (Step.refl w0).alloc (blk 9 (strs (splitL s)))
 have he : (List.map (fun l => ByteArray.mk ⟨l⟩) (splitL s)).map Value.string = strs (splitL s) := by simp [strs, str]
 rw [he] at h2
 subst h2
 exact ⟨_, _, h1, OwnSl.mk (by rw [strs_len, Nat.mul_one]), hst⟩
theorem parts_spec {s : List UInt8} (w0 : World) (hg : Gl w0) (hs1 : s.length < 4294967281) : Calls Tryz.prog 56 #[str s] w0 fun e w' => ∃ u Lu, e = .returned u ∧ OwnSl 9 1 u (partsL s).length (strs (partsL s)) Lu ∧ Step [] Lu w0 w' := by
 have hs : Step [] [] w0 w0 := Step.refl w0
 by_cases h0 : s = []
 ·have e : partsL s = [] := if_pos h0
  rw [e]
  refine calls (n := 7) Tryz.func56 rfl rfl rfl ?_
  refine CW.seq <| CW.reg <| WL.val rfl (run_assign) <| WL.nil <| CW.seq <| CW.seq <| CW.reg <| WL.val rfl (run_move) <| WL.val rfl (run_bT (run_strEq rfl rfl) (by exact h0)) <| WL.nil ?_
  repeat (first | refine CW.seq ?_ | refine CW.condT rfl ?_)
  refine CW.reg <| WL.val rfl (run_assign) <| WL.nil ?_
  refine CW.ret ?_
  refine fin_ret1 rfl ?_
  exact ⟨_, _, rfl, .nil _ _, hs⟩
 ·have e : partsL s = splitL s := if_neg h0
  rw [e]
  refine calls (n := 7) Tryz.func56 rfl rfl rfl ?_
  refine CW.seq <| CW.reg <| WL.val rfl (run_assign) <| WL.nil <| CW.seq <| CW.seq <| CW.reg <| WL.val rfl (run_move) <| WL.val rfl (run_bF (run_strEq rfl rfl) (by exact h0)) <| WL.nil ?_
  repeat (first | refine CW.seq ?_ | refine CW.skip ?_ | refine CW.condF rfl ?_)
  refine CW.reg <| WL.val rfl (run_move) ?_
  refine WL.enter rfl (run_call en87 rfl rfl) (split_spec _ hg hs1) ?_
  rintro e w ⟨u, Lu, rfl, hu, hq⟩
  refine ⟨_, rfl, ?_⟩
  refine WL.val rfl (run_assign) <| WL.nil ?_
  refine CW.ret ?_
  refine fin_ret1 rfl ?_
  exact ⟨u, Lu, rfl, hu, hq⟩
theorem isNaN_spec {a : List UInt8} (w : World) : Calls Tryz.prog 88 #[str a] w (Ret0 (.bool false) w) := by
 have hs : Step [] [] w w := Step.refl w
 refine calls (n := 6) Tryz.func88 rfl rfl rfl ?_
 refine CW.seq <| CW.reg <| WL.val rfl (run_assign) <| WL.nil <| CW.seq <| CW.reg <| WL.val rfl (run_move) <| WL.val rfl (run_move) <| WL.val rfl (run_bF (run_strNe rfl rfl) (by (exact fun h => h rfl))) <| WL.val rfl (run_assign) <| WL.nil ?_
 refine CW.ret ?_
 refine fin_ret1 rfl ?_
 exact ⟨rfl, hs⟩
theorem cmpS_spec {a b : List UInt8} (w : World) : Calls Tryz.prog 57 #[str a, str b] w (Ret0 (.int .i64 (cmpL a b)) w) := by
 have hs : Step [] [] w w := Step.refl w
 refine calls (n := 20) Tryz.func57 rfl rfl rfl ?_
 refine CW.seq <| CW.reg <| WL.val rfl (run_assign) <| WL.nil <| CW.seq <| CW.reg <| WL.val rfl (run_move) ?_
 refine WL.enter rfl (run_call en88 rfl rfl) (isNaN_spec _) ?_
 rintro e w ⟨rfl, hq⟩
 refine ⟨_, rfl, ?_⟩
 replace hs := hs.callE hq
 refine WL.val rfl (run_assign) <| WL.nil <| CW.seq <| CW.reg <| WL.val rfl (run_move) ?_
 refine WL.enter rfl (run_call en88 rfl rfl) (isNaN_spec _) ?_
 rintro e w ⟨rfl, hq⟩
 refine ⟨_, rfl, ?_⟩
 replace hs := hs.callE hq
 refine WL.val rfl (run_assign) <| WL.nil <| CW.seq <| CW.seq <| CW.reg <| WL.val rfl (run_move) <| WL.nil ?_
 repeat (first | refine CW.seq ?_ | refine CW.skip ?_ | refine CW.condF rfl ?_)
 refine CW.reg <| WL.val rfl (run_move) <| WL.nil ?_
 by_cases h1 : Op.bytesLess a b = true
 ·repeat (first | refine CW.seq ?_ | refine CW.skip ?_ | refine CW.condF rfl ?_)
  refine CW.reg <| WL.val rfl (run_move) <| WL.val rfl (run_move) <| WL.val rfl (run_bE (run_strLt rfl rfl) (h1)) <| WL.nil ?_
  repeat (first | refine CW.seq ?_ | refine CW.condT rfl ?_)
  refine CW.reg <| WL.val rfl (run_assign) <| WL.nil ?_
  refine CW.ret ?_
  refine fin_ret1 rfl ?_
  exact ⟨by rw [cmpL, if_pos h1]; rfl, hs⟩
 ·have h1' : Op.bytesLess a b = false := by simpa using h1
  by_cases h2 : a = b
  ·repeat (first | refine CW.seq ?_ | refine CW.skip ?_ | refine CW.condF rfl ?_)
   refine CW.reg <| WL.val rfl (run_move) <| WL.val rfl (run_move) <| WL.val rfl (run_bE (run_strLt rfl rfl) (h1')) <| WL.nil ?_
   repeat (first | refine CW.seq ?_ | refine CW.skip ?_ | refine CW.condF rfl ?_)
   refine CW.reg <| WL.val rfl (run_move) <| WL.val rfl (run_move) <| WL.val rfl (run_bE (run_strGt rfl rfl) ((show _ = false by simp [h2]))) <| WL.nil ?_
   repeat (first | refine CW.seq ?_ | refine CW.skip ?_ | refine CW.condF rfl ?_)
   refine CW.reg <| WL.val rfl (run_assign) <| WL.nil ?_
   refine CW.ret ?_
   refine fin_ret1 rfl ?_
   exact ⟨by rw [cmpL, if_neg h1, if_pos h2]; rfl, hs⟩
  ·repeat (first | refine CW.seq ?_ | refine CW.skip ?_ | refine CW.condF rfl ?_)
   refine CW.reg <| WL.val rfl (run_move) <| WL.val rfl (run_move) <| WL.val rfl (run_bE (run_strLt rfl rfl) (h1')) <| WL.nil ?_
   repeat (first | refine CW.seq ?_ | refine CW.skip ?_ | refine CW.condF rfl ?_)
   refine CW.reg <| WL.val rfl (run_move) <| WL.val rfl (run_move) <| WL.val rfl (run_bE (run_strGt rfl rfl) ((show _ = true by simp [h1', h2]))) <| WL.nil ?_
   repeat (first | refine CW.seq ?_ | refine CW.condT rfl ?_)
   refine CW.reg <| WL.val rfl (run_assign) <| WL.nil ?_
   refine CW.ret ?_
   refine fin_ret1 rfl ?_
   exact ⟨by rw [cmpL, if_neg h1, if_neg h2]; rfl, hs⟩
theorem cellsOf {u : Value} {ps : List (List UInt8)} {Lp : List (Nat × Obj)} {S : List Nat} {w0 w : World} (hu : OwnSl 9 1 u ps.length (strs ps) Lp) (hs : Step S Lp w0 w) : ∃ a c, u = .slice a ps.length c ∧ ps.length ≤ c ∧ (ps = [] ∨ ∃ bp, a = some ⟨bp, 0, none⟩ ∧ ∀ i p, ps[i]? = some p → w.cell? ⟨bp, 0 + i * 1, none⟩ = some (str p)) := by
 have hobt := hu.form
 obtain ⟨a, c, rfl⟩ := hobt
 by_cases h0 : ps = []
 ·exact ⟨a, c, rfl, by rw [h0]; simp, .inl h0⟩
 ·have hobt := hu.some1 (List.length_pos_iff.2 h0)
  obtain ⟨bp, cp, more, hq1, hqL, hcp⟩ := hobt
  cases hq1
  subst hqL
  refine ⟨_, _, rfl, ?_, .inr ⟨bp, rfl, fun i p hpi => ?_⟩⟩
  ·rw [List.length_append, strs_len] at hcp
   omega
  ·have hlt := (List.getElem?_eq_some_iff.1 hpi).1
   rw [cell_blk hs.hd, Nat.zero_add, Nat.mul_one, List.getElem?_append_left (by rw [strs_len]; exact hlt)]
   simp [strs, hpi]
set_option maxHeartbeats 2000000 in
theorem compareF_spec {a a2 : Option Addr} {c c2 : Nat} {x y : List (List UInt8)} (w0 : World) (hxl : x.length ≤ c) (hyl : y.length ≤ c2) (hbx : x.length ≤ 9223372036854775800) (hby : y.length ≤ 9223372036854775800)
  (hx : x = [] ∨ ∃ bp, a = some ⟨bp, 0, none⟩ ∧ ∀ i p, x[i]? = some p → w0.cell? ⟨bp, 0 + i * 1, none⟩ = some (str p))
  (hy : y = [] ∨ ∃ bp, a2 = some ⟨bp, 0, none⟩ ∧ ∀ i p, y[i]? = some p → w0.cell? ⟨bp, 0 + i * 1, none⟩ = some (str p)) :
  Calls Tryz.prog 55 #[.slice a x.length c, .slice a2 y.length c2, .func (.func 57) #[] #[]] w0 (Ret0 (.int .i64 (cmpF x y)) w0) := by
 have hs : Step [] [] w0 w0 := Step.refl w0
 refine calls (n := 39) Tryz.func55 rfl rfl rfl ?_
 refine CW.seq <| CW.reg <| WL.val rfl (run_assign) <| WL.nil <| CW.seq <| CW.seq <| CW.reg <| WL.val rfl (run_move) <| WL.val rfl (run_lenSl Tryz.underlying88 rfl) <| WL.val rfl (run_move) <| WL.nil <| CW.block ?_
 refine CW.loop (fun m f w' => ∃ i, i ≤ x.length ∧ m = x.length - i ∧ (i ≤ y.length) ∧ cmpF x y = cmpF (x.drop i) (y.drop i) ∧ Step [] [] w0 w' ∧ Holds f [(0, .slice a x.length c), (1, .slice a2 y.length c2), (2, .func (.func 57) #[] #[]), (11, .slice a x.length c), (12, .int .i64 x.length), (13, .int .i64 i)]) (m := x.length) ?_ ?_
 ·exact ⟨0, by omega, by omega, by omega, rfl, hs, rfl, rfl, rfl, rfl, rfl, rfl, trivial⟩
 ·clear hs
  rintro m f w ⟨i, hi, rfl, hiy, hgo, hs, hf⟩
  have hobt := hf.chain
  obtain ⟨g, rfl⟩ := hobt
  by_cases hlt : i < x.length
  ·rcases hx with h | ⟨bx, rfl, hcx⟩
   ·rw [h] at hlt; cases hlt
   have hobt : ∃ p, x[i] = p := ⟨_, rfl⟩
   obtain ⟨p, hp⟩ := hobt
   have hpi : x[i]? = some p := by rw [List.getElem?_eq_getElem hlt, hp]
   have hlx : bx < w0.heap.size := Nat.lt_of_not_le fun hge => by
    have := hcx i p hpi
    simp [World.cell?, Array.getElem?_eq_none hge] at this
   have hcell1 : w.cell? ⟨bx, 0 + i * 1, none⟩ = some (str p) := by
    rw [cell_of_heap (hs.chg.block bx hlx (by simp))]
    exact hcx i p hpi
   rw [List.drop_eq_getElem_cons hlt, hp] at hgo
   by_cases hly : i < y.length
   ·rcases hy with h | ⟨by', rfl, hcy⟩
    ·rw [h] at hly; cases hly
    have hobt : ∃ q, y[i] = q := ⟨_, rfl⟩
    obtain ⟨q, hq⟩ := hobt
    have hqi : y[i]? = some q := by rw [List.getElem?_eq_getElem hly, hq]
    have hly2 : by' < w0.heap.size := Nat.lt_of_not_le fun hge => by
     have := hcy i q hqi
     simp [World.cell?, Array.getElem?_eq_none hge] at this
    have hcell2 : w.cell? ⟨by', 0 + i * 1, none⟩ = some (str q) := by
     rw [cell_of_heap (hs.chg.block by' hly2 (by simp))]
     exact hcy i q hqi
    rw [List.drop_eq_getElem_cons hly, hq, cmpF] at hgo
    refine CW.seq <| CW.reg <| WL.val rfl (run_bT (run_lss rfl rfl) (by omega)) <| WL.nil ?_
    repeat (first | refine CW.seq ?_ | refine CW.block ?_ | refine CW.skip ?_ | refine CW.condT rfl ?_)
    refine CW.reg <| WL.val rfl (run_move) <| WL.val rfl (run_ixSlN Tryz.underlying88 ty9 rfl rfl (by omega)) <| WL.val rfl (run_load1 ty9 rfl (hcell1)) <| WL.val rfl (run_assign) <| WL.val rfl (run_assign) <| WL.nil <| CW.seq <| CW.seq <| CW.reg <| WL.val rfl (run_move) <| WL.val rfl (run_move) <| WL.val rfl (run_lenSl Tryz.underlying88 rfl) <| WL.val rfl (run_bF (run_geq rfl rfl) (by omega)) <| WL.nil ?_
    repeat (first | refine CW.seq ?_ | refine CW.skip ?_ | refine CW.condF rfl ?_)
    refine CW.reg <| WL.val rfl (run_move) <| WL.val rfl (run_move) <| WL.val rfl (run_ixSlN Tryz.underlying88 ty9 rfl rfl (by omega)) <| WL.val rfl (run_load1 ty9 rfl (hcell2)) <| WL.val rfl (run_assign) <| WL.nil <| CW.seq <| CW.reg <| WL.val rfl (run_move) <| WL.val rfl (run_move) <| WL.val rfl (run_move) ?_
    refine WL.enter rfl (run_callV (cap := []) en57 rfl rfl) (cmpS_spec _) ?_
    rintro e w ⟨rfl, hq⟩
    refine ⟨_, rfl, ?_⟩
    replace hs := hs.callE hq
    refine WL.val rfl (run_assign) <| WL.nil ?_
    by_cases hc : cmpL p q ≠ 0
    ·rw [if_pos hc] at hgo
     refine CW.seq <| CW.reg <| WL.val rfl (run_move) <| WL.val rfl (run_bT (run_neq rfl rfl) (by exact hc)) <| WL.nil ?_
     repeat (first | refine CW.seq ?_ | refine CW.condT rfl ?_)
     refine CW.reg <| WL.val rfl (run_move) <| WL.val rfl (run_assign) <| WL.nil ?_
     refine CW.ret ?_
     refine fin_ret1 rfl ?_
     exact ⟨by rw [hgo]; rfl, hs⟩
    ·rw [if_neg hc] at hgo
     refine CW.seq <| CW.reg <| WL.val rfl (run_move) <| WL.val rfl (run_bF (run_neq rfl rfl) (by exact hc)) <| WL.nil ?_
     repeat (first | refine CW.skip ?_ | refine CW.condF rfl ?_)
     refine CW.reg <| WL.val rfl (run_add (c := ((i + 1 : Nat) : Int)) rfl rfl (by omega) (by omega)) <| WL.val rfl (run_move) <| WL.nil ?_
     refine (show _ ∧ _ from ⟨rfl, _, ?_, i + 1, by omega, rfl, by omega, hgo, hs, rfl, rfl, rfl, rfl, rfl, rfl, trivial⟩)
     omega
   ·rw [List.drop_eq_nil_of_le (by omega : y.length ≤ i), cmpF] at hgo
    refine CW.seq <| CW.reg <| WL.val rfl (run_bT (run_lss rfl rfl) (by omega)) <| WL.nil ?_
    repeat (first | refine CW.seq ?_ | refine CW.block ?_ | refine CW.skip ?_ | refine CW.condT rfl ?_)
    refine CW.reg <| WL.val rfl (run_move) <| WL.val rfl (run_ixSlN Tryz.underlying88 ty9 rfl rfl (by omega)) <| WL.val rfl (run_load1 ty9 rfl (hcell1)) <| WL.val rfl (run_assign) <| WL.val rfl (run_assign) <| WL.nil <| CW.seq <| CW.seq <| CW.reg <| WL.val rfl (run_move) <| WL.val rfl (run_move) <| WL.val rfl (run_lenSl Tryz.underlying88 rfl) <| WL.val rfl (run_bT (run_geq rfl rfl) (by omega)) <| WL.nil ?_
    repeat (first | refine CW.seq ?_ | refine CW.condT rfl ?_)
    refine CW.reg <| WL.val rfl (run_assign) <| WL.nil ?_
    refine CW.ret ?_
    refine fin_ret1 rfl ?_
    exact ⟨by rw [hgo]; rfl, hs⟩
  ·have hii : i = x.length := by omega
   rw [List.drop_eq_nil_of_le (by omega : x.length ≤ i)] at hgo
   by_cases hly : i < y.length
   ·rw [List.drop_eq_getElem_cons hly, cmpF] at hgo
    refine CW.seq <| CW.reg <| WL.val rfl (run_bF (run_lss rfl rfl) (by omega)) <| WL.nil ?_
    repeat (first | refine CW.seq ?_ | refine CW.exit ?_ | refine CW.condF rfl ?_)
    refine CW.reg <| WL.val rfl (run_move) <| WL.val rfl (run_lenSl Tryz.underlying88 rfl) <| WL.val rfl (run_move) <| WL.val rfl (run_lenSl Tryz.underlying88 rfl) <| WL.val rfl (run_bT (run_lss rfl rfl) (by omega)) <| WL.nil ?_
    repeat (first | refine CW.seq ?_ | refine CW.condT rfl ?_)
    refine CW.reg <| WL.val rfl (run_assign) <| WL.nil ?_
    refine CW.ret ?_
    refine fin_ret1 rfl ?_
    exact ⟨by rw [hgo]; rfl, hs⟩
   ·rw [List.drop_eq_nil_of_le (by omega : y.length ≤ i), cmpF] at hgo
    refine CW.seq <| CW.reg <| WL.val rfl (run_bF (run_lss rfl rfl) (by omega)) <| WL.nil ?_
    repeat (first | refine CW.seq ?_ | refine CW.exit ?_ | refine CW.condF rfl ?_)
    refine CW.reg <| WL.val rfl (run_move) <| WL.val rfl (run_lenSl Tryz.underlying88 rfl) <| WL.val rfl (run_move) <| WL.val rfl (run_lenSl Tryz.underlying88 rfl) <| WL.val rfl (run_bF (run_lss rfl rfl) (by omega)) <| WL.nil ?_
    repeat (first | refine CW.seq ?_ | refine CW.skip ?_ | refine CW.condF rfl ?_)
    refine CW.reg <| WL.val rfl (run_assign) <| WL.nil ?_
    refine CW.ret ?_
    refine fin_ret1 rfl ?_
    exact ⟨by rw [hgo]; rfl, hs⟩
theorem splitL_len : ∀ s, (splitL s).length ≤ s.length + 1
 | [] => by simp [splitL]
 | c :: s => by
  have ih := splitL_len s
  rw [splitL]
  split
  ·simp; omega
  ·split
   ·simp
   ·rename_i p ps h
    rw [h] at ih
    simp at ih ⊢
    omega
theorem partsL_len (s : List UInt8) : (partsL s).length ≤ s.length + 1 := by
 unfold partsL
 split
 ·simp
 ·exact splitL_len s
theorem Sl0.keep {ps : List (List UInt8)} {a : Option Addr} {L : List (Nat × Obj)} {w w' : World} (h : ps = [] ∨ ∃ bp, a = some ⟨bp, 0, none⟩ ∧ ∀ i p, ps[i]? = some p → w.cell? ⟨bp, 0 + i * 1, none⟩ = some (str p)) (hs : Step [] L w w') : ps = [] ∨ ∃ bp, a = some ⟨bp, 0, none⟩ ∧ ∀ i p, ps[i]? = some p → w'.cell? ⟨bp, 0 + i * 1, none⟩ = some (str p) := by
 rcases h with h | ⟨bp, h1, h2⟩
 ·exact .inl h
 ·refine .inr ⟨bp, h1, fun i p hpi => ?_⟩
  have h3 := h2 i p hpi
  have hlx : bp < w.heap.size := Nat.lt_of_not_le fun hge => by
   simp [World.cell?, Array.getElem?_eq_none hge] at h3
  rw [cell_of_heap (hs.chg.block bp hlx (by simp))]
  exact h3
theorem less_spec {s t : List UInt8} (w0 : World) (hg : Gl w0) (hs1 : s.length < 4294967281) (ht1 : t.length < 4294967281) : Calls Tryz.prog 23 #[str s, str t] w0 (Ret0 (.bool (decide (cmpF (partsL s) (partsL t) < 0))) w0) := by
 have hs : Step [] [] w0 w0 := Step.refl w0
 have hpl := partsL_len s
 have hpt := partsL_len t
 refine calls (n := 11) Tryz.func23 rfl rfl rfl ?_
 refine CW.seq <| CW.reg <| WL.val rfl (run_assign) <| WL.nil <| CW.seq <| CW.reg <| WL.val rfl (run_move) ?_
 refine WL.enter rfl (run_call en56 rfl rfl) (parts_spec _ hg hs1) ?_
 rintro e w ⟨u, Lu, rfl, hu, hq⟩
 refine ⟨_, rfl, ?_⟩
 have hs := hq
 refine WL.val rfl (run_move) ?_
 refine WL.enter rfl (run_call en56 rfl rfl) (parts_spec _ (hg.step hs) ht1) ?_
 rintro e w ⟨u2, Lv, rfl, hv, hq2⟩
 refine ⟨_, rfl, ?_⟩
 have hxx := cellsOf hu hs
 obtain ⟨a, c, hq3, hcl, hcx⟩ := hxx
 subst hq3
 have hyy := cellsOf hv hq2
 obtain ⟨a2, c2, hq4, hcl2, hcy⟩ := hyy
 subst hq4
 have hcx2 := Sl0.keep hcx hq2
 replace hs := hs.dropR (L1 := [])
 replace hs := hs.call0 (hq2.dropR (L1 := []))
 refine WL.enter rfl (run_call en55 rfl rfl) (compareF_spec _ hcl hcl2 (by omega) (by omega) hcx2 hcy) ?_
 rintro e w ⟨rfl, hq⟩
 refine ⟨_, rfl, ?_⟩
 replace hs := hs.callE hq
 refine WL.val rfl (run_lss rfl rfl) <| WL.val rfl (run_assign) <| WL.nil ?_
 refine CW.ret ?_
 refine fin_ret1 rfl ?_
 exact ⟨rfl, hs⟩
end Go.Gx.Gy
