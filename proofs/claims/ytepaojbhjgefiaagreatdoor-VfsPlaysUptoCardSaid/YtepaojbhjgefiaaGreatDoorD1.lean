/- The document's trees: parent and find. Files in memory: their items are a tree. No program in sight. The document's IsTree, walked on files' items. The document's IsTree of any items: in plain words; find of any path. The document's IsTree, walked on any items. -/
import Derived.Test.YtepaojbhjgefiaaGreatDoorC9
import Derived.Test.YtepaojbhjgefiaaGreatDoorC1
set_option linter.unusedVariables false
set_option linter.unusedSimpArgs false
/-! Vb1 -/
namespace Go.Gx
open Go.Proofs Go.Proofs.Tryz Go.RowKit
set_option maxRecDepth 100000
theorem cellsOf {u : Value} {ps : List (List UInt8)} {Lp : List (Nat × Obj)} {S : List Nat} {w0 w : World} (hu : OwnSl 9 1 u ps.length (strs ps) Lp) (hs : Step S Lp w0 w) : ∃ a c, u = .slice a ps.length c ∧ ps.length ≤ c ∧ (ps = [] ∨ ∃ bp, a = some ⟨bp, 0, none⟩ ∧ ∀ i p, ps[i]? = some p → w.cell? ⟨bp, 0 + i * 1, none⟩ = some (str p)) := by
 have hobt := hu.form
 obtain ⟨a, c, rfl⟩ := hobt
 by_cases h0 : ps = []
 ·exact ⟨a, c, rfl, by rw [h0]; simp, .inl h0⟩
 ·have hobt := hu.some1 (List.length_pos_iff.2 h0)
  obtain ⟨bp, cp, more, hq1, hqL, hcp⟩ := hobt
  cases hq1
  subst hqL
  refine ⟨_, _, rfl, ?_, .inr ⟨bp, rfl, fun i p hpi => ?_⟩⟩
  ·rw [List.length_append, strs_len] at hcp
   omega
  ·have hlt := (List.getElem?_eq_some_iff.1 hpi).1
   rw [cell_blk hs.hd, Nat.zero_add, Nat.mul_one, List.getElem?_append_left (by rw [strs_len]; exact hlt)]
   simp [strs, hpi]
theorem Sl0.keep {ps : List (List UInt8)} {a : Option Addr} {L : List (Nat × Obj)} {w w' : World} (h : ps = [] ∨ ∃ bp, a = some ⟨bp, 0, none⟩ ∧ ∀ i p, ps[i]? = some p → w.cell? ⟨bp, 0 + i * 1, none⟩ = some (str p)) (hs : Step [] L w w') : ps = [] ∨ ∃ bp, a = some ⟨bp, 0, none⟩ ∧ ∀ i p, ps[i]? = some p → w'.cell? ⟨bp, 0 + i * 1, none⟩ = some (str p) := by
 rcases h with h | ⟨bp, h1, h2⟩
 ·exact .inl h
 ·refine .inr ⟨bp, h1, fun i p hpi => ?_⟩
  have h3 := h2 i p hpi
  have hlx : bp < w.heap.size := Nat.lt_of_not_le fun hge => by
   simp [World.cell?, Array.getElem?_eq_none hge] at h3
  rw [cell_of_heap (hs.chg.block bp hlx (by simp))]
  exact h3
set_option maxHeartbeats 2000000 in
theorem refLess_spec {s t : List UInt8} (w0 : World) (hs1 : s.length < 4294967281) (ht1 : t.length < 4294967281) : Calls Tryz.prog 74 #[str s, str t] w0 (Ret0 (.bool (decide (cmpF (partsL s) (partsL t) < 0))) w0) := by
 have hs : Step [] [] w0 w0 := Step.refl w0
 have hpl := partsL_len s
 have hpt := partsL_len t
 refine calls (n := 47) Tryz.func74 rfl rfl rfl ?_
 refine cQ <| cR <| wa rfl <| wZ <| cQ <| cR <| wm rfl ?_
 refine wE rfl (run_call en89 rfl rfl) (refParts_spec _ hs1) ?_
 rintro e w ⟨u, Lu, rfl, hu, hq⟩
 refine ⟨_, rfl, ?_⟩
 have hs := hq
 refine wa rfl <| wZ <| cQ <| cR <| wm rfl ?_
 refine wE rfl (run_call en89 rfl rfl) (refParts_spec _ ht1) ?_
 rintro e w ⟨u2, Lv, rfl, hv, hq2⟩
 refine ⟨_, rfl, ?_⟩
 have hxx := cellsOf hu hs
 obtain ⟨a, c, hq3, hcl, hcx⟩ := hxx
 subst hq3
 have hyy := cellsOf hv hq2
 obtain ⟨a2, c2, hq4, hcl2, hcy⟩ := hyy
 subst hq4
 have hcx2 := Sl0.keep hcx hq2
 replace hs := hs.dropR (L1 := [])
 replace hs := hs.call0 (hq2.dropR (L1 := []))
 refine wa rfl <| wZ <| cQ <| cQ <| cR <| wa rfl <| wZ ?_
 have hobt : ∃ x, partsL s = x := ⟨_, rfl⟩
 obtain ⟨x, hx⟩ := hobt
 have hobt : ∃ y, partsL t = y := ⟨_, rfl⟩
 obtain ⟨y, hy⟩ := hobt
 rw [hx] at hpl hcl hcx2
 rw [hy] at hpt hcl2 hcy
 rw [hx, hy]
 have hs0 := hs
 refine CW.block ?_
 refine CW.loop (fun m f w' => ∃ i, i ≤ x.length ∧ m = x.length - i ∧ i ≤ y.length ∧ decide (cmpF x y < 0) = decide (cmpF (x.drop i) (y.drop i) < 0) ∧ Step [] [] w w' ∧ Holds f [(5, .slice a x.length c), (6, .slice a2 y.length c2), (7, .int .i64 i)]) (m := x.length) ?_ ?_
 ·exact ⟨0, by omega, by omega, by omega, rfl, Step.refl _, by rw [← hx]; rfl, by rw [← hy]; rfl, rfl, trivial⟩
 ·clear hs
  rintro m f w' ⟨i, hi, rfl, hiy, hgo, hs, hf⟩
  have hobt := hf.chain
  obtain ⟨g, rfl⟩ := hobt
  by_cases hlt : i < x.length
  ·rcases hcx2 with h | ⟨bx, rfl, hcx2⟩
   ·rw [h] at hlt; cases hlt
   have hobt : ∃ p, x[i] = p := ⟨_, rfl⟩
   obtain ⟨p, hp⟩ := hobt
   have hc1 : ∀ {w'' : World}, Step [] [] w w'' → w''.cell? ⟨bx, 0 + i * 1, none⟩ = some (str p) := fun hs => keepCell (hcx2 i p (by rw [List.getElem?_eq_getElem hlt, hp])) hs
   rw [List.drop_eq_getElem_cons hlt, hp] at hgo
   by_cases hly : i < y.length
   ·rcases hcy with h | ⟨by', rfl, hcy⟩
    ·rw [h] at hly; cases hly
    have hobt : ∃ q, y[i] = q := ⟨_, rfl⟩
    obtain ⟨q, hq⟩ := hobt
    have hc2 : ∀ {w'' : World}, Step [] [] w w'' → w''.cell? ⟨by', 0 + i * 1, none⟩ = some (str q) := fun hs => keepCell (hcy i q (by rw [List.getElem?_eq_getElem hly, hq])) hs
    rw [List.drop_eq_getElem_cons hly, hq] at hgo
    by_cases hpq : p = q
    ·rw [hpq, cmpF_eq] at hgo
     refine cQ <| cQ <| cR <| wm rfl <| wm rfl <| wV rfl (run_lenSl underlying88 rfl) <| wV rfl (run_bT (run_lss rfl rfl) (by omega)) <| wm rfl <| WL.yes rfl rfl rfl <| wm rfl <| WL.yes rfl rfl rfl <| wm rfl <| WL.yes rfl rfl rfl <| wV rfl (run_lenSl underlying88 rfl) <| WL.yes rfl rfl rfl <| wV rfl (run_bT (run_lss rfl rfl) (by omega)) <| wV rfl (run_pickT rfl) <| wZ ?_
     repeat (first | refine cQ ?_ | refine CW.block ?_ | refine cK ?_ | refine CW.condT rfl ?_)
     refine CW.quiet mixedP (by kernel_rfl) hs ?_
     refine qm rfl <| qm rfl <| qV rfl (fun w hs => run_ixSlN underlying88 ty9 rfl rfl (by omega)) <| qV rfl (fun w hs => run_load1 ty9 rfl (hc1 hs)) <| qm rfl <| qm rfl <| qV rfl (fun w hs => run_ixSlN underlying88 ty9 rfl rfl (by omega)) <| qV rfl (fun w hs => run_load1 ty9 rfl (hc2 hs)) <| qV rfl (fun w hs => run_bF (run_strNe rfl rfl) (by (exact fun h => h hpq))) ?_
     refine QL.nil (fun w hs => ?_)
     repeat (first | refine cK ?_ | refine CW.condF rfl ?_)
     refine cR <| wm rfl <| wV rfl (run_add (c := ((i + 1 : Nat) : Int)) rfl rfl (by omega) (by omega)) <| wa rfl <| wZ ?_
     refine (show _ ∧ _ from ⟨rfl, _, ?_, i + 1, by omega, rfl, by omega, hgo, hs, rfl, rfl, rfl, trivial⟩)
     omega
    ·rw [cmpF_ne _ _ hpq] at hgo
     refine cQ <| cQ <| cR <| wm rfl <| wm rfl <| wV rfl (run_lenSl underlying88 rfl) <| wV rfl (run_bT (run_lss rfl rfl) (by omega)) <| wm rfl <| WL.yes rfl rfl rfl <| wm rfl <| WL.yes rfl rfl rfl <| wm rfl <| WL.yes rfl rfl rfl <| wV rfl (run_lenSl underlying88 rfl) <| WL.yes rfl rfl rfl <| wV rfl (run_bT (run_lss rfl rfl) (by omega)) <| wV rfl (run_pickT rfl) <| wZ ?_
     repeat (first | refine cQ ?_ | refine CW.block ?_ | refine cK ?_ | refine CW.condT rfl ?_)
     refine CW.quiet mixedP (by kernel_rfl) hs ?_
     refine qm rfl <| qm rfl <| qV rfl (fun w hs => run_ixSlN underlying88 ty9 rfl rfl (by omega)) <| qV rfl (fun w hs => run_load1 ty9 rfl (hc1 hs)) <| qm rfl <| qm rfl <| qV rfl (fun w hs => run_ixSlN underlying88 ty9 rfl rfl (by omega)) <| qV rfl (fun w hs => run_load1 ty9 rfl (hc2 hs)) <| qV rfl (fun w hs => run_bT (run_strNe rfl rfl) (by exact hpq)) ?_
     refine QL.nil (fun w hs => ?_)
     repeat (first | refine cQ ?_ | refine CW.condT rfl ?_)
     refine CW.quiet mixedP (by kernel_rfl) hs ?_
     refine qm rfl <| qm rfl <| qV rfl (fun w hs => run_ixSlN underlying88 ty9 rfl rfl (by omega)) <| qV rfl (fun w hs => run_load1 ty9 rfl (hc1 hs)) <| qm rfl <| qm rfl <| qV rfl (fun w hs => run_ixSlN underlying88 ty9 rfl rfl (by omega)) <| qV rfl (fun w hs => run_load1 ty9 rfl (hc2 hs)) <| qV rfl (fun w hs => run_bE (run_strLt rfl rfl) (rfl)) <| qV rfl (fun w hs => run_assign) ?_
     refine QL.nil (fun w hs => ?_)
     refine CW.ret ?_
     refine fin_ret1 rfl ?_
     exact ⟨by rw [hgo]; rfl, hs0.callE hs⟩
   ·rw [List.drop_eq_nil_of_le (by omega : y.length ≤ i), cmpF] at hgo
    refine cQ <| cQ <| cR <| wm rfl <| wm rfl <| wV rfl (run_lenSl underlying88 rfl) <| wV rfl (run_bT (run_lss rfl rfl) (by omega)) <| wm rfl <| WL.yes rfl rfl rfl <| wm rfl <| WL.yes rfl rfl rfl <| wm rfl <| WL.yes rfl rfl rfl <| wV rfl (run_lenSl underlying88 rfl) <| WL.yes rfl rfl rfl <| wV rfl (run_bF (run_lss rfl rfl) (by omega)) <| wV rfl (run_pickT rfl) <| wZ ?_
    repeat (first | refine cQ ?_ | refine CW.exit ?_ | refine CW.condF rfl ?_)
    refine cR <| wm rfl <| wV rfl (run_lenSl underlying88 rfl) <| wm rfl <| wV rfl (run_lenSl underlying88 rfl) <| wV rfl (run_bF (run_lss rfl rfl) (by omega)) <| wa rfl <| wZ ?_
    refine CW.ret ?_
    refine fin_ret1 rfl ?_
    exact ⟨by rw [hgo]; rfl, hs0.callE hs⟩
  ·have hii : i = x.length := by omega
   rw [List.drop_eq_nil_of_le (by omega : x.length ≤ i)] at hgo
   by_cases hly : i < y.length
   ·rw [List.drop_eq_getElem_cons hly, cmpF] at hgo
    refine cQ <| cQ <| cR <| wm rfl <| wm rfl <| wV rfl (run_lenSl underlying88 rfl) <| wV rfl (run_bF (run_lss rfl rfl) (by omega)) <| wm rfl <| WL.no rfl rfl rfl (.inl rfl) <| WL.no rfl rfl rfl (.inl rfl) <| WL.no rfl rfl rfl (.inl rfl) <| WL.no rfl rfl rfl (.inl rfl) <| wV rfl (run_pickF rfl) <| wZ ?_
    repeat (first | refine cQ ?_ | refine CW.exit ?_ | refine CW.condF rfl ?_)
    refine cR <| wm rfl <| wV rfl (run_lenSl underlying88 rfl) <| wm rfl <| wV rfl (run_lenSl underlying88 rfl) <| wV rfl (run_bT (run_lss rfl rfl) (by omega)) <| wa rfl <| wZ ?_
    refine CW.ret ?_
    refine fin_ret1 rfl ?_
    exact ⟨by rw [hgo]; rfl, hs0.callE hs⟩
   ·rw [List.drop_eq_nil_of_le (by omega : y.length ≤ i), cmpF] at hgo
    refine cQ <| cQ <| cR <| wm rfl <| wm rfl <| wV rfl (run_lenSl underlying88 rfl) <| wV rfl (run_bF (run_lss rfl rfl) (by omega)) <| wm rfl <| WL.no rfl rfl rfl (.inl rfl) <| WL.no rfl rfl rfl (.inl rfl) <| WL.no rfl rfl rfl (.inl rfl) <| WL.no rfl rfl rfl (.inl rfl) <| wV rfl (run_pickF rfl) <| wZ ?_
    repeat (first | refine cQ ?_ | refine CW.exit ?_ | refine CW.condF rfl ?_)
    refine cR <| wm rfl <| wV rfl (run_lenSl underlying88 rfl) <| wm rfl <| wV rfl (run_lenSl underlying88 rfl) <| wV rfl (run_bF (run_lss rfl rfl) (by omega)) <| wa rfl <| wZ ?_
    refine CW.ret ?_
    refine fin_ret1 rfl ?_
    exact ⟨by rw [hgo]; rfl, hs0.callE hs⟩
theorem refLessP_spec {s t : List UInt8} (w0 : World) (hs1 : s.length < 4294967281) (ht1 : t.length < 4294967281) : Calls Tryz.prog 74 #[str s, str t] w0 (Ret0 (.bool (lessP s t)) w0) := refLess_spec w0 hs1 ht1
theorem OwnSl.front {E j : Nat} {ps : List (List UInt8)} {Lv : List (Nat × Obj)} {a : Option Addr} {c : Nat} (h : OwnSl E 1 (.slice a ps.length c) ps.length (strs ps) Lv) (hj : j ≤ ps.length) (h0 : 0 < ps.length) : OwnSl E 1 (.slice a j c) j (strs (ps.take j)) Lv := by
 have hobt := h.some1 h0
 obtain ⟨b, cap, more, hq, hL, hc⟩ := hobt
 cases hq
 have e : strs ps = strs (ps.take j) ++ strs (ps.drop j) := by
  unfold strs
  rw [← List.map_append, List.take_append_drop]
 refine ⟨by rw [strs_len, List.length_take]; omega, .inr ⟨b, c, strs (ps.drop j) ++ more, rfl, ?_, ?_⟩⟩
 ·rw [hL, e, List.append_assoc]
 ·rw [← List.append_assoc, ← e]
  exact hc
theorem parent_spec {p : List UInt8} (w0 : World) (hcl : isCleanL p = true) (hp0 : p ≠ []) : Calls Tryz.prog 75 #[str p] w0 (Ret0 (str (splitR p).1) w0) := by
 have hs : Step [] [] w0 w0 := Step.refl w0
 have hpl := clean_len hcl
 have h0 : partsL p ≠ [] := fun h => hp0 (partsL_nil h)
 have hobt := clean_named hcl
 obtain ⟨hnm, hn32⟩ := hobt
 have e : (splitR p).1 = joinL (partsL p).dropLast := by
  unfold splitR
  rw [hcl, if_neg (by simp), if_neg h0]
 rw [e]
 have hobt : ∃ ps, partsL p = ps := ⟨_, rfl⟩
 obtain ⟨ps, hps⟩ := hobt
 have hpt := fun w => refParts_spec (s := p) w (by omega)
 simp only [hps] at hpt
 rw [hps] at h0 hnm hn32 ⊢
 have hl0 : 0 < ps.length := List.length_pos_iff.2 h0
 have hdl : ps.dropLast = ps.take (ps.length - 1) := List.dropLast_eq_take
 rw [hdl]
 have hsum : ((ps.take (ps.length - 1)).map fun x => x.length + 1).sum ≤ 9000000 := by
  have hgo : ∀ (l : List (List UInt8)), (∀ x ∈ l, x.length ≤ 64) → (l.map fun x => x.length + 1).sum ≤ l.length * 65 := by
   intro l
   induction l with
   | nil => intro _; simp
   | cons a l ih =>
    intro h
    have h1 := h a (by simp)
    have h2 := ih fun x hx => h x (by simp [hx])
    simp only [List.map_cons, List.sum_cons, List.length_cons]
    omega
  have h1 := hgo (ps.take (ps.length - 1)) fun x hx => isName_le (hnm x (List.mem_of_mem_take hx))
  rw [List.length_take] at h1
  omega
 refine calls (n := 12) Tryz.func75 rfl rfl rfl ?_
 refine cQ <| cR <| wa rfl <| wZ <| cQ <| cR <| wm rfl ?_
 refine wE rfl (run_call en89 rfl rfl) (hpt _) ?_
 rintro e w ⟨u, Lu, rfl, hu, hq⟩
 refine ⟨_, rfl, ?_⟩
 have hs1 : Step [] Lu w0 w := hq
 replace hs := hs1
 have hfu := hu.form
 obtain ⟨au, cu, hfe⟩ := hfu
 subst hfe
 refine wa rfl <| wZ ?_
 have hobt := hu.some1 hl0
 obtain ⟨b, cap, more, hqq, hL, hc⟩ := hobt
 have hqq2 := hqq
 injection hqq2 with e1 e2 e3
 have hcap : ps.length - 1 ≤ cu := by
  rw [List.length_append, strs_len] at hc
  omega
 have hle : (ps.take (ps.length - 1)).length = ps.length - 1 := by rw [List.length_take]; omega
 have hf := OwnSl.front hu (Nat.sub_le ps.length 1) hl0
 subst e1
 have hpa := fun {w} (hw : Step (Lu.map (·.1)) Lu w w) => refPath_spec (u := .slice (some ⟨b, 0, none⟩) (ps.length - 1) cu) (ps := ps.take (ps.length - 1)) w (by rw [hle]; exact hf) hw hsum
 refine cQ <| cR <| wm rfl <| wm rfl <| wV rfl (run_lenSl underlying88 rfl) <| wV rfl (run_sub (c := ((ps.length - 1 : Nat) : Int)) rfl rfl (by omega) (by omega)) <| wV rfl (run_sliceSl0 (hi := ps.length - 1) (m := cu) underlying88 ty9 rfl rfl rfl (by simp) (by omega) (Nat.le_refl _)) ?_
 refine wE rfl (run_call en91 rfl rfl) (hpa hs.own1) ?_
 rintro e w ⟨rfl, hq⟩
 refine ⟨_, rfl, ?_⟩
 replace hs := hs.callE hq
 refine wa rfl <| wZ ?_
 refine CW.ret ?_
 refine fin_ret1 rfl ?_
 exact ⟨rfl, hs.clear⟩
end Go.Gx
/-! Vb2 -/
namespace Go.Gx
open Go.Proofs Go.Proofs.Tryz
def underL (x y : List (List UInt8)) : Bool := decide (x = y.take x.length)
structure TreeL (l : List Tri) : Prop where
 len : l.length < 65536
 so : SortT l
 cl : ∀ x ∈ l, isCleanL x.1 = true ∧ x.1 ≠ []
 up : ∀ (i : Nat) x, l[i]? = some x → (splitR x.1).1 = [] ∨ ∃ (k : Nat) (y : Tri), k < i ∧ l[k]? = some y ∧ y.1 = (splitR x.1).1 ∧ y.2.1 = true
 dx : ∀ x ∈ l, (x.2.1 = true → x.2.2 = []) ∧ x.2.2.length ≤ 1048576
 sum : (l.map (·.2.2.length)).sum ≤ 67108864
 fan : ∀ u, (l.filter fun x => decide ((splitR x.1).1 = u)).length ≤ 1024
theorem kids_A {u : List UInt8} : ∀ l : List (List UInt8), (((l.filter fun p => decide (p ≠ [])).map fun p => ((p, true, []) : Tri)).filter fun x => decide ((splitR x.1).1 = u)).length = l.countP (kidP u)
 | [] => rfl
 | r :: l => by
  have ih := kids_A (u := u) l
  rw [List.countP_cons, ← ih, List.filter_cons]
  by_cases h : r = []
  ·rw [if_neg (by simp [h]), if_neg (by simp [kidP, h])]
   rfl
  ·rw [if_pos (by simp [h]), List.map_cons, List.filter_cons]
   by_cases h2 : (splitR r).1 = u
   ·rw [if_pos (by simp [h2]), if_pos (by simp [kidP, h, h2]), List.length_cons]
   ·rw [if_neg (by simp [h2]), if_neg (by simp [kidP, h2])]
    rfl
theorem kids_B {u : List UInt8} : ∀ {l : List (List UInt8 × List UInt8)}, (∀ e ∈ l, e.1 ≠ []) → ((l.map fun e => ((e.1, false, e.2) : Tri)).filter fun x => decide ((splitR x.1).1 = u)).length = (l.map (·.1)).countP (kidP u)
 | [], _ => rfl
 | r :: l, hn => by
  have ih := kids_B (u := u) (l := l) fun e he => hn e (by simp [he])
  have h := hn r (by simp)
  rw [List.map_cons, List.map_cons, List.countP_cons, ← ih, List.filter_cons]
  by_cases h2 : (splitR r.1).1 = u
  ·rw [if_pos (by simp [h2]), if_pos (by simp [kidP, h, h2]), List.length_cons]
  ·rw [if_neg (by simp [h2]), if_neg (by simp [kidP, h2])]
   rfl
end Go.Gx
/-! Vb3 -/
namespace Go.Gx
open Go.Proofs Go.Proofs.Tryz Go.RowKit
set_option maxRecDepth 100000
def bC (B : List Nat) : List Value := B.map fun z => .int .i64 (z : Nat)
theorem bC_get {B : List Nat} {i z : Nat} (h : B[i]? = some z) : (bC B)[i]? = some (.int .i64 (z : Nat)) := by rw [bC, List.getElem?_map, h]; rfl
theorem bC_set {B : List Nat} {i z : Nat} : (bC B).set i (.int .i64 (z : Nat)) = bC (B.set i z) := by rw [bC, bC, List.map_set]
theorem bC_rep (k : Nat) : (List.replicate k [Value.int .i64 0]).flatten = bC (List.replicate k 0) := by
 induction k with
 | zero => rfl
 | succ k ih => rw [List.replicate_succ, List.flatten_cons, ih, List.replicate_succ]; rfl
def cntL (l : List Tri) (u : List UInt8) : Nat := (l.filter fun x => decide ((splitR x.1).1 = u)).length
theorem cnt_step {l : List Tri} {i : Nat} {x : Tri} (hx : l[i]? = some x) (u : List UInt8) : cntL (l.take (i + 1)) u = cntL (l.take i) u + (if (splitR x.1).1 = u then 1 else 0) := by
 have hobt := List.getElem?_eq_some_iff.1 hx
 obtain ⟨hlt, he⟩ := hobt
 unfold cntL
 rw [← List.take_append_getElem hlt, he, List.filter_append, List.length_append, List.filter_cons]
 by_cases h : (splitR x.1).1 = u <;> simp [h]
/-- What the counts hold. -/
structure BInv (l : List Tri) (i : Nat) (B : List Nat) : Prop where
 len : B.length = l.length + 1
 a : ∀ (k : Nat) (x : Tri), l[k]? = some x → ∀ z, B[k]? = some z → z ≤ cntL (l.take i) x.1
 r : ∀ z, B[l.length]? = some z → z ≤ cntL (l.take i) []
end Go.Gx
/-! Vn1 -/
namespace Go.Gx
open Go.Proofs Go.Proofs.Tryz Go.RowKit
set_option maxRecDepth 100000
theorem split_bad {p : List UInt8} (h : ¬ (isCleanL p = true ∧ p ≠ [])) : (splitR p).2.2 ≠ 0 := by
 unfold splitR
 split
 ·decide
 ·rename_i hc
  split
  ·decide
  ·rename_i h0
   exfalso
   refine h ⟨?_, fun e => h0 (by rw [e]; rfl)⟩
   cases h2 : isCleanL p with
   | true => rfl
   | false => exact absurd h2 hc
theorem split_good {p : List UInt8} (h : isCleanL p = true) (h0 : p ≠ []) : (splitR p).2.2 = 0 := by
 unfold splitR
 rw [h, if_neg (by simp), if_neg fun e => h0 (partsL_nil e)]
theorem chk_bad1 {D : DL} {prev : Option (List UInt8)} {x : It} (h : ¬ (isCleanL x.p = true ∧ x.p ≠ [])) : chkStep D prev x = none := by
 unfold chkStep
 exact if_pos (split_bad h)
theorem chk_bad2 {D : DL} {prev : Option (List UInt8)} {x : It} (h : lookN (splitR x.p).1 D = none) : chkStep D prev x = none := by
 unfold chkStep
 split
 ·rfl
 ·rw [h]
theorem chk_bad3 {D : DL} {prev : Option (List UInt8)} {x : It} {n : Nat} (h : lookN (splitR x.p).1 D = some n) (hn : 1024 ≤ n) : chkStep D prev x = none := by
 unfold chkStep
 split
 ·rfl
 ·rw [h]
  exact if_pos hn
theorem chk_bad4 {D : DL} {prev : Option (List UInt8)} {x : It} {q : List UInt8} (h : prev = some q) (hq : lessP q x.p = false) : chkStep D prev x = none := by
 unfold chkStep
 split
 ·rfl
 ·split
  ·rfl
  ·split
   ·rfl
   ·rw [h]
    simp [hq]
theorem chk_bad5 {D : DL} {prev : Option (List UInt8)} {x : It} (h : x.d = true ∧ 0 < x.x.length) : chkStep D prev x = none := by
 cases hc : chkStep D prev x with
 | none => rfl
 | some D' =>
  have hobt := chk_inv hc
  obtain ⟨_, n, _, _, _, h5, _⟩ := hobt
  have := h.2
  rw [h5 h.1] at this
  cases this
theorem chk_bad6 {D : DL} {prev : Option (List UInt8)} {x : It} (h : 1048576 < x.x.length) : chkStep D prev x = none := by
 cases hc : chkStep D prev x with
 | none => rfl
 | some D' =>
  have hobt := chk_inv hc
  obtain ⟨_, n, _, _, _, _, h6, _⟩ := hobt
  omega
theorem chk_good {D : DL} {prev : Option (List UInt8)} {x : It} {n : Nat} (h1 : isCleanL x.p = true) (h0 : x.p ≠ []) (h2 : lookN (splitR x.p).1 D = some n) (h3 : n < 1024) (h4 : ∀ q, prev = some q → lessP q x.p = true) (h5 : ¬ (x.d = true ∧ 0 < x.x.length)) (h6 : x.x.length ≤ 1048576) :
  chkStep D prev x = some (if x.d = true then putN x.p 0 (putN (splitR x.p).1 (n + 1) D) else putN (splitR x.p).1 (n + 1) D) := by
 unfold chkStep
 rw [if_neg (fun h => h (split_good h1 h0)), h2]
 show (if 1024 ≤ n then none else _) = _
 rw [if_neg (by omega), if_neg, if_neg h5, if_neg (by omega)]
 cases prev with
 | none => simp
 | some q => simp [h4 q rfl]
theorem lowb (p : List UInt8) : ∀ {ps : List (List UInt8)}, ps.Pairwise (fun a b => lessP a b = true) → ∃ k, k ≤ ps.length ∧ ∀ (m : Nat) q, ps[m]? = some q → lessP q p = decide (m < k)
 | [], _ => ⟨0, Nat.le_refl _, fun m q h => by simp at h⟩
 | a :: ps, h => by
  rw [List.pairwise_cons] at h
  have hobt := lowb p h.2
  obtain ⟨k, hk, hk2⟩ := hobt
  by_cases ha : lessP a p = true
  ·refine ⟨k + 1, by simp; omega, fun m q hm => ?_⟩
   cases m with
   | zero =>
    have : a = q := by simpa using hm
    rw [← this, ha]
    simp
   | succ m =>
    rw [hk2 m q (by simpa using hm)]
    simp
  ·refine ⟨0, Nat.zero_le _, fun m q hm => ?_⟩
   have hq : lessP q p = false := by
    cases m with
    | zero =>
     have : a = q := by simpa using hm
     rw [← this]
     simpa using ha
    | succ m =>
     have hm : ps[m]? = some q := by simpa using hm
     have := h.1 q (List.mem_of_getElem? hm)
     cases h3 : lessP q p with
     | false => rfl
     | true => exact absurd (lessP_trans this h3) ha
   rw [hq]
   simp
/-- What the counts hold, of directories and of the root. -/
structure GInv (l : List It) (i : Nat) (D : DL) (B : List Nat) : Prop where
 len : B.length = l.length + 1
 root : ∃ z, B[l.length]? = some z ∧ lookN [] D = some z
 dir : ∀ (k : Nat) (x : It), k < i → l[k]? = some x → x.d = true → ∃ z, B[k]? = some z ∧ lookN x.p D = some z
 only : ∀ u z, lookN u D = some z → u = [] ∨ ∃ (k : Nat) (x : It), k < i ∧ l[k]? = some x ∧ x.d = true ∧ x.p = u
 new : ∀ k, i ≤ k → k < l.length → B[k]? = some 0
 so : ((l.take i).map (·.p)).Pairwise fun a b => lessP a b = true
 cl : ∀ (k : Nat) (x : It), k < i → l[k]? = some x → isCleanL x.p = true ∧ x.p ≠ []
 sm : ∀ (k z : Nat), B[k]? = some z → z ≤ 1024
theorem GInv.less {l : List It} {i : Nat} {D : DL} {B : List Nat} (v : GInv l i D B) {k m : Nat} {x y : It} (hk : l[k]? = some x) (hm : l[m]? = some y) (hkm : k < m) (hmi : m < i) : lessP x.p y.p = true := by
 have h1 : ((l.take i).map (·.p))[k]? = some x.p := by rw [List.getElem?_map, List.getElem?_take, if_pos (by omega), hk]; rfl
 have h2 : ((l.take i).map (·.p))[m]? = some y.p := by rw [List.getElem?_map, List.getElem?_take, if_pos hmi, hm]; rfl
 have hobt := List.getElem?_eq_some_iff.1 h1
 obtain ⟨a1, a2⟩ := hobt
 have hobt := List.getElem?_eq_some_iff.1 h2
 obtain ⟨b1, b2⟩ := hobt
 have := List.pairwise_iff_getElem.1 v.so k m a1 b1 hkm
 rw [a2, b2] at this
 exact this
theorem GInv.one {l : List It} {i : Nat} {D : DL} {B : List Nat} (v : GInv l i D B) {k m : Nat} {x y : It} (hk : l[k]? = some x) (hm : l[m]? = some y) (hki : k < i) (hmi : m < i) (e : x.p = y.p) : k = m := by
 rcases Nat.lt_trichotomy k m with h | h | h
 ·have := v.less hk hm h hmi
  rw [e, lessP_irrefl] at this
  cases this
 ·exact h
 ·have := v.less hm hk h hki
  rw [e, lessP_irrefl] at this
  cases this
/-- Where a parent stands: behind all, of the root; or at a directory. -/
def AtUp (l : List It) (i : Nat) (up : List UInt8) (a : Nat) : Prop := a = l.length ∧ up = [] ∨ a < i ∧ ∃ y : It, l[a]? = some y ∧ y.p = up ∧ y.d = true
theorem GInv.at {l : List It} {i a : Nat} {D : DL} {B : List Nat} {up : List UInt8} (v : GInv l i D B) (h : AtUp l i up a) : ∃ z, B[a]? = some z ∧ lookN up D = some z := by
 rcases h with ⟨rfl, rfl⟩ | ⟨h, y, hy, rfl, hd⟩
 ·exact v.root
 ·exact v.dir a y h hy hd
theorem GInv.step {l : List It} {i a z : Nat} {D : DL} {B : List Nat} {prev : Option (List UInt8)} {x : It} (v : GInv l i D B) (hx : l[i]? = some x) (hp0 : i = 0 → prev = none) (hp1 : ∀ k, i = k + 1 → ∃ y : It, l[k]? = some y ∧ prev = some y.p)
  (hc : isCleanL x.p = true) (hn : x.p ≠ []) (hl : ∀ q, prev = some q → lessP q x.p = true) (ha : AtUp l i (splitR x.p).1 a) (hz : B[a]? = some z) (hz1 : z < 1024) :
  GInv l (i + 1) (if x.d = true then putN x.p 0 (putN (splitR x.p).1 (z + 1) D) else putN (splitR x.p).1 (z + 1) D) (B.set a (z + 1)) := by
 have hobt := List.getElem?_eq_some_iff.1 hx
 obtain ⟨hil, hie⟩ := hobt
 have hal := (List.getElem?_eq_some_iff.1 hz).1
 have hobt := v.at ha
 obtain ⟨z', hz', hlk⟩ := hobt
 obtain rfl : z = z' := Option.some.inj (hz.symm.trans hz')
 have hai : a ≠ i := by
  rcases ha with ⟨h, _⟩ | ⟨h, _⟩ <;> omega
 -- all that stand ahead are less
 have hless : ∀ (k : Nat) (y : It), k < i → l[k]? = some y → lessP y.p x.p = true := fun k y hk hy => by
  have hobt : ∃ j, i = j + 1 := ⟨i - 1, by omega⟩
  obtain ⟨j, rfl⟩ := hobt
  have hobt := hp1 j rfl
  obtain ⟨y', hy', hpe⟩ := hobt
  have h1 := hl _ hpe
  by_cases hkj : k = j
  ·subst hkj
   rw [hy] at hy'
   obtain rfl := Option.some.inj hy'
   exact h1
  ·exact lessP_trans (v.less hy hy' (by omega) (by omega)) h1
 have hne : ∀ (k : Nat) (y : It), k < i → l[k]? = some y → y.p ≠ x.p := fun k y hk hy e => by
  have := hless k y hk hy
  rw [e, lessP_irrefl] at this
  cases this
 have hxup : (splitR x.p).1 ≠ x.p := fun e => by
  rcases ha with ⟨_, h⟩ | ⟨h, y, hy, he, _⟩
  ·exact hn (e.symm.trans h)
  ·exact hne a y h hy (he.trans e)
 have hD : ∀ u, lookN u (if x.d = true then putN x.p 0 (putN (splitR x.p).1 (z + 1) D) else putN (splitR x.p).1 (z + 1) D) = if x.d = true ∧ u = x.p then some 0 else if u = (splitR x.p).1 then some (z + 1) else lookN u D := fun u => by
  by_cases hd : x.d = true
  ·rw [if_pos hd, lookN_put, lookN_put]
   by_cases hu : u = x.p
   ·rw [if_pos hu, if_pos ⟨hd, hu⟩]
   ·rw [if_neg hu, if_neg (show ¬ (x.d = true ∧ u = x.p) from fun h => hu h.2)]
  ·rw [if_neg hd, lookN_put, if_neg (show ¬ (x.d = true ∧ u = x.p) from fun h => hd h.1)]
 refine ⟨by rw [List.length_set]; exact v.len, ?_, fun k y hk hy hd => ?_, fun u q hu => ?_, fun k hk hkl => ?_, ?_, fun k y hk hy => ?_, fun k q hq => ?_⟩
 ·rw [hD, if_neg fun h => hn h.2.symm]
  rcases ha with ⟨h1, h2⟩ | ⟨h, y, hy, he, _⟩
  ·refine ⟨z + 1, ?_, if_pos h2.symm⟩
   rw [← h1, List.getElem?_set_self hal]
  ·have hobt := v.root
   obtain ⟨z0, h1, h2⟩ := hobt
   refine ⟨z0, ?_, ?_⟩
   ·rw [List.getElem?_set_ne (by omega)]
    exact h1
   ·rw [if_neg, h2]
    intro h3
    exact (v.cl a y h hy).2 (he.trans h3.symm)
 ·by_cases hki : k < i
  ·have hobt := v.dir k y hki hy hd
   obtain ⟨z0, h1, h2⟩ := hobt
   rw [hD, if_neg fun h => hne k y hki hy h.2]
   by_cases hup : y.p = (splitR x.p).1
   ·have hak : a = k := by
     rcases ha with ⟨_, h4⟩ | ⟨h, y', hy', he, _⟩
     ·exact absurd (hup.trans h4) (v.cl k y hki hy).2
     ·exact v.one hy' hy h hki (he.trans hup.symm)
    refine ⟨z + 1, ?_, if_pos hup⟩
    rw [← hak, List.getElem?_set_self hal]
   ·refine ⟨z0, ?_, by rw [if_neg hup]; exact h2⟩
    rw [List.getElem?_set_ne]
    ·exact h1
    ·intro hak
     subst hak
     rcases ha with ⟨h4, _⟩ | ⟨_, y', hy', he, _⟩
     ·omega
     ·rw [hy] at hy'
      obtain rfl := Option.some.inj hy'
      exact hup he
  ·obtain rfl : k = i := by omega
   rw [hx] at hy
   obtain rfl := Option.some.inj hy
   refine ⟨0, ?_, ?_⟩
   ·rw [List.getElem?_set_ne hai]
    exact v.new k (Nat.le_refl _) hil
   ·rw [hD, if_pos ⟨hd, rfl⟩]
 ·rw [hD] at hu
  split at hu
  ·rename_i h
   exact .inr ⟨i, x, by omega, hx, h.1, h.2.symm⟩
  ·split at hu
   ·rename_i h
    rcases v.only _ _ hlk with h2 | ⟨k, y, h2, h3, h4, h5⟩
    ·exact .inl (h.trans h2)
    ·exact .inr ⟨k, y, by omega, h3, h4, h5.trans h.symm⟩
   ·rcases v.only _ _ hu with h2 | ⟨k, y, h2, h3, h4, h5⟩
    ·exact .inl h2
    ·exact .inr ⟨k, y, by omega, h3, h4, h5⟩
 ·rw [List.getElem?_set_ne]
  ·exact v.new k (by omega) hkl
  ·rcases ha with ⟨h, _⟩ | ⟨h, _⟩ <;> omega
 ·rw [← List.take_append_getElem hil, hie, List.map_append, List.pairwise_append]
  refine ⟨v.so, by simp, fun q hq r hr => ?_⟩
  have hobt := List.mem_map.1 hq
  obtain ⟨y, hy, rfl⟩ := hobt
  have hobt := List.mem_iff_getElem.1 hy
  obtain ⟨k, hk, hky⟩ := hobt
  rw [List.length_take] at hk
  have hr : r = x.p := by simpa using hr
  rw [hr]
  have hkl : l[k]? = some y := by
   rw [List.getElem_take] at hky
   exact List.getElem?_eq_some_iff.2 ⟨by omega, hky⟩
  exact hless k y (by omega) hkl
 ·by_cases hki : k < i
  ·exact v.cl k y hki hy
  ·obtain rfl : k = i := by omega
   rw [hx] at hy
   obtain rfl := Option.some.inj hy
   exact ⟨hc, hn⟩
 ·by_cases hak : a = k
  ·subst hak
   rw [List.getElem?_set_self hal] at hq
   have := Option.some.inj hq
   omega
  ·rw [List.getElem?_set_ne hak] at hq
   exact v.sm k q hq
theorem GInv.start (l : List It) : GInv l 0 [([], 0)] (List.replicate (l.length + 1) 0) := by
 refine ⟨by simp, ⟨0, ?_, rfl⟩, fun k x h => by omega, fun u z h => ?_, fun k _ hk => ?_, by simp, fun k x h => by omega, fun k z hz => ?_⟩
 ·rw [List.getElem?_replicate, if_pos (by omega)]
 ·rw [lookN] at h
  split at h
  ·rename_i h2; exact .inl h2
  ·cases h
 ·rw [List.getElem?_replicate, if_pos (by omega)]
 ·rw [List.getElem?_replicate] at hz
  split at hz
  ·rw [← Option.some.inj hz]; exact Nat.zero_le _
  ·cases hz
theorem up_len {p : List UInt8} (hcl : isCleanL p = true) (hp0 : p ≠ []) : (splitR p).1.length ≤ 2080 := by
 have h0 : partsL p ≠ [] := fun h => hp0 (partsL_nil h)
 have hobt := clean_named hcl
 obtain ⟨hnm, hn32⟩ := hobt
 have e : (splitR p).1 = joinL (partsL p).dropLast := by
  unfold splitR
  rw [hcl, if_neg (by simp), if_neg h0]
 have hd : (partsL p).dropLast.length = (partsL p).length - 1 := List.length_dropLast
 rw [e]
 exact clean_len (named_clean (row := (partsL p).dropLast) (fun x hx => hnm x ((List.dropLast_sublist _).subset hx)) (by omega)).1
set_option maxHeartbeats 2000000 in
theorem find_gen {b o c i k : Nat} {ps : List (List UInt8)} {p : List UInt8} (w0 : World) (hi : ps.length = i) (hil : i ≤ 65536) (hc : i ≤ c) (hcell : ∀ (j : Nat) q, ps[j]? = some q → w0.cell? ⟨b, o + j * 3, none⟩ = some (str q)) (hki : k ≤ i) (hlt : ∀ (m : Nat) q, ps[m]? = some q → lessP q p = decide (m < k)) (hl : ∀ q ∈ ps, q.length ≤ 4096) (hpl : p.length ≤ 4096) : Calls Tryz.prog 76 #[.slice (some ⟨b, o, none⟩) i c, str p] w0 (Ret0 (.int .i64 (if ps[k]? = some p then (k : Int) else -1)) w0) := by
 have hs : Step [] [] w0 w0 := Step.refl w0
 have hcl := fun {L w j q} (hs : Step [] L w0 w) (hj : ps[j]? = some q) => keepCell (hcell j q hj) hs
 have hls := fun w q (hq : q ∈ ps) => refLessP_spec (s := q) (t := p) w (by have := hl q hq; omega) (by omega)
 refine calls (n := 41) Tryz.func76 rfl rfl rfl ?_
 refine cQ <| cR <| wa rfl <| wZ <| cQ <| cR <| wa rfl <| wZ <| cQ <| cR <| wm rfl <| wV rfl (run_lenSl underlying22 rfl) <| wa rfl <| wZ ?_
 repeat (first | refine cQ ?_ | refine CW.block ?_)
 refine CW.loop (fun z f w => ∃ lo hi : Nat, lo ≤ k ∧ k ≤ hi ∧ hi ≤ i ∧ z = hi - lo ∧ Step [] [] w0 w ∧ Holds f [(0, .slice (some ⟨b, o, none⟩) i c), (1, str p), (5, .int .i64 lo), (6, .int .i64 hi)]) (m := i) ?_ ?_
 ·exact ⟨0, i, by omega, by omega, by omega, rfl, hs, rfl, rfl, rfl, rfl, trivial⟩
 clear hs
 rintro z f w ⟨lo, hi2, h1, h2, h3, rfl, hs, hf⟩
 have hobt := hf.chain
 obtain ⟨g, rfl⟩ := hobt
 by_cases hlh : lo < hi2
 ·have hobt : ∃ q, ps[(lo + hi2) / 2]? = some q := ⟨_, List.getElem?_eq_getElem (by omega)⟩
  obtain ⟨q, hq⟩ := hobt
  have hlq := fun w => hls w q (List.mem_of_getElem? hq)
  have hcq := fun {L w} (hs : Step [] L w0 w) => hcl hs hq
  have hdq := hlt _ _ hq
  refine cQ <| cQ <| cR <| wm rfl <| wm rfl <| wV rfl (run_bT (run_lss rfl rfl) (by omega)) <| wZ ?_
  refine cC rfl (fun h => ?_) (fun h => ?_)
  ·repeat (first | refine cQ ?_ | refine CW.block ?_ | refine cK ?_)
   refine cR <| wm rfl <| wm rfl <| wV rfl (run_add (c := ((lo + hi2 : Nat) : Int)) rfl rfl (by omega) (by omega)) <| wV rfl (run_quoN (n := lo + hi2) (m := 2) rfl rfl (by decide) (by omega)) <| wa rfl <| wZ ?_
   by_cases hmk : (lo + hi2) / 2 < k
   ·rw [decide_eq_true hmk] at hdq
    simp only [hdq] at hlq
    refine cQ <| cR <| wm rfl <| wm rfl <| wV rfl (run_ixSlN underlying22 ty56 rfl rfl (by omega)) <| wV rfl (run_field (o' := 0) underlying56 rfl ty9 rfl rfl rfl) <| wV rfl (run_load1 ty9 rfl (hcq hs)) <| wm rfl ?_
    refine wE rfl (run_call en74 rfl rfl) (hlq _) ?_
    rintro e w ⟨rfl, hq⟩
    refine ⟨_, rfl, ?_⟩
    replace hs := hs.callE hq
    refine wZ ?_
    refine cC rfl (fun hc2 => ?_) (fun hc2 => ?_)
    ·skip
     refine cR <| wm rfl <| wV rfl (run_add (c := (((lo + hi2) / 2 + 1 : Nat) : Int)) rfl rfl (by omega) (by omega)) <| wa rfl <| wZ ?_
     refine (show _ ∧ _ from ⟨rfl, _, ?_, (lo + hi2) / 2 + 1, hi2, by omega, by omega, by omega, rfl, hs, rfl, rfl, rfl, rfl, trivial⟩)
     omega
    ·cases hc2
   ·rw [decide_eq_false hmk] at hdq
    simp only [hdq] at hlq
    refine cQ <| cR <| wm rfl <| wm rfl <| wV rfl (run_ixSlN underlying22 ty56 rfl rfl (by omega)) <| wV rfl (run_field (o' := 0) underlying56 rfl ty9 rfl rfl rfl) <| wV rfl (run_load1 ty9 rfl (hcq hs)) <| wm rfl ?_
    refine wE rfl (run_call en74 rfl rfl) (hlq _) ?_
    rintro e w ⟨rfl, hq⟩
    refine ⟨_, rfl, ?_⟩
    replace hs := hs.callE hq
    refine wZ ?_
    refine cC rfl (fun hc2 => ?_) (fun hc2 => ?_)
    ·cases hc2
    refine cR <| wm rfl <| wa rfl <| wZ ?_
    refine (show _ ∧ _ from ⟨rfl, _, ?_, lo, (lo + hi2) / 2, by omega, by omega, by omega, rfl, hs, rfl, rfl, rfl, rfl, trivial⟩)
    omega
  ·cases h
 ·obtain rfl : lo = k := by omega
  have hobt : ∃ r : Int, (if ps[lo]? = some p then (lo : Int) else -1) = r := ⟨_, rfl⟩
  obtain ⟨r, hr⟩ := hobt
  rw [hr]
  refine cQ <| cQ <| cR <| wm rfl <| wm rfl <| wV rfl (run_bF (run_lss rfl rfl) (by omega)) <| wZ ?_
  refine cC rfl (fun h => ?_) (fun h => ?_)
  ·cases h
  repeat (first | refine cQ ?_ | refine CW.exit ?_)
  by_cases hli : lo < i
  ·have hobt : ∃ q, ps[lo]? = some q := ⟨_, List.getElem?_eq_getElem (by omega)⟩
   obtain ⟨q, hq⟩ := hobt
   by_cases hqp : q = p
   ·have hr2 : (lo : Int) = r := by rw [← hr, hq, hqp, if_pos rfl]
    refine cR <| wm rfl <| wm rfl <| wV rfl (run_lenSl underlying22 rfl) <| wV rfl (run_bT (run_lss rfl rfl) (by omega)) <| wm rfl <| WL.yes rfl rfl rfl <| wm rfl <| WL.yes rfl rfl rfl <| wm rfl ?_
    refine WL.yes rfl rfl rfl ?_; (first | refine wV rfl (run_ixSlN underlying22 ty56 rfl rfl (by omega)) ?_ | refine wV rfl (run_ixSl underlying22 ty56 rfl rfl (by omega)) ?_)
    refine WL.yes rfl rfl rfl <| wV rfl (run_field (o' := 0) underlying56 rfl ty9 rfl rfl rfl) <| WL.yes rfl rfl rfl <| wV rfl (run_load1 ty9 rfl (hcl hs hq)) <| WL.yes rfl rfl rfl <| wm rfl <| WL.yes rfl rfl rfl <| wV rfl (run_bT (run_strEq rfl rfl) (by exact hqp)) <| wV rfl (run_pickT rfl) <| wZ ?_
    refine cC rfl (fun h => ?_) (fun h => ?_)
    ·refine cQ <| cR <| wm rfl <| wa rfl <| wZ ?_
     refine CW.ret ?_
     refine fin_ret1 rfl ?_
     exact ⟨congrArg (fun r => Ending.returned (.int .i64 r)) hr2, hs⟩
    ·cases h
   ·have hr2 : (-1 : Int) = r := by rw [← hr, hq, if_neg fun h => hqp (Option.some.inj h)]
    refine cR <| wm rfl <| wm rfl <| wV rfl (run_lenSl underlying22 rfl) <| wV rfl (run_bT (run_lss rfl rfl) (by omega)) <| wm rfl <| WL.yes rfl rfl rfl <| wm rfl <| WL.yes rfl rfl rfl <| wm rfl ?_
    refine WL.yes rfl rfl rfl ?_; (first | refine wV rfl (run_ixSlN underlying22 ty56 rfl rfl (by omega)) ?_ | refine wV rfl (run_ixSl underlying22 ty56 rfl rfl (by omega)) ?_)
    refine WL.yes rfl rfl rfl <| wV rfl (run_field (o' := 0) underlying56 rfl ty9 rfl rfl rfl) <| WL.yes rfl rfl rfl <| wV rfl (run_load1 ty9 rfl (hcl hs hq)) <| WL.yes rfl rfl rfl <| wm rfl <| WL.yes rfl rfl rfl <| wV rfl (run_bF (run_strEq rfl rfl) (by exact hqp)) <| wV rfl (run_pickT rfl) <| wZ ?_
    refine cC rfl (fun h => ?_) (fun h => ?_)
    ·cases h
    repeat (first | refine cQ ?_ | refine cK ?_)
    refine cR <| wa rfl <| wZ ?_
    refine CW.ret ?_
    refine fin_ret1 rfl ?_
    exact ⟨congrArg (fun r => Ending.returned (.int .i64 r)) hr2, hs⟩
  ·have hr2 : (-1 : Int) = r := by rw [← hr, List.getElem?_eq_none (by omega), if_neg (by simp)]
   refine cR <| wm rfl <| wm rfl <| wV rfl (run_lenSl underlying22 rfl) <| wV rfl (run_bF (run_lss rfl rfl) (by omega)) <| wm rfl <| WL.no rfl rfl rfl (.inl rfl) <| WL.no rfl rfl rfl (.inl rfl) <| WL.no rfl rfl rfl (.inl rfl) <| WL.no rfl rfl rfl (.inl rfl) <| WL.no rfl rfl rfl (.inl rfl) <| WL.no rfl rfl rfl (.inl rfl) <| WL.no rfl rfl rfl (.inl rfl) <| wV rfl (run_pickF rfl) <| wZ ?_
   refine cC rfl (fun h => ?_) (fun h => ?_)
   ·cases h
   repeat (first | refine cQ ?_ | refine cK ?_)
   refine cR <| wa rfl <| wZ ?_
   refine CW.ret ?_
   refine fin_ret1 rfl ?_
   exact ⟨congrArg (fun r => Ending.returned (.int .i64 r)) hr2, hs⟩
end Go.Gx
/-! Vn2 -/
namespace Go.Gx
open Go.Proofs Go.Proofs.Tryz Go.RowKit
set_option maxRecDepth 100000
theorem sum_takes {l : List It} {i : Nat} {x : It} (hx : l[i]? = some x) : sumL (l.take (i + 1)) = sumL (l.take i) + x.x.length := by
 have hobt := List.getElem?_eq_some_iff.1 hx
 obtain ⟨h1, h2⟩ := hobt
 rw [← List.take_append_getElem h1, h2, sumL, sumL]
 simp
set_option maxHeartbeats 8000000 in
theorem isTreeG_spec {v : Value} {l : List It} (w0 : World) (hl : Its w0 v l) (hpl : ∀ x ∈ l, x.p.length < 4294967281) (hroom : Room v) : Calls Tryz.prog 50 #[v] w0 (Ret0 (.bool (decide (chkE l = 0))) w0) := by
 have hs : Step [] [] w0 w0 := Step.refl w0
 have hobt := hl.sl.form
 obtain ⟨av, cv, rfl⟩ := hobt
 have hlen := hl.len
 have hrm : l.length ≤ cv := hroom
 have hobt : ∃ b, decide (chkE l = 0) = b := ⟨_, rfl⟩
 obtain ⟨rb, hrb⟩ := hobt
 rw [hrb]
 have hbad : chkE l = 64 → false = rb := fun h => by rw [← hrb, h]; rfl
 by_cases hbig : 65536 ≤ l.length
 ·have hrf := hbad (if_pos hbig)
  refine calls (n := 105) Tryz.func50 rfl rfl rfl ?_
  refine cQ <| cR <| wa rfl <| wZ <| cQ <| cQ <| cR <| wm rfl <| wV rfl (run_lenSl underlying22 rfl) <| wV rfl (run_bT (run_geq rfl rfl) (by omega)) <| wZ ?_
  refine cC rfl (fun h => ?_) (fun h => ?_)
  ·refine cQ <| cR <| wa rfl <| wZ ?_
   refine CW.ret ?_
   refine fin_ret1 rfl ?_
   exact ⟨congrArg (fun b => Ending.returned (.bool b)) hrf, hs⟩
  ·cases h
 have hE : chkE l = match chkGo [([], 0)] none l with | none => 64 | some _ => if 67108864 < sumL l then 64 else 0 := if_neg hbig
 have hobt : ∃ n, l.length = n := ⟨_, rfl⟩
 obtain ⟨n, hn⟩ := hobt
 rw [hn] at hbig hlen
 refine calls (n := 105) Tryz.func50 rfl rfl rfl ?_
 refine cQ <| cR <| wa rfl <| wZ <| cQ <| cQ <| cR <| wm rfl <| wV rfl (run_lenSl underlying22 rfl) <| wV rfl (run_bF (run_geq rfl rfl) (by omega)) <| wZ ?_
 refine cC rfl (fun h => ?_) (fun h => ?_)
 ·cases h
 repeat (first | refine cQ ?_ | refine cK ?_)
 refine cR <| wa rfl <| wZ <| cQ <| cR <| wm rfl <| wV rfl (run_lenSl underlying22 rfl) <| wV rfl (run_add (c := ((l.length + 1 : Nat) : Int)) rfl rfl (by omega) (by omega)) ?_
 refine WL.makeSlice (k := l.length + 1) underlying134 ty3 rfl (by omega) (by omega) rfl rfl rfl hs (fun b15 w hs => ?_)
 refine wa rfl <| wZ <| cQ <| cQ <| cR <| wa rfl <| wZ <| CW.block ?_
 refine CW.loop (fun z f w => ∃ i D prev B, i ≤ n ∧ z = n - i ∧ chkGo [([], 0)] none l = chkGo D prev (l.drop i) ∧ (i = 0 → prev = none) ∧ (∀ k, i = k + 1 → ∃ y : It, l[k]? = some y ∧ prev = some y.p) ∧ GInv l i D B ∧ sumL (l.take i) ≤ i * 1048576 ∧ Step [] [(b15, blk 3 (bC B))] w0 w ∧ Holds f [(0, .slice av l.length cv), (3, .int .i64 (sumL (l.take i) : Nat)), (4, .slice (some ⟨b15, 0, none⟩) (l.length + 1) (l.length + 1)), (5, .int .i64 (i : Nat))]) (m := n) ?_ ?_
 ·exact ⟨0, _, none, _, by omega, by omega, rfl, fun _ => rfl, fun k hk => (by omega), GInv.start l, by simp [sumL], (by rw [← bC_rep]; exact hs), rfl, rfl, rfl, rfl, trivial⟩
 clear hs
 rintro z f w ⟨i, D, prev, B, hi, rfl, hgo, hp0, hp1, hG, hsum, hs, hf⟩
 by_cases hlt : i < n
 ·have hobt : ∃ x, l[i]? = some x := ⟨_, List.getElem?_eq_getElem (by omega)⟩
  obtain ⟨x, hx⟩ := hobt
  have hxm := List.mem_of_getElem? hx
  have hxo := hl.ok x hxm
  have hxl := hpl x hxm
  have hxc := It.cells1 hxo
  have hobt := hl.at hx
  obtain ⟨bl, ol, cl, hc0, hat⟩ := hobt
  have hcells := fun {j : Nat} {y : It} (hy : l[j]? = some y) => hl.at hy
  injection hc0 with hc0 hc1 hc2
  have e1' := congrArg (fun a => Value.slice a l.length cv) hc0
  rw [show Value.slice av l.length cv = Value.slice (some ⟨bl, ol, none⟩) l.length cv from e1'] at hf
  have hrow : ∀ {j : Nat} {y : It}, l[j]? = some y → At w0 bl (ol + j * 3) (itC y.p y.d y.v) := fun {j y} hy => by
   have hobt := hl.at hy
   obtain ⟨b', o', c', h1, h2⟩ := hobt
   injection h1 with h1 h3 h4
   rw [hc0] at h1
   injection h1 with h1
   injection h1 with h1 h5
   rw [h1, h5]
   exact h2
  have hst := sum_takes hx
  rw [chk_drop hx] at hgo
  have hnone : chkStep D prev x = none → chkE l = 64 := fun h => by
   rw [hE, hgo, h]
  have hobt := hxo.hb.form
  obtain ⟨ax, cx, hvx⟩ := hobt
  have hev : (itC x.p x.d x.v)[0 + 2]? = some (.slice ax x.x.length cx) := by show some x.v = _; rw [hvx]
  have hblen : B.length = n + 1 := by rw [hG.len, hn]
  have hbl : (bC B).length = n + 1 := by simp [bC, hblen]
  have hcl1 := fun w => refIsClean_spec (s := x.p) w hxl
  have hobt : ∃ b, isCleanL x.p = b := ⟨_, rfl⟩
  obtain ⟨icl, hicl⟩ := hobt
  simp only [hicl] at hcl1
  have hlb := hxo.lb
  have hobt := hf.chain
  obtain ⟨g, rfl⟩ := hobt
  refine cQ <| cQ <| cR <| wm rfl <| wm rfl <| wV rfl (run_lenSl underlying22 rfl) <| wV rfl (run_bT (run_lss rfl rfl) (by omega)) <| wZ ?_
  refine cC rfl (fun h => ?_) (fun h => ?_)
  ·repeat (first | refine cQ ?_ | refine CW.block ?_ | refine cK ?_)
   refine cR <| wm rfl <| wm rfl <| wV rfl (run_ixSlN underlying22 ty56 rfl rfl (by omega)) <| wV rfl (run_loadN ty56 rfl rfl ((hrow hx).step hs (by simp))) ?_
   refine WL.alloc ty56 rfl hs (fun b6 w hs => ?_)
   refine WL.storeAll ty56 rfl rfl ((rfl)) (hxc) hs (by first | rfl | assumption) (fun w hs => ?_)
   refine wZ ?_
   refine CW.seqM (fun f w => isCleanL x.p = true ∧ x.p ≠ [] ∧ (∀ q, prev = some q → lessP q x.p = true) ∧ Step [] [(b6, blk 56 (itC x.p x.d x.v)), (b15, blk 3 (bC B))] w0 w ∧ Holds f [(0, .slice (some ⟨bl, ol, none⟩) l.length cv), (3, .int .i64 (sumL (l.take i) : Nat)), (4, .slice (some ⟨b15, 0, none⟩) (l.length + 1) (l.length + 1)), (5, .int .i64 (i : Nat)), (6, .pointer (some ⟨b6, 0, none⟩))]) ?_ ?_
   ·by_cases hp : x.p = []
    ·have hrf := hbad (hnone (chk_bad1 fun h => h.2 hp))
     refine cQ ?_
     refine CW.quiet mixedP (by kernel_rfl) hs ?_
     refine qV rfl (fun w hs => run_field (o' := 0) underlying56 rfl ty9 rfl rfl rfl) <| qV rfl (fun w hs => run_load1 ty9 rfl (hs.c0 (v := str x.p) rfl)) <| qV rfl (fun w hs => run_bT (run_strEq rfl rfl) (by exact hp)) <| qm rfl <| QL.no rfl rfl rfl (.inl rfl) <| QL.no rfl rfl rfl (.inl rfl) <| QL.no rfl rfl rfl (.inl rfl) <| QL.no rfl rfl rfl (.inl rfl) <| qV rfl (fun w hs => run_pickT rfl) <| qm rfl <| QL.no rfl rfl rfl (.inl rfl) <| QL.no rfl rfl rfl (.inl rfl) <| QL.no rfl rfl rfl (.inl rfl) <| QL.no rfl rfl rfl (.inr rfl) ?_
     refine QL.no rfl rfl rfl (.inr rfl) <| QL.no rfl rfl rfl (.inr rfl) <| QL.no rfl rfl rfl (.inr rfl) <| QL.no rfl rfl rfl (.inr rfl) <| QL.no rfl rfl rfl (.inr rfl) <| QL.no rfl rfl rfl (.inr rfl) <| QL.no rfl rfl rfl (.inr rfl) <| QL.no rfl rfl rfl (.inr rfl) <| QL.no rfl rfl rfl (.inr rfl) <| QL.no rfl rfl rfl (.inl rfl) <| qV rfl (fun w hs => run_pickT rfl) ?_
     refine QL.nil (fun w hs => ?_)
     refine cC rfl (fun h => ?_) (fun h => ?_)
     ·refine cQ <| cR <| wa rfl <| wZ ?_
      refine CW.ret ?_
      refine fin_ret1 rfl ?_
      exact ⟨congrArg (fun b => Ending.returned (.bool b)) hrf, hs.clear⟩
     ·cases h
    by_cases hic : icl = true
    case neg =>
     have hic : icl = false := by simpa using hic
     subst hic
     have hrf := hbad (hnone (chk_bad1 fun h => by rw [hicl] at h; cases h.1))
     refine cQ ?_
     refine CW.quiet mixedP (by kernel_rfl) hs ?_
     refine qV rfl (fun w hs => run_field (o' := 0) underlying56 rfl ty9 rfl rfl rfl) <| qV rfl (fun w hs => run_load1 ty9 rfl (hs.c0 (v := str x.p) rfl)) <| qV rfl (fun w hs => run_bF (run_strEq rfl rfl) (by exact hp)) <| qm rfl <| QL.yes rfl rfl rfl <| qV rfl (fun w hs => run_field (o' := 0) underlying56 rfl ty9 rfl rfl rfl) <| QL.yes rfl rfl rfl <| qV rfl (fun w hs => run_load1 ty9 rfl (hs.c0 (v := str x.p) rfl)) <| QL.yes rfl rfl rfl ?_
     refine QL.enter rfl (fun w => run_call en73 rfl rfl) (fun w hs => hcl1 _) ?_
     refine QL.yes rfl rfl rfl ?_; (first | refine qV rfl (fun w hs => run_notB rfl) ?_ | refine qV rfl (fun w hs => run_not rfl) ?_)
     refine qV rfl (fun w hs => run_pickF rfl) <| qm rfl <| QL.no rfl rfl rfl (.inl rfl) <| QL.no rfl rfl rfl (.inl rfl) <| QL.no rfl rfl rfl (.inl rfl) <| QL.no rfl rfl rfl (.inr rfl) <| QL.no rfl rfl rfl (.inr rfl) <| QL.no rfl rfl rfl (.inr rfl) <| QL.no rfl rfl rfl (.inr rfl) <| QL.no rfl rfl rfl (.inr rfl) <| QL.no rfl rfl rfl (.inr rfl) <| QL.no rfl rfl rfl (.inr rfl) <| QL.no rfl rfl rfl (.inr rfl) <| QL.no rfl rfl rfl (.inr rfl) ?_
     refine QL.no rfl rfl rfl (.inr rfl) <| QL.no rfl rfl rfl (.inl rfl) <| qV rfl (fun w hs => run_pickT rfl) ?_
     refine QL.nil (fun w hs => ?_)
     refine cC rfl (fun h => ?_) (fun h => ?_)
     ·refine cQ <| cR <| wa rfl <| wZ ?_
      refine CW.ret ?_
      refine fin_ret1 rfl ?_
      exact ⟨congrArg (fun b => Ending.returned (.bool b)) hrf, hs.clear⟩
     ·cases h
    subst hic
    by_cases hi0 : i = 0
    ·refine cQ ?_
     refine CW.quiet mixedP (by kernel_rfl) hs ?_
     refine qV rfl (fun w hs => run_field (o' := 0) underlying56 rfl ty9 rfl rfl rfl) <| qV rfl (fun w hs => run_load1 ty9 rfl (hs.c0 (v := str x.p) rfl)) <| qV rfl (fun w hs => run_bF (run_strEq rfl rfl) (by exact hp)) <| qm rfl <| QL.yes rfl rfl rfl <| qV rfl (fun w hs => run_field (o' := 0) underlying56 rfl ty9 rfl rfl rfl) <| QL.yes rfl rfl rfl <| qV rfl (fun w hs => run_load1 ty9 rfl (hs.c0 (v := str x.p) rfl)) <| QL.yes rfl rfl rfl ?_
     refine QL.enter rfl (fun w => run_call en73 rfl rfl) (fun w hs => hcl1 _) ?_
     refine QL.yes rfl rfl rfl ?_; (first | refine qV rfl (fun w hs => run_notB rfl) ?_ | refine qV rfl (fun w hs => run_not rfl) ?_)
     refine qV rfl (fun w hs => run_pickF rfl) <| qm rfl <| QL.yes rfl rfl rfl <| qm rfl <| QL.yes rfl rfl rfl <| qV rfl (fun w hs => run_bF (run_gtr rfl rfl) (by omega)) <| QL.yes rfl rfl rfl <| qm rfl <| QL.no rfl rfl rfl (.inl rfl) <| QL.no rfl rfl rfl (.inl rfl) <| QL.no rfl rfl rfl (.inl rfl) <| QL.no rfl rfl rfl (.inl rfl) <| QL.no rfl rfl rfl (.inl rfl) <| QL.no rfl rfl rfl (.inl rfl) ?_
     refine QL.no rfl rfl rfl (.inl rfl) <| QL.no rfl rfl rfl (.inl rfl) <| QL.no rfl rfl rfl (.inl rfl) <| QL.no rfl rfl rfl (.inl rfl) ?_
     refine QL.yes rfl rfl rfl ?_; (first | refine qV rfl (fun w hs => run_pickT rfl) ?_ | refine qV rfl (fun w hs => run_pickF rfl) ?_)
     refine qV rfl (fun w hs => run_pickF rfl) ?_
     refine QL.nil (fun w hs => ?_)
     refine cC rfl (fun h => ?_) (fun h => ?_)
     ·cases h
     refine cK ?_
     exact ⟨rfl, hicl, hp, fun q hq => (by rw [hp0 hi0] at hq; cases hq), hs, rfl, rfl, rfl, rfl, rfl, trivial⟩
    ·have hobt := hp1 (i - 1) (by omega)
     obtain ⟨y, hy, hpy⟩ := hobt
     have hxl2 := clean_len hicl
     have hyl2 := clean_len (hG.cl (i - 1) y (by omega) hy).1
     have hless := fun w => refLessP_spec (s := y.p) (t := x.p) w (by omega) (by omega)
     have hobt : ∃ b, lessP y.p x.p = b := ⟨_, rfl⟩
     obtain ⟨ls, hls⟩ := hobt
     simp only [hls] at hless
     have hyc := fun {L' w} (hs : Step [] L' w0 w) => ((hrow hy).step hs (by simp)).cell (j := 0) (v := str y.p) rfl
     by_cases hlt2 : ls = true
     ·subst hlt2
      refine cQ ?_
      refine CW.quiet mixedP (by kernel_rfl) hs ?_
      refine qV rfl (fun w hs => run_field (o' := 0) underlying56 rfl ty9 rfl rfl rfl) <| qV rfl (fun w hs => run_load1 ty9 rfl (hs.c0 (v := str x.p) rfl)) <| qV rfl (fun w hs => run_bF (run_strEq rfl rfl) (by exact hp)) <| qm rfl <| QL.yes rfl rfl rfl <| qV rfl (fun w hs => run_field (o' := 0) underlying56 rfl ty9 rfl rfl rfl) <| QL.yes rfl rfl rfl <| qV rfl (fun w hs => run_load1 ty9 rfl (hs.c0 (v := str x.p) rfl)) <| QL.yes rfl rfl rfl ?_
      refine QL.enter rfl (fun w => run_call en73 rfl rfl) (fun w hs => hcl1 _) ?_
      refine QL.yes rfl rfl rfl ?_; (first | refine qV rfl (fun w hs => run_notB rfl) ?_ | refine qV rfl (fun w hs => run_not rfl) ?_)
      refine qV rfl (fun w hs => run_pickF rfl) <| qm rfl <| QL.yes rfl rfl rfl <| qm rfl <| QL.yes rfl rfl rfl <| qV rfl (fun w hs => run_bT (run_gtr rfl rfl) (by omega)) <| QL.yes rfl rfl rfl <| qm rfl <| QL.yes rfl rfl rfl <| qm rfl <| QL.yes rfl rfl rfl <| qm rfl <| QL.yes rfl rfl rfl <| qV rfl (fun w hs => run_sub (c := ((i - 1 : Nat) : Int)) rfl rfl (by omega) (by omega)) ?_
      refine QL.yes rfl rfl rfl ?_; (first | refine qV rfl (fun w hs => run_ixSlN underlying22 ty56 rfl rfl (by omega)) ?_ | refine qV rfl (fun w hs => run_ixSl underlying22 ty56 rfl rfl (by omega)) ?_)
      refine QL.yes rfl rfl rfl <| qV rfl (fun w hs => run_field (o' := 0) underlying56 rfl ty9 rfl rfl rfl) <| QL.yes rfl rfl rfl <| qV rfl (fun w hs => run_load1 ty9 rfl (hyc hs)) <| QL.yes rfl rfl rfl <| qV rfl (fun w hs => run_field (o' := 0) underlying56 rfl ty9 rfl rfl rfl) <| QL.yes rfl rfl rfl <| qV rfl (fun w hs => run_load1 ty9 rfl (hs.c0 (v := str x.p) rfl)) <| QL.yes rfl rfl rfl ?_
      refine QL.enter rfl (fun w => run_call en74 rfl rfl) (fun w hs => hless _) ?_
      refine QL.yes rfl rfl rfl ?_; (first | refine qV rfl (fun w hs => run_notB rfl) ?_ | refine qV rfl (fun w hs => run_not rfl) ?_)
      refine QL.yes rfl rfl rfl ?_; (first | refine qV rfl (fun w hs => run_pickT rfl) ?_ | refine qV rfl (fun w hs => run_pickF rfl) ?_)
      refine qV rfl (fun w hs => run_pickF rfl) ?_
      refine QL.nil (fun w hs => ?_)
      refine cC rfl (fun h => ?_) (fun h => ?_)
      ·cases h
      refine cK ?_
      exact ⟨rfl, hicl, hp, fun q hq => (by rw [hpy] at hq; obtain rfl := Option.some.inj hq; exact hls), hs, rfl, rfl, rfl, rfl, rfl, trivial⟩
     ·have hlt2 : ls = false := by simpa using hlt2
      subst hlt2
      have hrf := hbad (hnone (chk_bad4 hpy hls))
      refine cQ ?_
      refine CW.quiet mixedP (by kernel_rfl) hs ?_
      refine qV rfl (fun w hs => run_field (o' := 0) underlying56 rfl ty9 rfl rfl rfl) <| qV rfl (fun w hs => run_load1 ty9 rfl (hs.c0 (v := str x.p) rfl)) <| qV rfl (fun w hs => run_bF (run_strEq rfl rfl) (by exact hp)) <| qm rfl <| QL.yes rfl rfl rfl <| qV rfl (fun w hs => run_field (o' := 0) underlying56 rfl ty9 rfl rfl rfl) <| QL.yes rfl rfl rfl <| qV rfl (fun w hs => run_load1 ty9 rfl (hs.c0 (v := str x.p) rfl)) <| QL.yes rfl rfl rfl ?_
      refine QL.enter rfl (fun w => run_call en73 rfl rfl) (fun w hs => hcl1 _) ?_
      refine QL.yes rfl rfl rfl ?_; (first | refine qV rfl (fun w hs => run_notB rfl) ?_ | refine qV rfl (fun w hs => run_not rfl) ?_)
      refine qV rfl (fun w hs => run_pickF rfl) <| qm rfl <| QL.yes rfl rfl rfl <| qm rfl <| QL.yes rfl rfl rfl <| qV rfl (fun w hs => run_bT (run_gtr rfl rfl) (by omega)) <| QL.yes rfl rfl rfl <| qm rfl <| QL.yes rfl rfl rfl <| qm rfl <| QL.yes rfl rfl rfl <| qm rfl <| QL.yes rfl rfl rfl <| qV rfl (fun w hs => run_sub (c := ((i - 1 : Nat) : Int)) rfl rfl (by omega) (by omega)) ?_
      refine QL.yes rfl rfl rfl ?_; (first | refine qV rfl (fun w hs => run_ixSlN underlying22 ty56 rfl rfl (by omega)) ?_ | refine qV rfl (fun w hs => run_ixSl underlying22 ty56 rfl rfl (by omega)) ?_)
      refine QL.yes rfl rfl rfl <| qV rfl (fun w hs => run_field (o' := 0) underlying56 rfl ty9 rfl rfl rfl) <| QL.yes rfl rfl rfl <| qV rfl (fun w hs => run_load1 ty9 rfl (hyc hs)) <| QL.yes rfl rfl rfl <| qV rfl (fun w hs => run_field (o' := 0) underlying56 rfl ty9 rfl rfl rfl) <| QL.yes rfl rfl rfl <| qV rfl (fun w hs => run_load1 ty9 rfl (hs.c0 (v := str x.p) rfl)) <| QL.yes rfl rfl rfl ?_
      refine QL.enter rfl (fun w => run_call en74 rfl rfl) (fun w hs => hless _) ?_
      refine QL.yes rfl rfl rfl ?_; (first | refine qV rfl (fun w hs => run_notB rfl) ?_ | refine qV rfl (fun w hs => run_not rfl) ?_)
      refine QL.yes rfl rfl rfl ?_; (first | refine qV rfl (fun w hs => run_pickT rfl) ?_ | refine qV rfl (fun w hs => run_pickF rfl) ?_)
      refine qV rfl (fun w hs => run_pickF rfl) ?_
      refine QL.nil (fun w hs => ?_)
      refine cC rfl (fun h => ?_) (fun h => ?_)
      ·refine cQ <| cR <| wa rfl <| wZ ?_
       refine CW.ret ?_
       refine fin_ret1 rfl ?_
       exact ⟨congrArg (fun b => Ending.returned (.bool b)) hrf, hs.clear⟩
      ·cases h
   clear hs
   rintro f w ⟨hic, hp, hls, hs, hf⟩
   have hxl2 := clean_len hic
   refine CW.seqM (fun f w => ¬ (x.d = true ∧ 0 < x.x.length) ∧ x.x.length ≤ 1048576 ∧ Step [] [(b6, blk 56 (itC x.p x.d x.v)), (b15, blk 3 (bC B))] w0 w ∧ Holds f [(0, .slice (some ⟨bl, ol, none⟩) l.length cv), (3, .int .i64 (sumL (l.take i) : Nat)), (4, .slice (some ⟨b15, 0, none⟩) (l.length + 1) (l.length + 1)), (5, .int .i64 (i : Nat)), (6, .pointer (some ⟨b6, 0, none⟩))]) ?_ ?_
   ·have hobt := hf.chain
    obtain ⟨g, rfl⟩ := hobt
    by_cases hd : x.d = true
    ·by_cases h0 : 0 < x.x.length
     ·have hrf := hbad (hnone (chk_bad5 ⟨hd, h0⟩))
      refine cQ <| cR <| wV rfl (run_field (o' := 1) underlying56 rfl ty4 rfl rfl rfl) <| wV rfl (run_load1 ty4 rfl (hs.c0 (v := .bool true) (by show some (Value.bool x.d) = _; rw [hd]))) <| wm rfl ?_
      refine WL.yes rfl rfl rfl <| wV rfl (run_field (o' := 2) underlying56 rfl ty38 rfl rfl rfl) <| WL.yes rfl rfl rfl <| wV rfl (run_load1 ty38 rfl (hs.c0 (v := .slice ax x.x.length cx) hev)) <| WL.yes rfl rfl rfl <| wV rfl (run_lenSl underlying38 rfl) <| WL.yes rfl rfl rfl <| wV rfl (run_bT (run_gtr rfl rfl) (by omega)) <| wV rfl (run_pickT rfl) <| wm rfl <| WL.no rfl rfl rfl (.inl rfl) <| WL.no rfl rfl rfl (.inl rfl) <| WL.no rfl rfl rfl (.inl rfl) <| WL.no rfl rfl rfl (.inl rfl) <| wV rfl (run_pickT rfl) <| wZ ?_
      refine cC rfl (fun h => ?_) (fun h => ?_)
      ·refine cQ <| cR <| wa rfl <| wZ ?_
       refine CW.ret ?_
       refine fin_ret1 rfl ?_
       exact ⟨congrArg (fun b => Ending.returned (.bool b)) hrf, hs.clear⟩
      ·cases h
     ·have h5 : ¬ (x.d = true ∧ 0 < x.x.length) := fun h => h0 h.2
      have h6 : x.x.length ≤ 1048576 := by omega
      refine cQ <| cR <| wV rfl (run_field (o' := 1) underlying56 rfl ty4 rfl rfl rfl) <| wV rfl (run_load1 ty4 rfl (hs.c0 (v := .bool true) (by show some (Value.bool x.d) = _; rw [hd]))) <| wm rfl ?_
      refine WL.yes rfl rfl rfl <| wV rfl (run_field (o' := 2) underlying56 rfl ty38 rfl rfl rfl) <| WL.yes rfl rfl rfl <| wV rfl (run_load1 ty38 rfl (hs.c0 (v := .slice ax x.x.length cx) hev)) <| WL.yes rfl rfl rfl <| wV rfl (run_lenSl underlying38 rfl) <| WL.yes rfl rfl rfl <| wV rfl (run_bF (run_gtr rfl rfl) (by omega)) <| wV rfl (run_pickT rfl) <| wm rfl <| WL.yes rfl rfl rfl <| wV rfl (run_field (o' := 2) underlying56 rfl ty38 rfl rfl rfl) <| WL.yes rfl rfl rfl <| wV rfl (run_load1 ty38 rfl (hs.c0 (v := .slice ax x.x.length cx) hev)) <| WL.yes rfl rfl rfl <| wV rfl (run_lenSl underlying38 rfl) <| WL.yes rfl rfl rfl <| wV rfl (run_bF (run_gtr rfl rfl) (by omega)) <| wV rfl (run_pickF rfl) <| wZ ?_
      refine cC rfl (fun h => ?_) (fun h => ?_)
      ·cases h
      refine cK ?_
      exact ⟨rfl, h5, h6, hs, rfl, rfl, rfl, rfl, rfl, trivial⟩
    ·have hd2 : x.d = false := by simpa using hd
     by_cases h0 : 1048576 < x.x.length
     ·have hrf := hbad (hnone (chk_bad6 h0))
      refine cQ <| cR <| wV rfl (run_field (o' := 1) underlying56 rfl ty4 rfl rfl rfl) <| wV rfl (run_load1 ty4 rfl (hs.c0 (v := .bool false) (by show some (Value.bool x.d) = _; rw [hd2]))) <| wm rfl <| WL.no rfl rfl rfl (.inl rfl) <| WL.no rfl rfl rfl (.inl rfl) <| WL.no rfl rfl rfl (.inl rfl) <| WL.no rfl rfl rfl (.inl rfl) <| wV rfl (run_pickF rfl) <| wm rfl ?_
      refine WL.yes rfl rfl rfl <| wV rfl (run_field (o' := 2) underlying56 rfl ty38 rfl rfl rfl) <| WL.yes rfl rfl rfl <| wV rfl (run_load1 ty38 rfl (hs.c0 (v := .slice ax x.x.length cx) hev)) <| WL.yes rfl rfl rfl <| wV rfl (run_lenSl underlying38 rfl) <| WL.yes rfl rfl rfl <| wV rfl (run_bT (run_gtr rfl rfl) (by omega)) <| wV rfl (run_pickF rfl) <| wZ ?_
      refine cC rfl (fun h => ?_) (fun h => ?_)
      ·refine cQ <| cR <| wa rfl <| wZ ?_
       refine CW.ret ?_
       refine fin_ret1 rfl ?_
       exact ⟨congrArg (fun b => Ending.returned (.bool b)) hrf, hs.clear⟩
      ·cases h
     ·have h5 : ¬ (x.d = true ∧ 0 < x.x.length) := fun h => hd h.1
      have h6 : x.x.length ≤ 1048576 := by omega
      refine cQ <| cR <| wV rfl (run_field (o' := 1) underlying56 rfl ty4 rfl rfl rfl) <| wV rfl (run_load1 ty4 rfl (hs.c0 (v := .bool false) (by show some (Value.bool x.d) = _; rw [hd2]))) <| wm rfl <| WL.no rfl rfl rfl (.inl rfl) <| WL.no rfl rfl rfl (.inl rfl) <| WL.no rfl rfl rfl (.inl rfl) <| WL.no rfl rfl rfl (.inl rfl) <| wV rfl (run_pickF rfl) <| wm rfl ?_
      refine WL.yes rfl rfl rfl <| wV rfl (run_field (o' := 2) underlying56 rfl ty38 rfl rfl rfl) <| WL.yes rfl rfl rfl <| wV rfl (run_load1 ty38 rfl (hs.c0 (v := .slice ax x.x.length cx) hev)) <| WL.yes rfl rfl rfl <| wV rfl (run_lenSl underlying38 rfl) <| WL.yes rfl rfl rfl <| wV rfl (run_bF (run_gtr rfl rfl) (by omega)) <| wV rfl (run_pickF rfl) <| wZ ?_
      refine cC rfl (fun h => ?_) (fun h => ?_)
      ·cases h
      refine cK ?_
      exact ⟨rfl, h5, h6, hs, rfl, rfl, rfl, rfl, rfl, trivial⟩
   clear hs hf
   rintro f w ⟨h5, h6, hs, hf⟩
   have hobt := hf.chain
   obtain ⟨g, rfl⟩ := hobt
   have hpar := fun w => parent_spec (p := x.p) w hic hp
   have hobt : ∃ pu, (splitR x.p).1 = pu := ⟨_, rfl⟩
   obtain ⟨pu, hpu⟩ := hobt
   have hpul : pu.length ≤ 2080 := by rw [← hpu]; exact up_len hic hp
   simp only [hpu] at hpar
   refine cQ <| cR <| wm rfl <| wV rfl (run_field (o' := 2) underlying56 rfl ty38 rfl rfl rfl) <| wV rfl (run_load1 ty38 rfl (hs.c0 (v := .slice ax x.x.length cx) hev)) <| wV rfl (run_lenSl underlying38 rfl) <| wV rfl (run_add (c := (((sumL (l.take (i + 1))) : Nat) : Int)) rfl rfl (by omega) (by omega)) <| wa rfl <| wZ <| cQ <| cR <| wm rfl <| wV rfl (run_lenSl underlying22 rfl) <| wa rfl <| wZ <| cQ <| cR <| wV rfl (run_field (o' := 0) underlying56 rfl ty9 rfl rfl rfl) <| wV rfl (run_load1 ty9 rfl (hs.c0 (v := str x.p) rfl)) ?_
   refine wE rfl (run_call en75 rfl rfl) (hpar _) ?_
   rintro e w ⟨rfl, hq⟩
   refine ⟨_, rfl, ?_⟩
   replace hs := hs.callE hq
   refine wa rfl <| wZ ?_
   refine CW.seqM (fun f w => ∃ a, AtUp l i pu a ∧ Step [] [(b6, blk 56 (itC x.p x.d x.v)), (b15, blk 3 (bC B))] w0 w ∧ Holds f [(0, .slice (some ⟨bl, ol, none⟩) l.length cv), (3, .int .i64 (sumL (l.take (i + 1)) : Nat)), (4, .slice (some ⟨b15, 0, none⟩) (l.length + 1) (l.length + 1)), (5, .int .i64 (i : Nat)), (7, .int .i64 (a : Nat))]) ?_ ?_
   ·by_cases hu0 : pu = []
    ·refine cQ <| cR <| wm rfl <| wV rfl (run_bF (run_strNe rfl rfl) (by exact fun h => h hu0)) <| wZ ?_
     refine cC rfl (fun h => ?_) (fun h => ?_)
     ·cases h
     refine cK ?_
     exact ⟨rfl, l.length, .inl ⟨rfl, hu0⟩, hs, rfl, rfl, rfl, rfl, rfl, trivial⟩
    have hcapn : i ≤ cv := by omega
    have hobt : ∃ ps, (l.take i).map (·.p) = ps := ⟨_, rfl⟩
    obtain ⟨ps, hps⟩ := hobt
    have hpsl : ps.length = i := by rw [← hps, List.length_map, List.length_take]; omega
    have hpsj : ∀ (j : Nat) q, ps[j]? = some q → ∃ y : It, j < i ∧ l[j]? = some y ∧ y.p = q := fun j q hj => by
     rw [← hps, List.getElem?_map, List.getElem?_take] at hj
     split at hj
     ·rename_i hji
      cases hq : l[j]? with
      | none => rw [hq] at hj; cases hj
      | some y =>
       rw [hq] at hj
       exact ⟨y, hji, rfl, by simpa using hj⟩
     ·cases hj
    have hso : ps.Pairwise fun a b => lessP a b = true := by rw [← hps]; exact hG.so
    have hobt := lowb pu hso
    obtain ⟨k, hki, hlb2⟩ := hobt
    rw [hpsl] at hki
    have hfind := fun {L' w} (hs : Step [] L' w0 w) => find_gen (b := bl) (o := ol) (c := cv) (i := i) (k := k) (ps := ps) (p := pu) w hpsl (by omega) hcapn (fun j q hj => by
     have hobt := hpsj j q hj
     obtain ⟨y, hji, hy, hyp⟩ := hobt
     rw [← hyp]
     exact ((hrow hy).step hs (by simp)).cell (j := 0) rfl) hki hlb2 (fun q hq => by
     have hobt := List.mem_iff_getElem?.1 hq
     obtain ⟨j, hj⟩ := hobt
     have hobt := hpsj j q hj
     obtain ⟨y, hji, hy, hyp⟩ := hobt
     rw [← hyp]
     have := clean_len (hG.cl j y hji hy).1
     omega) (by omega)
    by_cases hpk : ps[k]? = some pu
    ·have hobt := hpsj k pu hpk
     obtain ⟨y, hki2, hy, hyp⟩ := hobt
     simp only [if_pos hpk] at hfind
     have hkc := fun {L' w} (hs : Step [] L' w0 w) => ((hrow hy).step hs (by simp)).cell (j := 1) (v := .bool y.d) rfl
     have hobt : ∃ b, y.d = b := ⟨_, rfl⟩
     obtain ⟨yd, hyd⟩ := hobt
     simp only [hyd] at hkc
     cases yd with
     | true =>
      refine cQ <| cR <| wm rfl <| wV rfl (run_bT (run_strNe rfl rfl) (by exact hu0)) <| wZ ?_
      refine cC rfl (fun h => ?_) (fun h => ?_)
      ·refine cQ <| cR <| wm rfl <| wm rfl <| wV rfl (run_sliceSl0 (hi := i) (m := cv) underlying22 ty56 rfl rfl rfl (by simp) (by omega) (Nat.le_refl _)) <| wm rfl ?_
       refine wE rfl (run_call en76 rfl rfl) (hfind hs) ?_
       rintro e w ⟨rfl, hq⟩
       refine ⟨_, rfl, ?_⟩
       replace hs := hs.callE hq
       refine wa rfl <| wZ <| cQ <| cR <| wm rfl <| wV rfl (run_bF (run_lss rfl rfl) (by omega)) <| wm rfl <| WL.yes rfl rfl rfl <| wm rfl <| WL.yes rfl rfl rfl <| wm rfl ?_
       refine WL.yes rfl rfl rfl ?_; (first | refine wV rfl (run_ixSlN underlying22 ty56 rfl rfl (by omega)) ?_ | refine wV rfl (run_ixSl underlying22 ty56 rfl rfl (by omega)) ?_)
       refine WL.yes rfl rfl rfl <| wV rfl (run_field (o' := 1) underlying56 rfl ty4 rfl rfl rfl) <| WL.yes rfl rfl rfl <| wV rfl (run_load1 ty4 rfl (hkc hs)) ?_
       refine WL.yes rfl rfl rfl ?_; (first | refine wV rfl (run_notB rfl) ?_ | refine wV rfl (run_not rfl) ?_)
       refine wV rfl (run_pickF rfl) <| wZ ?_
       refine cC rfl (fun h2 => ?_) (fun h2 => ?_)
       ·cases h2
       refine cK ?_
       exact ⟨rfl, k, .inr ⟨hki2, y, hy, hyp, hyd⟩, hs, rfl, rfl, rfl, rfl, rfl, trivial⟩
      ·cases h
     | false =>
      have hlk : lookN pu D = none := by
       cases h : lookN pu D with
       | none => rfl
       | some z =>
        rcases hG.only _ _ h with h3 | ⟨j, y', h3, h4, h5, h7⟩
        ·exact absurd h3 hu0
        ·have := hG.one hy h4 hki2 h3 (hyp.trans h7.symm)
         subst this
         rw [hy] at h4
         obtain rfl := Option.some.inj h4
         rw [hyd] at h5
         cases h5
      have hrf := hbad (hnone (chk_bad2 (by rw [hpu]; exact hlk)))
      refine cQ <| cR <| wm rfl <| wV rfl (run_bT (run_strNe rfl rfl) (by exact hu0)) <| wZ ?_
      refine cC rfl (fun h => ?_) (fun h => ?_)
      ·refine cQ <| cR <| wm rfl <| wm rfl <| wV rfl (run_sliceSl0 (hi := i) (m := cv) underlying22 ty56 rfl rfl rfl (by simp) (by omega) (Nat.le_refl _)) <| wm rfl ?_
       refine wE rfl (run_call en76 rfl rfl) (hfind hs) ?_
       rintro e w ⟨rfl, hq⟩
       refine ⟨_, rfl, ?_⟩
       replace hs := hs.callE hq
       refine wa rfl <| wZ <| cQ <| cR <| wm rfl <| wV rfl (run_bF (run_lss rfl rfl) (by omega)) <| wm rfl <| WL.yes rfl rfl rfl <| wm rfl <| WL.yes rfl rfl rfl <| wm rfl ?_
       refine WL.yes rfl rfl rfl ?_; (first | refine wV rfl (run_ixSlN underlying22 ty56 rfl rfl (by omega)) ?_ | refine wV rfl (run_ixSl underlying22 ty56 rfl rfl (by omega)) ?_)
       refine WL.yes rfl rfl rfl <| wV rfl (run_field (o' := 1) underlying56 rfl ty4 rfl rfl rfl) <| WL.yes rfl rfl rfl <| wV rfl (run_load1 ty4 rfl (hkc hs)) ?_
       refine WL.yes rfl rfl rfl ?_; (first | refine wV rfl (run_notB rfl) ?_ | refine wV rfl (run_not rfl) ?_)
       refine wV rfl (run_pickF rfl) <| wZ ?_
       refine cC rfl (fun h2 => ?_) (fun h2 => ?_)
       ·refine cQ <| cR <| wa rfl <| wZ ?_
        refine CW.ret ?_
        refine fin_ret1 rfl ?_
        exact ⟨congrArg (fun b => Ending.returned (.bool b)) hrf, hs.clear⟩
       ·cases h2
      ·cases h
    ·simp only [if_neg hpk] at hfind
     have hlk : lookN pu D = none := by
      cases h : lookN pu D with
      | none => rfl
      | some z =>
       rcases hG.only _ _ h with h3 | ⟨j, y', h3, h4, h5, h7⟩
       ·exact absurd h3 hu0
       ·exfalso
        have hj : ps[j]? = some pu := by rw [← hps, List.getElem?_map, List.getElem?_take, if_pos h3, h4, ← h7]; rfl
        have h8 := hlb2 j pu hj
        rw [lessP_irrefl] at h8
        have h9 : ¬ j < k := by simpa using h8
        by_cases hjk : j = k
        ·subst hjk; exact hpk hj
        ·have hobt : ∃ q, ps[k]? = some q := ⟨_, List.getElem?_eq_getElem (by omega)⟩
         obtain ⟨q, hq⟩ := hobt
         have h10 := hlb2 k q hq
         simp at h10
         have hobt := List.getElem?_eq_some_iff.1 hq
         obtain ⟨a1, a2⟩ := hobt
         have hobt := List.getElem?_eq_some_iff.1 hj
         obtain ⟨b1, b2⟩ := hobt
         have := List.pairwise_iff_getElem.1 hso k j a1 b1 (by omega)
         rw [a2, b2, h10] at this
         cases this
     have hrf := hbad (hnone (chk_bad2 (by rw [hpu]; exact hlk)))
     refine cQ <| cR <| wm rfl <| wV rfl (run_bT (run_strNe rfl rfl) (by exact hu0)) <| wZ ?_
     refine cC rfl (fun h => ?_) (fun h => ?_)
     ·refine cQ <| cR <| wm rfl <| wm rfl <| wV rfl (run_sliceSl0 (hi := i) (m := cv) underlying22 ty56 rfl rfl rfl (by simp) (by omega) (Nat.le_refl _)) <| wm rfl ?_
      refine wE rfl (run_call en76 rfl rfl) (hfind hs) ?_
      rintro e w ⟨rfl, hq⟩
      refine ⟨_, rfl, ?_⟩
      replace hs := hs.callE hq
      refine wa rfl <| wZ <| cQ <| cR <| wm rfl <| wV rfl (run_bT (run_lss rfl rfl) (by omega)) <| wm rfl <| WL.no rfl rfl rfl (.inl rfl) <| WL.no rfl rfl rfl (.inl rfl) <| WL.no rfl rfl rfl (.inl rfl) <| WL.no rfl rfl rfl (.inl rfl) <| WL.no rfl rfl rfl (.inl rfl) <| WL.no rfl rfl rfl (.inl rfl) <| wV rfl (run_pickT rfl) <| wZ ?_
      refine cC rfl (fun h2 => ?_) (fun h2 => ?_)
      ·refine cQ <| cR <| wa rfl <| wZ ?_
       refine CW.ret ?_
       refine fin_ret1 rfl ?_
       exact ⟨congrArg (fun b => Ending.returned (.bool b)) hrf, hs.clear⟩
      ·cases h2
     ·cases h
   clear hs
   rintro f w ⟨a, ha, hs, hf⟩
   have hobt := hf.chain
   obtain ⟨g, rfl⟩ := hobt
   have hobt := hG.at ha
   obtain ⟨z, hz, hlk⟩ := hobt
   have hatl := (List.getElem?_eq_some_iff.1 hz).1
   rw [← hpu] at ha hlk
   have hset : (bC B).set (0 + a * 1) (.int .i64 ((z + 1 : Nat) : Int)) = bC (B.set a (z + 1)) := by rw [Nat.zero_add, Nat.mul_one, bC_set]
   have hzg : (bC B)[0 + a * 1]? = some (.int .i64 (z : Nat)) := by rw [Nat.zero_add, Nat.mul_one]; exact bC_get hz
   have hzb : z ≤ 1024 := hG.sm a z hz
   refine cQ <| cR <| wm rfl <| wm rfl <| wV rfl (run_ixSlN underlying134 ty3 rfl rfl (by omega)) <| wV rfl (run_load1 ty3 rfl (hs.c1 hzg)) <| wV rfl (run_add (c := ((z + 1 : Nat) : Int)) rfl rfl (by omega) (by omega)) <| wV rfl (run_ixSlN underlying134 ty3 rfl rfl (by omega)) ?_
   refine WL.store1_1 ty3 rfl rfl (rfl) hs (by first | (simp; done) | omega | (simp only [List.length_append, List.length_replicate, List.length_cons, List.length_nil, List.length_set]; omega) | (simp [Ent.cells, u8s]; done) | exact Nat.le_of_ble_eq_true rfl) (fun w hs => ?_)
   refine wZ ?_
   replace hs : Step [] [(b6, blk 56 (itC x.p x.d x.v)), (b15, blk 3 (bC (B.set a (z + 1))))] w0 w := by rw [← hset]; exact hs
   have hzg2 : (bC (B.set a (z + 1)))[0 + a * 1]? = some (.int .i64 ((z + 1 : Nat) : Int)) := by rw [Nat.zero_add, Nat.mul_one]; exact bC_get (List.getElem?_set_self hatl)
   by_cases hz1 : 1024 ≤ z
   ·have hrf := hbad (hnone (chk_bad3 hlk hz1))
    refine cQ <| cR <| wm rfl <| wm rfl <| wV rfl (run_ixSlN underlying134 ty3 rfl rfl (by omega)) <| wV rfl (run_load1 ty3 rfl (hs.c1 hzg2)) <| wV rfl (run_bT (run_gtr rfl rfl) (by omega)) <| wZ ?_
    refine cC rfl (fun h => ?_) (fun h => ?_)
    ·refine cQ <| cR <| wa rfl <| wZ ?_
     refine CW.ret ?_
     refine fin_ret1 rfl ?_
     exact ⟨congrArg (fun b => Ending.returned (.bool b)) hrf, hs.clear⟩
    ·cases h
   ·have hgood := chk_good hic hp hlk (by omega) hls h5 h6
    rw [hgood] at hgo
    refine cQ <| cR <| wm rfl <| wm rfl <| wV rfl (run_ixSlN underlying134 ty3 rfl rfl (by omega)) <| wV rfl (run_load1 ty3 rfl (hs.c1 hzg2)) <| wV rfl (run_bF (run_gtr rfl rfl) (by omega)) <| wZ ?_
    refine cC rfl (fun h => ?_) (fun h => ?_)
    ·cases h
    refine cK <| cR <| wm rfl <| wV rfl (run_add (c := ((i + 1 : Nat) : Int)) rfl rfl (by omega) (by omega)) <| wa rfl <| wZ ?_
    refine (show _ ∧ _ from ⟨rfl, _, ?_, i + 1, _, some x.p, B.set a (z + 1), by omega, rfl, hgo, fun h => (by omega), fun k hk => ⟨x, by rw [show k = i by omega]; exact hx, rfl⟩, hG.step hx hp0 hp1 hic hp hls ha hz (by omega), by omega, hs.tail, e1'.symm, rfl, rfl, rfl, trivial⟩)
    omega
  ·cases h
 ·have hobt := hf.chain
  obtain ⟨g, rfl⟩ := hobt
  obtain rfl : i = n := by omega
  have hdr : l.drop i = [] := List.drop_of_length_le (by omega)
  have hta : l.take i = l := List.take_of_length_le (by omega)
  have hE2 : chkE l = if 67108864 < sumL l then 64 else 0 := by
   rw [hE, hgo, hdr]
   rfl
  rw [hta] at hsum
  have hv : Value.int .i64 (sumL (l.take i) : Nat) = .int .i64 (sumL l : Nat) := by rw [hta]
  by_cases hb2 : 67108864 < sumL l
  ·have hrf := hbad (hE2.trans (if_pos hb2))
   refine cQ <| cQ <| cR <| wm rfl <| wm rfl <| wV rfl (run_lenSl underlying22 rfl) <| wV rfl (run_bF (run_lss rfl rfl) (by omega)) <| wZ ?_
   refine cC rfl (fun h => ?_) (fun h => ?_)
   ·cases h
   repeat (first | refine cQ ?_ | refine CW.exit ?_)
   refine cR <| wm rfl <| wV rfl (run_bF (run_leq rfl rfl) (by rw [hta]; omega)) <| wa rfl <| wZ ?_
   refine CW.ret ?_
   refine fin_ret1 rfl ?_
   exact ⟨congrArg (fun b => Ending.returned (.bool b)) hrf, hs.clear⟩
  ·have hrt : true = rb := by rw [← hrb, hE2, if_neg hb2]; rfl
   refine cQ <| cQ <| cR <| wm rfl <| wm rfl <| wV rfl (run_lenSl underlying22 rfl) <| wV rfl (run_bF (run_lss rfl rfl) (by omega)) <| wZ ?_
   refine cC rfl (fun h => ?_) (fun h => ?_)
   ·cases h
   repeat (first | refine cQ ?_ | refine CW.exit ?_)
   refine cR <| wm rfl <| wV rfl (run_bT (run_leq rfl rfl) (by rw [hta]; omega)) <| wa rfl <| wZ ?_
   refine CW.ret ?_
   refine fin_ret1 rfl ?_
   exact ⟨congrArg (fun b => Ending.returned (.bool b)) hrt, hs.clear⟩
end Go.Gx
