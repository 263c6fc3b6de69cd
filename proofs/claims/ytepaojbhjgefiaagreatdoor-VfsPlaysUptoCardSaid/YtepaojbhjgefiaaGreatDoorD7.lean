/- The document's files: List, walked. One step told by both files, walked. Every script is told alike by the program's files and by the document's, walked. -/
import Derived.Test.YtepaojbhjgefiaaGreatDoorD6
import Derived.Test.YtepaojbhjgefiaaGreatDoorC1
import Derived.Test.YtepaojbhjgefiaaGreatDoorD3
import Derived.Test.YtepaojbhjgefiaaGreatDoorD2
import Derived.Test.YtepaojbhjgefiaaGreatDoorVnB
import Derived.Test.YtepaojbhjgefiaaGreatDoorD4
set_option linter.unusedVariables false
set_option linter.unusedSimpArgs false
/-! Vq15 -/
namespace Go.Gx
open Go.Proofs Go.Proofs.Tryz Go.RowKit
set_option maxRecDepth 100000
section
variable {α : Type} {x y z : α} {l m n : List α}
theorem perm_ql1 : (x :: l).Perm (l ++ [x]) := List.perm_append_singleton _ _ |>.symm
end
section
variable {s : VS}
theorem item_flag (t : s.Tree) {x : Tri} (h : x ∈ s.itemsL) : (s.dir x.1).isSome = x.2.1 ∧ isCleanL x.1 = true ∧ x.1 ≠ [] ∧ (splitR x.1).2.2 = 0 := by
 have hm := itemsL_mem.1 h
 have hobt := item_mem t hm
 obtain ⟨h1, h2⟩ := hobt
 have hcl := (t.cl x.1 h1 h2).1
 refine ⟨?_, hcl, h2, ?_⟩
 ·obtain ⟨p, d, y⟩ := x
  cases d with
  | true => exact dir_mem.2 (itemsU_dir.1 hm).2.2
  | false =>
   have := t.dj _ (itemsU_file.1 hm)
   show (s.dir p).isSome = false
   rw [show s.dir p = none from this]
   rfl
 ·have h0 : partsL x.1 ≠ [] := fun h => h2 (partsL_nil h)
  unfold splitR
  rw [hcl, if_neg (by simp), if_neg h0]
def listTo (s : VS) (q : List UInt8) (i : Nat) : List (List UInt8) := ((s.itemsL.take i).filter fun t => inL t.1 q).map s.nameE
theorem listTo_step {q : List UInt8} {i : Nat} {x : Tri} (hx : s.itemsL[i]? = some x) : listTo s q (i + 1) = listTo s q i ++ (if inL x.1 q = true then [s.nameE x] else []) := by
 have hobt := List.getElem?_eq_some_iff.1 hx
 obtain ⟨h1, h2⟩ := hobt
 unfold listTo
 rw [← List.take_append_getElem h1, h2, List.filter_append, List.map_append]
 congr 1
 by_cases h : inL x.1 q = true
 ·rw [if_pos h, List.filter_cons, if_pos h]
  rfl
 ·rw [if_neg h, List.filter_cons, if_neg h]
  rfl
end
section
variable {bg : Nat} {s : VS} {A Lu Lh : List (Nat × Obj)} {u uh : Value} {R : List RowI} {w0 : World}
set_option maxHeartbeats 8000000 in
theorem rList_spec (o : ROpen bg s A u uh R Lu Lh) (sn : s.Sane) (t : s.Tree) (hw : ∀ p ∈ A, w0.heap[p.1]? = some p.2) {p : List UInt8} (hp : p.length ≤ 9223372036854775807) : Calls Tryz.prog 37 #[.pointer (some ⟨bg, 0, none⟩), str p] w0 fun e w' => ∃ v Lv, e = .returned (.tuple #[v, .int .i64 (s.list p).2]) ∧ OwnSl 9 1 v (s.list p).1.length (strs (s.list p).1) Lv ∧ Step [] Lv w0 w' := by
 have hs : Step [] [] w0 w0 := Step.refl w0
 have hlw : ∀ {L : List (Nat × Obj)} {w : World}, Step [] L w0 w → ∀ p ∈ A, w.heap[p.1]? = some p.2 := fun hs p hp => hs.old (hw p hp) (by simp)
 have hcl := fun w => refClean_spec (s := p) w hp
 have hcc := clean_isClean (s := p)
 have hln := o.len
 have hn := itemsL_n sn
 have hobt : ∃ z, s.list p = z := ⟨_, rfl⟩
 obtain ⟨z, hz⟩ := hobt
 have hz2 : z = if cleanE p ≠ 0 then ([], cleanE p) else if (s.way false (upsF [] (cleanS p)) []).2 ≠ 0 then ([], (s.way false (upsF [] (cleanS p)) []).2) else if (s.file (cleanS p)).isSome then ([], 93) else if s.dir (cleanS p) = none then ([], 91) else (s.listN (cleanS p), 0) := hz.symm
 rw [hz]
 clear hz
 have hobt : ∃ q, cleanS p = q := ⟨_, rfl⟩
 obtain ⟨q, hq⟩ := hobt
 have hobt : ∃ ce, cleanE p = ce := ⟨_, rfl⟩
 obtain ⟨ce, hce⟩ := hobt
 rw [hq, hce] at hcc
 simp only [hq, hce] at hcl hz2
 have hof := o.own.form
 obtain ⟨au0, cu0, hu0⟩ := hof
 have hul : ∀ {L : List (Nat × Obj)} {w : World}, Step [] L w0 w → w.cell? ⟨bg, 0, none⟩ = some (.slice au0 R.length cu0) := fun hs => by
  rw [cell_blk (o.fs (hlw hs)), ← hu0]
  rfl
 by_cases hce0 : ce ≠ 0
 ·rw [if_pos hce0] at hz2
  refine calls (n := 88) Tryz.func37 rfl rfl rfl ?_
  refine cQ <| cR <| wa rfl <| wa rfl <| wZ <| cQ <| cR <| wm rfl ?_
  refine wE rfl (run_call en58 rfl rfl) (hcl _) ?_
  rintro e w ⟨rfl, hq⟩
  refine ⟨_, rfl, ?_⟩
  replace hs := hs.callE hq
  refine wm rfl <| wx rfl rfl rfl <| wx rfl rfl rfl <| wa rfl <| wa rfl <| wZ <| cQ <| cQ <| cR <| wm rfl <| wV rfl (run_bT (run_neq rfl rfl) (by exact hce0)) <| wZ ?_
  refine cC rfl (fun h => ?_) (fun h => ?_)
  ·refine cQ <| cR <| wm rfl <| wa rfl <| wa rfl <| wZ ?_
   refine CW.ret ?_
   refine fin_ret2 rfl ?_
   rw [hz2]
   exact ⟨_, [], rfl, .nil _ _, hs⟩
  ·cases h
 rw [if_neg hce0] at hz2
 replace hcc := hcc (by omega)
 have hql := clean_len hcc
 have hwy : ∀ M e, s.way false (upsF [] q) [] = (M, e) → e = 0 → M = [] := fun M e h he => by
  subst he
  have hgo : ∀ {l acc M}, s.way false l acc = (M, 0) → M = acc := fun {l} => by
   induction l with
   | nil => intro acc M h; rw [VS.way] at h; exact (congrArg Prod.fst h).symm
   | cons a l ih =>
    intro acc M h
    rw [VS.way] at h
    split at h
    ·cases h
    ·split at h
     ·exact ih h
     ·rw [if_pos rfl] at h
      cases h
  exact hgo h
 refine calls (n := 88) Tryz.func37 rfl rfl rfl ?_
 refine cQ <| cR <| wa rfl <| wa rfl <| wZ <| cQ <| cR <| wm rfl ?_
 refine wE rfl (run_call en58 rfl rfl) (hcl _) ?_
 rintro e w ⟨rfl, hq⟩
 refine ⟨_, rfl, ?_⟩
 replace hs := hs.callE hq
 refine wm rfl <| wx rfl rfl rfl <| wx rfl rfl rfl <| wa rfl <| wa rfl <| wZ <| cQ <| cQ <| cR <| wm rfl <| wV rfl (run_bF (run_neq rfl rfl) (by exact hce0)) <| wZ ?_
 refine cC rfl (fun h => ?_) (fun h => ?_)
 ·cases h
 refine cK ?_
 refine CW.seqM (fun f w => z = (s.listN q, 0) ∧ Step [] [] w0 w ∧ Holds f [(0, .pointer (some ⟨bg, 0, none⟩)), (6, str q)]) ?_ ?_
 ·by_cases hq0 : q = []
  ·have hfn : s.file q = none := by
    cases hF : s.file q with
    | none => rfl
    | some j =>
     have hobt := at_file t hF
     obtain ⟨k, x, _, _, h3⟩ := hobt
     exact absurd hq0 (t.nz _ (List.mem_of_getElem? h3))
   have hdn : s.dir q ≠ none := by
    have := sn.root
    rw [hq0]
    intro h
    rw [h] at this
    cases this
   have hw0 : s.way false (upsF [] q) [] = ([], 0) := by rw [hq0]; rfl
   rw [hw0, if_neg (by simp), hfn, if_neg (by simp), if_neg hdn] at hz2
   refine cQ <| cR <| wm rfl <| wV rfl (run_bF (run_strNe rfl rfl) (by exact fun h => h hq0)) <| wZ ?_
   refine cC rfl (fun h => ?_) (fun h => ?_)
   ·cases h
   refine cK ?_
   exact ⟨rfl, hz2, hs, rfl, rfl, trivial⟩
  ·have hmis := fun {w} hw => rmissing_spec (w0 := w) (p := q) (made := false) o sn t hw hcc hq0
   have hobt : ∃ M ew, s.way false (upsF [] q) [] = (M, ew) := ⟨_, _, rfl⟩
   obtain ⟨M, ew, hW⟩ := hobt
   have hobt : ∃ ms, s.missL false q = ms := ⟨_, rfl⟩
   obtain ⟨ms, hms⟩ := hobt
   have hmsE : ms = if ew ≠ 0 then [] else M ++ (if (atL s.itemsL q).isNone then [q] else []) := by
    rw [← hms]
    unfold VS.missL
    rw [hW]
   rw [hW] at hz2
   simp only [hW, hms] at hmis
   replace hz2 : z = if ew ≠ 0 then ([], ew) else if (s.file q).isSome then ([], 93) else if s.dir q = none then ([], 91) else (s.listN q, 0) := hz2
   refine cQ <| cR <| wm rfl <| wV rfl (run_bT (run_strNe rfl rfl) (by exact hq0)) <| wZ ?_
   refine cC rfl (fun h => ?_) (fun h => ?_)
   rotate_left 1
   ·cases h
   refine cQ <| cR <| wm rfl <| wm rfl ?_
   refine wE rfl (run_call en59 rfl rfl) (hmis (hlw hs)) ?_
   rintro e w ⟨v10, Lw, rfl, hv10, hqq⟩
   refine ⟨_, rfl, ?_⟩
   replace hs := hs.call0 hqq
   have hfm := hv10.form
   obtain ⟨a10, c10, hfe⟩ := hfm
   subst hfe
   refine wm rfl <| wx rfl rfl rfl <| wx rfl rfl rfl <| wa rfl <| wa rfl <| wZ ?_
   by_cases hew : ew ≠ 0
   ·rw [if_pos hew] at hz2
    refine cQ <| cQ <| cR <| wm rfl <| wV rfl (run_bT (run_neq rfl rfl) (by exact hew)) <| wZ ?_
    refine cC rfl (fun h => ?_) (fun h => ?_)
    ·refine cQ <| cR <| wm rfl <| wa rfl <| wa rfl <| wZ ?_
     refine CW.ret ?_
     refine fin_ret2 rfl ?_
     rw [hz2]
     exact ⟨_, [], rfl, .nil _ _, hs.clear⟩
    ·cases h
   rw [if_neg hew] at hz2 hmsE
   obtain rfl : ew = 0 := Classical.byContradiction hew
   have hM := hwy M 0 hW rfl
   rw [hM, List.nil_append] at hmsE
   refine cQ <| cQ <| cR <| wm rfl <| wV rfl (run_bF (run_neq rfl rfl) (by exact fun h => h rfl)) <| wZ ?_
   refine cC rfl (fun h => ?_) (fun h => ?_)
   ·cases h
   have hFD : (∃ k r, atL s.itemsL q = some k ∧ R[k]? = some r ∧ ((r.d = true ∧ s.file q = none ∧ s.dir q ≠ none) ∨ (r.d = false ∧ (s.file q).isSome))) ∨ (atL s.itemsL q = none ∧ s.file q = none ∧ s.dir q = none) := by
    cases hF : s.file q with
    | some j =>
     have hobt := at_file t hF
     obtain ⟨k, x, h1, h2, h3⟩ := hobt
     have hobt := o.row h2
     obtain ⟨r, hr, _, hrd, _⟩ := hobt
     exact .inl ⟨k, r, h1, hr, .inr ⟨hrd, rfl⟩⟩
    | none =>
     cases hD : s.dir q with
     | some j =>
      have hobt := at_dir t hq0 (by rw [hD]; rfl)
      obtain ⟨k, h1, h2⟩ := hobt
      have hobt := o.row h2
      obtain ⟨r, hr, _, hrd, _⟩ := hobt
      exact .inl ⟨k, r, h1, hr, .inl ⟨hrd, rfl, by simp⟩⟩
     | none => exact .inr ⟨at_none t hF hD, rfl, rfl⟩
   rcases hFD with ⟨k, r, hk, hr, hrc⟩ | ⟨hk, hF, hD⟩
   ·rw [hk, Option.isNone_some, if_neg (by simp)] at hmsE
    have hml : ms.length = 0 := by rw [hmsE]; rfl
    have hobt := o.cells hr
    obtain ⟨bu, cu, huu, hcell⟩ := hobt
    have hkl := (List.getElem?_eq_some_iff.1 hr).1
    have hul2 : ∀ {L : List (Nat × Obj)} {w : World}, Step [] L w0 w → w.cell? ⟨bg, 0, none⟩ = some (.slice (some ⟨bu, 0, none⟩) R.length cu) := fun hs => by
     rw [cell_blk (o.fs (hlw hs)), ← huu]
     rfl
    have hat2 := fun {w} hw => rat_spec (w0 := w) (p := q) o sn hw
    simp only [atI_some hk] at hat2
    rcases hrc with ⟨hrd, hF, hD⟩ | ⟨hrd, hF⟩
    ·rw [hF, if_neg (by simp), if_neg hD] at hz2
     repeat (first | refine cQ ?_ | refine cK ?_)
     refine cR <| wm rfl <| wV rfl (run_lenSl underlying88 rfl) <| wV rfl (run_bF (run_gtr rfl rfl) (by omega)) <| wZ ?_
     refine cC rfl (fun h => ?_) (fun h => ?_)
     ·cases h
     repeat (first | refine cQ ?_ | refine cK ?_)
     refine CW.quiet mixedP (by kernel_rfl) hs ?_
     refine qm rfl <| qn rfl rfl <| qV rfl (fun w hs => run_field (o' := 0) underlying34 rfl ty22 rfl rfl rfl) <| qV rfl (fun w hs => run_load1 ty22 rfl (hul2 hs)) <| qm rfl <| qm rfl ?_
     refine QL.enter rfl (fun w => run_call en60 rfl rfl) (fun w hs => hat2 (hlw hs)) ?_
     refine qV rfl (fun w hs => run_ixSlN underlying22 ty56 rfl rfl (by omega)) <| qV rfl (fun w hs => run_field (o' := 1) underlying56 rfl ty4 rfl rfl rfl) ?_
     refine qV rfl (fun w hs => run_load1 ty4 rfl (((hcell (hlw hs)).cell (j := 1) (v := .bool true) (by rw [← hrd]; rfl)))) ?_
     refine qV rfl (fun w hs => run_not rfl) ?_
     refine QL.nil (fun w hs => ?_)
     refine cC rfl (fun h => ?_) (fun h => ?_)
     ·cases h
     refine cK ?_
     exact ⟨rfl, hz2, hs.clear, rfl, rfl, trivial⟩
    ·rw [if_pos hF] at hz2
     repeat (first | refine cQ ?_ | refine cK ?_)
     refine cR <| wm rfl <| wV rfl (run_lenSl underlying88 rfl) <| wV rfl (run_bF (run_gtr rfl rfl) (by omega)) <| wZ ?_
     refine cC rfl (fun h => ?_) (fun h => ?_)
     ·cases h
     repeat (first | refine cQ ?_ | refine cK ?_)
     refine CW.quiet mixedP (by kernel_rfl) hs ?_
     refine qm rfl <| qn rfl rfl <| qV rfl (fun w hs => run_field (o' := 0) underlying34 rfl ty22 rfl rfl rfl) <| qV rfl (fun w hs => run_load1 ty22 rfl (hul2 hs)) <| qm rfl <| qm rfl ?_
     refine QL.enter rfl (fun w => run_call en60 rfl rfl) (fun w hs => hat2 (hlw hs)) ?_
     refine qV rfl (fun w hs => run_ixSlN underlying22 ty56 rfl rfl (by omega)) <| qV rfl (fun w hs => run_field (o' := 1) underlying56 rfl ty4 rfl rfl rfl) ?_
     refine qV rfl (fun w hs => run_load1 ty4 rfl (((hcell (hlw hs)).cell (j := 1) (v := .bool false) (by rw [← hrd]; rfl)))) ?_
     refine qV rfl (fun w hs => run_not rfl) ?_
     refine QL.nil (fun w hs => ?_)
     refine cC rfl (fun h => ?_) (fun h => ?_)
     ·refine cQ <| cR <| wa rfl <| wa rfl <| wZ ?_
      refine CW.ret ?_
      refine fin_ret2 rfl ?_
      rw [hz2]
      exact ⟨_, [], rfl, .nil _ _, hs.clear⟩
     ·cases h
   ·rw [hk, Option.isNone_none, if_pos rfl] at hmsE
    have hml : ms.length = 1 := by rw [hmsE]; rfl
    rw [hF, if_neg (by simp), if_pos hD] at hz2
    repeat (first | refine cQ ?_ | refine cK ?_)
    refine cR <| wm rfl <| wV rfl (run_lenSl underlying88 rfl) <| wV rfl (run_bT (run_gtr rfl rfl) (by omega)) <| wZ ?_
    refine cC rfl (fun h => ?_) (fun h => ?_)
    ·refine cQ <| cR <| wa rfl <| wa rfl <| wZ ?_
     refine CW.ret ?_
     refine fin_ret2 rfl ?_
     rw [hz2]
     exact ⟨_, [], rfl, .nil _ _, hs.clear⟩
    ·cases h
 clear hs hz2
 rintro f w ⟨hz2, hs, hf⟩
 have hobt := hf.chain
 obtain ⟨g, rfl⟩ := hobt
 refine cQ <| cR <| wa rfl <| wZ <| cQ <| cQ <| cR <| wa rfl <| wZ <| CW.block ?_
 refine CW.loop (fun m f w => ∃ i v9 L9, i ≤ R.length ∧ m = R.length - i ∧ (listTo s q i).length ≤ i ∧ OwnSl 9 1 v9 (listTo s q i).length (strs (listTo s q i)) L9 ∧ Step [] L9 w0 w ∧ Holds f [(0, .pointer (some ⟨bg, 0, none⟩)), (6, str q), (10, v9), (11, .int .i64 (i : Nat))]) (m := R.length) ?_ ?_
 ·exact ⟨0, _, [], by omega, by omega, by simp [listTo], .nil _ _, hs, rfl, rfl, rfl, rfl, trivial⟩
 clear hs
 rintro m f w ⟨i, v9, L9, hi, rfl, hal, hv9, hs, hf⟩
 have hobt := hf.chain
 obtain ⟨g, rfl⟩ := hobt
 by_cases hlt : i < R.length
 ·have hobt : ∃ x, s.itemsL[i]? = some x := ⟨_, List.getElem?_eq_getElem (by omega)⟩
  obtain ⟨x, hx⟩ := hobt
  have hobt := o.row hx
  obtain ⟨r, hr, hrp, hrd, _⟩ := hobt
  have hobt := o.cells hr
  obtain ⟨b, c, huq, hcell⟩ := hobt
  have hobt := item_flag t (List.mem_of_getElem? hx)
  obtain ⟨hfl, hxc, hx0, hx2⟩ := hobt
  have hrpl := r.hp
  rw [hrp] at hrpl
  have hst := listTo_step (q := q) hx
  have hul2 : ∀ {L : List (Nat × Obj)} {w : World}, Step [] L w0 w → w.cell? ⟨bg, 0, none⟩ = some (.slice (some ⟨b, 0, none⟩) R.length c) := fun hs => by
   rw [cell_blk (o.fs (hlw hs)), ← huq]
   rfl
  have hspl := fun w => refSplit_spec (p := x.1) w (by omega)
  have hnl := nameL_len hxc hx0
  unfold nameL at hnl
  have hin : inL x.1 q = decide ((splitR x.1).1 = q) := by
   unfold inL
   simp [hx2]
  have hne : s.nameE x = if x.2.1 = true then (splitR x.1).2.1 ++ [47] else (splitR x.1).2.1 := by
   unfold VS.nameE nameL
   rw [hfl]
  have hobt : ∃ up nm e, splitR x.1 = (up, nm, e) := ⟨_, _, _, rfl⟩
  obtain ⟨up, nm, e, hsp⟩ := hobt
  simp only [hsp] at hspl hin hne hnl
  have hobt : ∃ d, x.2.1 = d := ⟨_, rfl⟩
  obtain ⟨xd, hxd⟩ := hobt
  rw [hxd] at hne hrd
  by_cases hd : up = q
  ·have hin1 : inL x.1 q = true := by rw [hin]; exact decide_eq_true hd
   rw [if_pos hin1] at hst
   have hll : (listTo s q (i + 1)).length = (listTo s q i).length + 1 := by rw [hst]; simp
   have hss : strs (listTo s q (i + 1)) = strs (listTo s q i) ++ [str (s.nameE x)] := by rw [hst]; simp [strs]
   cases xd with
   | true =>
    rw [if_pos rfl] at hne
    refine cQ <| cQ <| cR <| wm rfl <| wm rfl <| wn rfl rfl <| wV rfl (run_field (o' := 0) underlying34 rfl ty22 rfl rfl rfl) <| wV rfl (run_load1 ty22 rfl (hul hs)) <| wV rfl (run_lenSl underlying22 rfl) <| wV rfl (run_bT (run_lss rfl rfl) (by omega)) <| wZ ?_
    refine cC rfl (fun h => ?_) (fun h => ?_)
    ·repeat (first | refine cQ ?_ | refine CW.block ?_ | refine cK ?_)
     refine cR <| wm rfl <| wn rfl rfl <| wV rfl (run_field (o' := 0) underlying34 rfl ty22 rfl rfl rfl) <| wV rfl (run_load1 ty22 rfl (hul2 hs)) <| wm rfl <| wV rfl (run_ixSlN underlying22 ty56 rfl rfl (by omega)) <| wV rfl (run_field (o' := 0) underlying56 rfl ty9 rfl rfl rfl) <| wV rfl (run_load1 ty9 rfl (((hcell (hlw hs)).cell (j := 0) (v := str x.1) (by rw [← hrp]; rfl)))) ?_
     refine wE rfl (run_call en61 rfl rfl) (hspl _) ?_
     rintro e w ⟨rfl, hq⟩
     refine ⟨_, rfl, ?_⟩
     replace hs := hs.callE hq
     refine wm rfl <| wx rfl rfl rfl <| wx rfl rfl rfl <| wx rfl rfl rfl <| wa rfl <| wa rfl <| wa rfl <| wZ <| cQ <| cQ <| cR <| wm rfl <| wm rfl <| wV rfl (run_bF (run_strNe rfl rfl) (by exact fun h => h hd)) <| wZ ?_
     refine cC rfl (fun h => ?_) (fun h => ?_)
     ·cases h
     repeat (first | refine cQ ?_ | refine cK ?_)
     refine cR <| wm rfl <| wn rfl rfl <| wV rfl (run_field (o' := 0) underlying34 rfl ty22 rfl rfl rfl) <| wV rfl (run_load1 ty22 rfl (hul2 hs)) <| wm rfl <| wV rfl (run_ixSlN underlying22 ty56 rfl rfl (by omega)) <| wV rfl (run_field (o' := 1) underlying56 rfl ty4 rfl rfl rfl) <| wV rfl (run_load1 ty4 rfl (((hcell (hlw hs)).cell (j := 1) (v := .bool true) (by rw [← hrd]; rfl)))) <| wZ ?_
     refine cC rfl (fun h => ?_) (fun h => ?_)
     ·skip
      refine cR <| wm rfl <| wV rfl (run_strAdd rfl rfl ((by simp; omega))) <| wa rfl <| wZ <| cR <| wm rfl <| wm rfl ?_
      refine WL.buildSlice (cs := [str (nm ++ [47])]) underlying88 ty9 rfl (by decide) rfl (filled_s _ _ rfl) rfl hs (fun b85 w hs => ?_)
      have hsl1 : Sl w 1 (.slice (some ⟨b85, 0, none⟩) 1 1) 1 [str (nm ++ [47])] := .own1 hs rfl
      refine WL.append underlying88 underlying88 ty9 rfl (by decide) rfl rfl (hv9) ((hs.perm perm_ql1)) (hsl1) (Cells1.of_all rfl) (by first | omega | (simp only [List.length_append, List.length_cons, List.length_nil]; omega)) rfl (fun v86 Lv86 w hv86 hs => ?_)
      refine wa rfl <| wZ ?_
      rw [← hne, ← hss] at hv86
      replace hs := (hs.perm perm_ql1.symm).tail
      refine cR <| wm rfl <| wV rfl (run_add (c := ((i + 1 : Nat) : Int)) rfl rfl (by omega) (by omega)) <| wa rfl <| wZ ?_
      refine (show _ ∧ _ from ⟨rfl, _, ?_, i + 1, v86, Lv86, by omega, rfl, by omega, by rw [hll]; exact hv86, hs, rfl, rfl, rfl, rfl, trivial⟩)
      omega
     ·cases h
    ·cases h
   | false =>
    rw [if_neg (by simp)] at hne
    refine cQ <| cQ <| cR <| wm rfl <| wm rfl <| wn rfl rfl <| wV rfl (run_field (o' := 0) underlying34 rfl ty22 rfl rfl rfl) <| wV rfl (run_load1 ty22 rfl (hul hs)) <| wV rfl (run_lenSl underlying22 rfl) <| wV rfl (run_bT (run_lss rfl rfl) (by omega)) <| wZ ?_
    refine cC rfl (fun h => ?_) (fun h => ?_)
    ·repeat (first | refine cQ ?_ | refine CW.block ?_ | refine cK ?_)
     refine cR <| wm rfl <| wn rfl rfl <| wV rfl (run_field (o' := 0) underlying34 rfl ty22 rfl rfl rfl) <| wV rfl (run_load1 ty22 rfl (hul2 hs)) <| wm rfl <| wV rfl (run_ixSlN underlying22 ty56 rfl rfl (by omega)) <| wV rfl (run_field (o' := 0) underlying56 rfl ty9 rfl rfl rfl) <| wV rfl (run_load1 ty9 rfl (((hcell (hlw hs)).cell (j := 0) (v := str x.1) (by rw [← hrp]; rfl)))) ?_
     refine wE rfl (run_call en61 rfl rfl) (hspl _) ?_
     rintro e w ⟨rfl, hq⟩
     refine ⟨_, rfl, ?_⟩
     replace hs := hs.callE hq
     refine wm rfl <| wx rfl rfl rfl <| wx rfl rfl rfl <| wx rfl rfl rfl <| wa rfl <| wa rfl <| wa rfl <| wZ <| cQ <| cQ <| cR <| wm rfl <| wm rfl <| wV rfl (run_bF (run_strNe rfl rfl) (by exact fun h => h hd)) <| wZ ?_
     refine cC rfl (fun h => ?_) (fun h => ?_)
     ·cases h
     repeat (first | refine cQ ?_ | refine cK ?_)
     refine cR <| wm rfl <| wn rfl rfl <| wV rfl (run_field (o' := 0) underlying34 rfl ty22 rfl rfl rfl) <| wV rfl (run_load1 ty22 rfl (hul2 hs)) <| wm rfl <| wV rfl (run_ixSlN underlying22 ty56 rfl rfl (by omega)) <| wV rfl (run_field (o' := 1) underlying56 rfl ty4 rfl rfl rfl) <| wV rfl (run_load1 ty4 rfl (((hcell (hlw hs)).cell (j := 1) (v := .bool false) (by rw [← hrd]; rfl)))) <| wZ ?_
     refine cC rfl (fun h => ?_) (fun h => ?_)
     ·cases h
     refine cK <| cR <| wm rfl <| wm rfl ?_
     refine WL.buildSlice (cs := [str nm]) underlying88 ty9 rfl (by decide) rfl (filled_s _ _ rfl) rfl hs (fun b85 w hs => ?_)
     have hsl1 : Sl w 1 (.slice (some ⟨b85, 0, none⟩) 1 1) 1 [str nm] := .own1 hs rfl
     refine WL.append underlying88 underlying88 ty9 rfl (by decide) rfl rfl (hv9) ((hs.perm perm_ql1)) (hsl1) (Cells1.of_all rfl) (by first | omega | (simp only [List.length_append, List.length_cons, List.length_nil]; omega)) rfl (fun v86 Lv86 w hv86 hs => ?_)
     refine wa rfl <| wZ ?_
     rw [← hne, ← hss] at hv86
     replace hs := (hs.perm perm_ql1.symm).tail
     refine cR <| wm rfl <| wV rfl (run_add (c := ((i + 1 : Nat) : Int)) rfl rfl (by omega) (by omega)) <| wa rfl <| wZ ?_
     refine (show _ ∧ _ from ⟨rfl, _, ?_, i + 1, v86, Lv86, by omega, rfl, by omega, by rw [hll]; exact hv86, hs, rfl, rfl, rfl, rfl, trivial⟩)
     omega
    ·cases h
  ·have hin1 : ¬ inL x.1 q = true := by rw [hin]; simpa using hd
   rw [if_neg hin1, List.append_nil] at hst
   refine cQ <| cQ <| cR <| wm rfl <| wm rfl <| wn rfl rfl <| wV rfl (run_field (o' := 0) underlying34 rfl ty22 rfl rfl rfl) <| wV rfl (run_load1 ty22 rfl (hul hs)) <| wV rfl (run_lenSl underlying22 rfl) <| wV rfl (run_bT (run_lss rfl rfl) (by omega)) <| wZ ?_
   refine cC rfl (fun h => ?_) (fun h => ?_)
   ·repeat (first | refine cQ ?_ | refine CW.block ?_ | refine cK ?_)
    refine cR <| wm rfl <| wn rfl rfl <| wV rfl (run_field (o' := 0) underlying34 rfl ty22 rfl rfl rfl) <| wV rfl (run_load1 ty22 rfl (hul2 hs)) <| wm rfl <| wV rfl (run_ixSlN underlying22 ty56 rfl rfl (by omega)) <| wV rfl (run_field (o' := 0) underlying56 rfl ty9 rfl rfl rfl) <| wV rfl (run_load1 ty9 rfl (((hcell (hlw hs)).cell (j := 0) (v := str x.1) (by rw [← hrp]; rfl)))) ?_
    refine wE rfl (run_call en61 rfl rfl) (hspl _) ?_
    rintro e w ⟨rfl, hq⟩
    refine ⟨_, rfl, ?_⟩
    replace hs := hs.callE hq
    refine wm rfl <| wx rfl rfl rfl <| wx rfl rfl rfl <| wx rfl rfl rfl <| wa rfl <| wa rfl <| wa rfl <| wZ <| cQ <| cQ <| cR <| wm rfl <| wm rfl <| wV rfl (run_bT (run_strNe rfl rfl) (by exact hd)) <| wZ ?_
    refine cC rfl (fun h => ?_) (fun h => ?_)
    ·refine CW.exit <| cR <| wm rfl <| wV rfl (run_add (c := ((i + 1 : Nat) : Int)) rfl rfl (by omega) (by omega)) <| wa rfl <| wZ ?_
     refine (show _ ∧ _ from ⟨rfl, _, ?_, i + 1, v9, L9, by omega, rfl, by rw [hst]; omega, by rw [hst]; exact hv9, hs, rfl, rfl, rfl, rfl, trivial⟩)
     omega
    ·cases h
   ·cases h
 ·have hall : listTo s q i = s.listN q := by
   unfold listTo VS.listN
   rw [List.take_of_length_le (by omega)]
  rw [hall] at hv9
  refine cQ <| cQ <| cR <| wm rfl <| wm rfl <| wn rfl rfl <| wV rfl (run_field (o' := 0) underlying34 rfl ty22 rfl rfl rfl) <| wV rfl (run_load1 ty22 rfl (hul hs)) <| wV rfl (run_lenSl underlying22 rfl) <| wV rfl (run_bF (run_lss rfl rfl) (by omega)) <| wZ ?_
  refine cC rfl (fun h => ?_) (fun h => ?_)
  ·cases h
  repeat (first | refine cQ ?_ | refine CW.exit ?_)
  refine cR <| wm rfl <| wa rfl <| wa rfl <| wZ ?_
  refine CW.ret ?_
  refine fin_ret2 rfl ?_
  rw [hz2]
  exact ⟨v9, L9, rfl, hv9, hs⟩
end
end Go.Gx
/-! Vq16 -/
namespace Go.Gx
open Go.Proofs Go.Proofs.Tryz Go.RowKit
set_option maxRecDepth 100000
set_option maxHeartbeats 2000000 in
theorem sameTexts_spec {u u' : Value} {l : List (List UInt8)} (w0 : World) (hu : Sl w0 1 u l.length (strs l)) (hu' : Sl w0 1 u' l.length (strs l)) (hn : l.length ≤ 2000000) : Calls Tryz.prog 38 #[u, u'] w0 (Ret0 (.bool true) w0) := by
 have hs : Step [] [] w0 w0 := Step.refl w0
 have hobt := hu.form
 obtain ⟨a1, c1, rfl⟩ := hobt
 have hobt := hu'.form
 obtain ⟨a2, c2, rfl⟩ := hobt
 refine calls (n := 26) Tryz.func38 rfl rfl rfl ?_
 refine cQ <| cR <| wa rfl <| wZ <| cQ <| cQ <| cR <| wm rfl <| wV rfl (run_lenSl underlying88 rfl) <| wm rfl <| wV rfl (run_lenSl underlying88 rfl) <| wV rfl (run_bF (run_neq rfl rfl) (by exact fun h => h rfl)) <| wZ ?_
 refine cC rfl (fun h => ?_) (fun h => ?_)
 ·cases h
 repeat (first | refine cQ ?_ | refine cK ?_)
 refine cR <| wa rfl <| wZ <| CW.block ?_
 refine CW.loop (fun m f w' => ∃ i, i ≤ l.length ∧ m = l.length - i ∧ Step [] [] w0 w' ∧ Holds f [(0, .slice a1 l.length c1), (1, .slice a2 l.length c2), (5, .int .i64 i)]) (m := l.length) ?_ ?_
 ·exact ⟨0, by omega, by omega, Step.refl _, rfl, rfl, rfl, trivial⟩
 clear hs
 rintro m f w' ⟨i, hi, rfl, hs, hf⟩
 have hobt := hf.chain
 obtain ⟨g, rfl⟩ := hobt
 by_cases hlt : i < l.length
 ·have hobt := str_in hu hlt
  obtain ⟨b1, o1, rfl, h1⟩ := hobt
  have hobt := str_in hu' hlt
  obtain ⟨b2, o2, rfl, h2⟩ := hobt
  refine cQ <| cQ <| cR <| wm rfl <| wm rfl <| wV rfl (run_lenSl underlying88 rfl) <| wV rfl (run_bT (run_lss rfl rfl) (by omega)) <| wZ ?_
  refine cC rfl (fun h => ?_) (fun h => ?_)
  ·repeat (first | refine cQ ?_ | refine CW.block ?_ | refine cK ?_)
   refine CW.quiet mixedP (by kernel_rfl) hs ?_
   refine qm rfl <| qm rfl <| qV rfl (fun w hs => run_ixSlN underlying88 ty9 rfl rfl (by omega)) <| qV rfl (fun w hs => run_load1 ty9 rfl ((h1 _ _ hs))) <| qm rfl <| qm rfl <| qV rfl (fun w hs => run_ixSlN underlying88 ty9 rfl rfl (by omega)) <| qV rfl (fun w hs => run_load1 ty9 rfl ((h2 _ _ hs))) <| qV rfl (fun w hs => run_bF (run_strNe rfl rfl) (by exact fun h => h rfl)) ?_
   refine QL.nil (fun w hs => ?_)
   refine cC rfl (fun h => ?_) (fun h => ?_)
   ·cases h
   refine cK <| cR <| wm rfl <| wV rfl (run_add (c := ((i + 1 : Nat) : Int)) rfl rfl (by omega) (by omega)) <| wa rfl <| wZ ?_
   refine (show _ ∧ _ from ⟨rfl, _, ?_, i + 1, by omega, rfl, hs, rfl, rfl, rfl, trivial⟩)
   omega
  ·cases h
 ·refine cQ <| cQ <| cR <| wm rfl <| wm rfl <| wV rfl (run_lenSl underlying88 rfl) <| wV rfl (run_bF (run_lss rfl rfl) (by omega)) <| wZ ?_
  refine cC rfl (fun h => ?_) (fun h => ?_)
  ·cases h
  repeat (first | refine cQ ?_ | refine CW.exit ?_)
  refine cR <| wa rfl <| wZ ?_
  refine CW.ret ?_
  refine fin_ret1 rfl ?_
  exact ⟨rfl, hs⟩
theorem wrap8_nat (n : Nat) : IntKind.u8.wrap (n : Int) = ((n % 256 : Nat) : Int) := by
 unfold IntKind.wrap
 simp only [IntKind.bits, IntKind.signed, Bool.false_and, Bool.false_eq_true, if_false]
 have : (2 : Int) ^ 8 = ((256 : Nat) : Int) := by decide
 rw [this, Int.natCast_emod]
theorem used_i64 {s : VS} (ok : s.Ok) : i64s (s.by_ : Nat) ∧ i64s (s.items : Nat) ∧ i64s (s.op : Nat) := by
 have h1 := ok.by_
 have h2 := ok.f
 have h3 := ok.d
 have h4 := ok.op
 have h5 : s.items ≤ 131072 := by unfold VS.items; omega
 unfold i64s
 omega
section
variable {P : Program} {f : Slots} {w : World} {d : Option Tmp} {ty : TypeId} {pos : String} {af : Array Edge} {x y : Operand} {T T' : TypeId} {a b : UInt8}
theorem run_xor8 (hx : ev f x = .int .u8 a.toNat) (hy : ev f y = .int .u8 b.toNat) : (execOp (ev f) ⟨d, .binOp .xor T x y T', ty, pos, af, none⟩).run P w = .ok (.value (.int .u8 (a ^^^ b).toNat)) w := by
 have ha : BitVec.ofInt 8 ((a.toNat : Nat) : Int) = a.toBitVec := by
  rw [BitVec.ofInt_natCast]
  simp
 have hb : BitVec.ofInt 8 ((b.toNat : Nat) : Int) = b.toBitVec := by
  rw [BitVec.ofInt_natCast]
  simp
 have hl := wrap8_nat (a ^^^ b).toNat
 rw [Nat.mod_eq_of_lt (UInt8.toNat_lt _)] at hl
 simp [execOp, hx, hy, go_sem, Op.intBits, IntKind.bits, ha, hb]
 have hl2 : IntKind.u8.wrap (((a.toBitVec ^^^ b.toBitVec).toNat : Nat) : Int) = ((a.toNat ^^^ b.toNat : Nat) : Int) := by
  rw [show (a.toBitVec ^^^ b.toBitVec).toNat = a.toNat ^^^ b.toNat from BitVec.toNat_xor _ _]
  simpa using hl
 exact hl2
end
section
variable {α : Type} {x y z : α} {l m n c a b d : List α}
theorem perm_td1 : (l ++ (m ++ c)).Perm (m ++ (l ++ c)) := by
 classical
 exact List.perm_iff_count.2 fun z => by
  simp only [List.count_append]
  omega
theorem perm_td2 : ((a ++ b) ++ ((l ++ m) ++ c)).Perm ((a ++ (l ++ c)) ++ (m ++ b)) := by
 classical
 exact List.perm_iff_count.2 fun z => by
  simp only [List.count_append]
  omega
theorem perm_td3 : (x :: (l ++ (m ++ c))).Perm (l ++ (m ++ (x :: c))) := by
 classical
 exact List.perm_iff_count.2 fun z => by
  simp only [List.count_append, List.count_cons]
  omega
theorem perm_td4 : (l ++ (m ++ (x :: c))).Perm (x :: (l ++ (m ++ c))) := perm_td3.symm
end
theorem bld_stp (k h : Int) (w : World) : (Instr.build 40 #[(0, .int .i64 k), (1, .int .i64 h)]).run Tryz.prog w = .ok (.agg #[.int .i64 k, .int .i64 h, .int .i64 0, str [], .slice none 0 0]) w := by kernel_rfl
theorem bld_stp0 (k : Int) (w : World) : (Instr.build 40 #[(0, .int .i64 k)]).run Tryz.prog w = .ok (.agg #[.int .i64 k, .int .i64 0, .int .i64 0, str [], .slice none 0 0]) w := by kernel_rfl
theorem list_n {s : VS} (sn : s.Sane) (p : List UInt8) : (s.list p).1.length ≤ 2000000 := by
 have h : ∀ q, (s.listN q).length ≤ 2000000 := fun q => by
  unfold VS.listN
  rw [List.length_map]
  have h1 := List.length_filter_le (fun t : Tri => inL t.1 q) s.itemsL
  have h2 := itemsL_n sn
  omega
 unfold VS.list
 split
 ·simp
 split
 ·simp
 split
 ·simp
 split
 ·simp
 exact h _
section
variable {bf bg : Nat} {s : VS} {L A : List (Nat × Obj)} {w0 : World}
set_option maxHeartbeats 4000000 in
theorem told10_spec (hR : VRep bf s L) (hG : RRep bg s A) (sn : s.Sane) (t : s.Tree) (hwL : ∀ p ∈ L, w0.heap[p.1]? = some p.2) (hwA : ∀ p ∈ A, w0.heap[p.1]? = some p.2) {h n : Int} {p : List UInt8} {a : Option Addr} {m c : Nat} : Calls Tryz.prog 12 #[.pointer (some ⟨bf, 0, none⟩), .pointer (some ⟨bg, 0, none⟩), .agg #[.int .i64 10, .int .i64 h, .int .i64 n, str p, .slice a m c]] w0 (Ret0 (.bool true) w0) := by
 have hs : Step [] [] w0 w0 := Step.refl w0
 obtain ⟨mf, md, vh, Lh, Fs, Ds, Hs, o⟩ := hR
 obtain ⟨u, uh, R, Lu, Lh2, o'⟩ := hG
 have hpl := fun {A w} (hs : Step [] A w0 w) => place_spec (w0 := w) (h := h) o sn.ok fun p hp => hs.old (hwL p hp) (by simp)
 have hpl2 := fun {A w} (hs : Step [] A w0 w) => rPlace_spec (w0 := w) (h := h) o' sn t fun p hp => hs.old (hwA p hp) (by simp)
 have hobt : ∃ pp pn pe, s.place h = (pp, pn, pe) := ⟨_, _, _, rfl⟩
 obtain ⟨pp, pn, pe, hpe⟩ := hobt
 simp only [hpe] at hpl hpl2
 refine calls (n := 265) Tryz.func12 rfl rfl rfl ?_
 refine cQ <| cR ?_
 refine WL.box (cs := [.int .i64 10, .int .i64 h, .int .i64 n, str p, .slice a m c]) rfl rfl rfl hs (fun b5 w hs => ?_)
 refine wa rfl <| wZ <| cQ <| cQ <| cR <| wV rfl (run_field (o' := 0) underlying40 rfl ty3 rfl rfl rfl) <| wV rfl (run_load1 ty3 rfl (hs.c0 rfl)) <| wZ ?_
 repeat (first | refine cQ ?_ | refine CW.block ?_)
 refine cR <| wV rfl (run_bF (run_eql rfl rfl) (by decide)) <| wa rfl <| wZ ?_
 refine cC rfl (fun hc => ?_) (fun hc => ?_)
 ·cases hc
 refine cQ <| cR <| wV rfl (run_bF (run_eql rfl rfl) (by decide)) <| wa rfl <| wZ ?_
 refine cC rfl (fun hc => ?_) (fun hc => ?_)
 ·cases hc
 refine cQ <| cR <| wV rfl (run_bF (run_eql rfl rfl) (by decide)) <| wa rfl <| wZ ?_
 refine cC rfl (fun hc => ?_) (fun hc => ?_)
 ·cases hc
 refine cQ <| cR <| wV rfl (run_bF (run_eql rfl rfl) (by decide)) <| wa rfl <| wZ ?_
 refine cC rfl (fun hc => ?_) (fun hc => ?_)
 ·cases hc
 refine cQ <| cR <| wV rfl (run_bF (run_eql rfl rfl) (by decide)) <| wa rfl <| wZ ?_
 refine cC rfl (fun hc => ?_) (fun hc => ?_)
 ·cases hc
 refine cQ <| cR <| wV rfl (run_bF (run_eql rfl rfl) (by decide)) <| wa rfl <| wZ ?_
 refine cC rfl (fun hc => ?_) (fun hc => ?_)
 ·cases hc
 refine cQ <| cR <| wV rfl (run_bF (run_eql rfl rfl) (by decide)) <| wa rfl <| wZ ?_
 refine cC rfl (fun hc => ?_) (fun hc => ?_)
 ·cases hc
 refine cQ <| cR <| wV rfl (run_bF (run_eql rfl rfl) (by decide)) <| wa rfl <| wZ ?_
 refine cC rfl (fun hc => ?_) (fun hc => ?_)
 ·cases hc
 refine cQ <| cR <| wV rfl (run_bF (run_eql rfl rfl) (by decide)) <| wa rfl <| wZ ?_
 refine cC rfl (fun hc => ?_) (fun hc => ?_)
 ·cases hc
 refine cQ <| cR <| wV rfl (run_bT (run_eql rfl rfl) (by decide)) <| wa rfl <| wZ ?_
 refine cC rfl (fun hc => ?_) (fun hc => ?_)
 ·refine cQ <| cR <| wm rfl <| wV rfl (run_field (o' := 1) underlying40 rfl ty3 rfl rfl rfl) <| wV rfl (run_load1 ty3 rfl (hs.c0 rfl)) ?_
  refine wE rfl (run_call en41 rfl rfl) (hpl hs) ?_
  rintro e w ⟨rfl, hq⟩
  refine ⟨_, rfl, ?_⟩
  replace hs := hs.callE hq
  refine wm rfl <| wx rfl rfl rfl <| wx rfl rfl rfl <| wx rfl rfl rfl <| wa rfl <| wa rfl <| wa rfl <| wZ <| cQ <| cR <| wm rfl <| wV rfl (run_field (o' := 1) underlying40 rfl ty3 rfl rfl rfl) <| wV rfl (run_load1 ty3 rfl (hs.c0 rfl)) ?_
  refine wE rfl (run_call en42 rfl rfl) (hpl2 hs) ?_
  rintro e w ⟨rfl, hq⟩
  refine ⟨_, rfl, ?_⟩
  replace hs := hs.callE hq
  refine wm rfl <| wx rfl rfl rfl <| wx rfl rfl rfl <| wx rfl rfl rfl <| wa rfl <| wa rfl <| wa rfl <| wZ <| cQ <| cR <| wm rfl <| wm rfl <| wV rfl (run_bT (run_strEq rfl rfl) (by rfl)) <| wm rfl <| WL.yes rfl rfl rfl <| wm rfl <| WL.yes rfl rfl rfl <| wm rfl <| WL.yes rfl rfl rfl <| wV rfl (run_bT (run_eql rfl rfl) (by rfl)) <| wV rfl (run_pickT rfl) <| wm rfl <| WL.yes rfl rfl rfl <| wm rfl <| WL.yes rfl rfl rfl <| wm rfl <| WL.yes rfl rfl rfl <| wV rfl (run_bT (run_eql rfl rfl) (by rfl)) <| wV rfl (run_pickT rfl) <| wa rfl <| wZ ?_
  refine CW.ret ?_
  refine fin_ret1 rfl ?_
  exact ⟨rfl, hs.clear⟩
 ·cases hc
set_option maxHeartbeats 16000000 in
theorem told_spec (hR : VRep bf s L) (hG : RRep bg s A) (sn : s.Sane) (t : s.Tree) (q : s.Quo) (hg : Gl w0) (h0 : 0 ∉ (L ++ A).map (·.1)) (hw : Step ((L ++ A).map (·.1)) (L ++ A) w0 w0) {x : Stv} (hx : x.Ok w0) (hbB : x.b.length ≤ 1048576) (hv : ∀ {L' w}, Step ((L ++ A).map (·.1)) L' w0 w → Sl w 1 x.v x.b.length (u8s x.b)) : Calls Tryz.prog 12 #[.pointer (some ⟨bf, 0, none⟩), .pointer (some ⟨bg, 0, none⟩), .agg x.cells.toArray] w0 fun e w' => ∃ L' A', e = .returned (.bool true) ∧ VRep bf (s.doS x).1 L' ∧ RRep bg (s.doS x).1 A' ∧ Step ((L ++ A).map (·.1)) (L' ++ A') w0 w' := by
 have hs : Step ((L ++ A).map (·.1)) (L ++ A) w0 w0 := hw
 have hc1 := Stv.cells1 hx
 have hke := do_keeps sn t x
 obtain ⟨sn2, t2⟩ := hke
 obtain ⟨k, h, n, p, v, b⟩ := x
 have hobt := hx.hb.form
 obtain ⟨av, cv, hve⟩ := hobt
 have hve : v = .slice av b.length cv := hve
 subst hve
 have hk := hx.hk
 have hh := hx.hh
 have hn := hx.hn
 have hpl := hx.hp
 have hlb := hx.lb
 have hbB : b.length ≤ 1048576 := hbB
 have hR0 := hR
 have hG0 := hG
 have ok := sn.ok
 obtain ⟨mf, md, vh, Lh, Fs, Ds, Hs, o⟩ := hR
 obtain ⟨u, uh, R, Lu, Lg, o'⟩ := hG
 have hobt : ∃ S, (L ++ A).map (·.1) = S := ⟨_, rfl⟩
 obtain ⟨S, hS⟩ := hobt
 rw [hS] at hs h0 ⊢
 simp only [hS] at hv
 have hz0 : ∀ {X R : List (Nat × Obj)} {w : World}, Step S (X ++ R) w0 w → 0 ∉ X.map (·.1) := fun hs => hs.dropR.zero h0 hg
 by_cases h10 : k = 10
 ·have e1 : (s.doS ⟨k, h, n, p, .slice av b.length cv, b⟩).1 = s := by
   unfold VS.doS
   rw [if_neg (by show ¬ k = 1; omega), if_neg (by show ¬ k = 2; omega), if_neg (by show ¬ k = 4; omega), if_neg (by show ¬ k = 7; omega)]
  rw [e1]
  subst h10
  exact (told10_spec hR0 hG0 sn t (fun p hp => hs.has p (List.mem_append_left _ hp)) (fun p hp => hs.has p (List.mem_append_right _ hp)) (h := h) (n := n) (p := p)).mono fun e w' ⟨h1, h2⟩ => ⟨L, A, h1, hR0, hG0, hs.callE h2⟩
 refine calls (n := 265) Tryz.func12 rfl rfl rfl ?_
 refine cQ <| cR ?_
 refine WL.box (cs := [.int .i64 k, .int .i64 h, .int .i64 n, str p, .slice av b.length cv]) rfl rfl rfl hs (fun b5 w hs => ?_)
 refine wa rfl <| wZ ?_
 have hobt : ∃ C, (b5, blk 40 [.int .i64 k, .int .i64 h, .int .i64 n, str p, .slice av b.length cv]) = C := ⟨_, rfl⟩
 obtain ⟨C, hC⟩ := hobt
 have hs9 : Step S (L ++ (A ++ [C])) w0 w := by
  rw [← hC]
  exact (show Step S ((b5, blk 40 [.int .i64 k, .int .i64 h, .int .i64 n, str p, .slice av b.length cv]) :: (L ++ (A ++ []))) w0 w by rw [List.append_nil]; exact hs).perm perm_td3
 clear hs
 have hs := hs9
 clear hs9
 have hcell : ∀ {X : List (Nat × Obj)} {w : World}, Step S X w0 w → C ∈ X → At w b5 0 [.int .i64 k, .int .i64 h, .int .i64 n, str p, .slice av b.length cv] := fun {X w} hs hm => by
  rw [← hC] at hm
  exact At.of_blk (hs.has _ hm)
 have hfin : ∀ {X Y : List (Nat × Obj)} {w : World}, Step S (X ++ (Y ++ [C])) w0 w → Step S (X ++ Y) w0 w := fun hs => Step.dropR (L2 := [C]) (by rw [List.append_assoc]; exact hs)
 have hmL : ∀ {X : List (Nat × Obj)} {w : World}, Step S X w0 w → (∀ p ∈ L, p ∈ X) → ∀ p ∈ L, w.heap[p.1]? = some p.2 := fun hs hm p hp => hs.has p (hm p hp)
 have hmA : ∀ {X : List (Nat × Obj)} {w : World}, Step S X w0 w → (∀ p ∈ A, p ∈ X) → ∀ p ∈ A, w.heap[p.1]? = some p.2 := fun hs hm p hp => hs.has p (hm p hp)
 refine cQ <| cQ <| cR <| wV rfl (run_field (o' := 0) underlying40 rfl ty3 rfl rfl rfl) <| wV rfl (run_load1 ty3 rfl ((hcell hs (by simp)).cell (j := 0) rfl)) <| wZ ?_
 by_cases h1 : k = 1
 ·have e1 : (s.doS ⟨k, h, n, p, .slice av b.length cv, b⟩).1 = (s.open p n).2.2 := congrArg Prod.fst (if_pos h1)
  rw [e1]
  have hop := fun {w} hg h0 hw => open_spec (w0 := w) (p := p) (mode := n) hR0 sn hg h0 hw hpl
  have hop2 := fun {w} hw => rOpen_spec (w0 := w) (p := p) (mode := n) hG0 sn t hw hpl
  have hobt : ∃ r1 r2 s2, s.open p n = (r1, r2, s2) := ⟨_, _, _, rfl⟩
  obtain ⟨r1, r2, s2, hr⟩ := hobt
  simp only [hr] at hop hop2 ⊢
  repeat (first | refine cQ ?_ | refine CW.block ?_)
  refine cR <| wV rfl (run_bT (run_eql rfl rfl) (by exact h1)) <| wa rfl <| wZ ?_
  refine cC rfl (fun hc => ?_) (fun hc => ?_)
  ·refine cQ <| cR <| wm rfl <| wV rfl (run_field (o' := 3) underlying40 rfl ty9 rfl rfl rfl) <| wV rfl (run_load1 ty9 rfl ((hcell hs (by simp)).cell (j := 3) rfl)) <| wV rfl (run_field (o' := 2) underlying40 rfl ty3 rfl rfl rfl) <| wV rfl (run_load1 ty3 rfl ((hcell hs (by simp)).cell (j := 2) rfl)) ?_
   refine wE rfl (run_call en14 rfl rfl) (hop (hg.stepS hs h0) (hz0 hs) hs.own) ?_
   rintro e w ⟨L2, rfl, hR2, hq⟩
   refine ⟨_, rfl, ?_⟩
   replace hs := (hs.call hq).perm perm_td1
   refine wm rfl <| wx rfl rfl rfl <| wx rfl rfl rfl <| wa rfl <| wa rfl <| wZ <| cQ <| cR <| wm rfl <| wV rfl (run_field (o' := 3) underlying40 rfl ty9 rfl rfl rfl) <| wV rfl (run_load1 ty9 rfl ((hcell hs (by simp)).cell (j := 3) rfl)) <| wV rfl (run_field (o' := 2) underlying40 rfl ty3 rfl rfl rfl) <| wV rfl (run_load1 ty3 rfl ((hcell hs (by simp)).cell (j := 2) rfl)) ?_
   refine wE rfl (run_call en27 rfl rfl) (hop2 hs.own) ?_
   rintro e w ⟨A2, rfl, hG2, hq⟩
   refine ⟨_, rfl, ?_⟩
   replace hs := (hs.call hq).perm perm_td1
   refine wm rfl <| wx rfl rfl rfl <| wx rfl rfl rfl <| wa rfl <| wa rfl <| wZ <| cQ <| cR <| wm rfl <| wm rfl <| wV rfl (run_bT (run_eql rfl rfl) (by rfl)) <| wm rfl <| WL.yes rfl rfl rfl <| wm rfl <| WL.yes rfl rfl rfl <| wm rfl <| WL.yes rfl rfl rfl <| wV rfl (run_bT (run_eql rfl rfl) (by rfl)) <| wV rfl (run_pickT rfl) <| wa rfl <| wZ ?_
   refine CW.ret ?_
   refine fin_ret1 rfl ?_
   exact ⟨L2, A2, rfl, hR2, hG2, hfin hs⟩
  ·cases hc
 by_cases h2 : k = 2
 ·have e2 : (s.doS ⟨k, h, n, p, .slice av b.length cv, b⟩).1 = (s.read h n).2.2 := by unfold VS.doS; rw [if_neg h1, if_pos h2]
  rw [e2]
  have hrd := fun {w} hw => read_spec (w0 := w) (h := h) (n := n) hR0 ok hw hn
  have hrd2 := fun {w} hw => rRead_spec (w0 := w) (h := h) (n := n) hG0 sn t hw hn
  have hobt : ∃ r1 r2 s2, s.read h n = (r1, r2, s2) := ⟨_, _, _, rfl⟩
  obtain ⟨r1, r2, s2, hr⟩ := hobt
  simp only [hr] at hrd hrd2 ⊢
  repeat (first | refine cQ ?_ | refine CW.block ?_)
  refine cR <| wV rfl (run_bF (run_eql rfl rfl) (by exact h1)) <| wa rfl <| wZ ?_
  refine cC rfl (fun hc => ?_) (fun hc => ?_)
  ·cases hc
  refine cQ <| cR <| wV rfl (run_bT (run_eql rfl rfl) (by exact h2)) <| wa rfl <| wZ ?_
  refine cC rfl (fun hc => ?_) (fun hc => ?_)
  ·refine cQ <| cR <| wm rfl <| wV rfl (run_field (o' := 1) underlying40 rfl ty3 rfl rfl rfl) <| wV rfl (run_load1 ty3 rfl ((hcell hs (by simp)).cell (j := 1) rfl)) <| wV rfl (run_field (o' := 2) underlying40 rfl ty3 rfl rfl rfl) <| wV rfl (run_load1 ty3 rfl ((hcell hs (by simp)).cell (j := 2) rfl)) ?_
   refine wE rfl (run_call en16 rfl rfl) (hrd hs.own) ?_
   rintro e w ⟨v1, Lv1, L2, rfl, hv1, hR2, hq⟩
   refine ⟨_, rfl, ?_⟩
   replace hs := (hs.call hq).perm perm_td1
   have hf1 := hv1.form
   obtain ⟨a1, c1, he1⟩ := hf1
   subst he1
   refine wm rfl <| wx rfl rfl rfl <| wx rfl rfl rfl <| wa rfl <| wa rfl <| wZ <| cQ <| cR <| wm rfl <| wV rfl (run_field (o' := 1) underlying40 rfl ty3 rfl rfl rfl) <| wV rfl (run_load1 ty3 rfl ((hcell hs (by simp)).cell (j := 1) rfl)) <| wV rfl (run_field (o' := 2) underlying40 rfl ty3 rfl rfl rfl) <| wV rfl (run_load1 ty3 rfl ((hcell hs (by simp)).cell (j := 2) rfl)) ?_
   refine wE rfl (run_call en28 rfl rfl) (hrd2 hs.own) ?_
   rintro e w ⟨v2, Lv2, A2, rfl, hv2, hG2, hq⟩
   refine ⟨_, rfl, ?_⟩
   replace hs := hs.call hq
   have hf2 := hv2.form
   obtain ⟨a2, c2, he2⟩ := hf2
   subst he2
   refine wm rfl <| wx rfl rfl rfl <| wx rfl rfl rfl <| wa rfl <| wa rfl <| wZ <| cQ <| cR <| wm rfl <| wV rfl (run_toString underlying38 underlying9 underlying5 rfl (hv1.slW fun p hp => hs.has p (by simp [hp]))) <| wm rfl <| wV rfl (run_toString underlying38 underlying9 underlying5 rfl (hv2.slW fun p hp => hs.has p (by simp [hp]))) <| wV rfl (run_bT (run_strEq rfl rfl) (by rfl)) <| wm rfl <| WL.yes rfl rfl rfl <| wm rfl <| WL.yes rfl rfl rfl <| wm rfl <| WL.yes rfl rfl rfl <| wV rfl (run_bT (run_eql rfl rfl) (by rfl)) <| wV rfl (run_pickT rfl) <| wa rfl <| wZ ?_
   refine CW.ret ?_
   refine fin_ret1 rfl ?_
   exact ⟨L2, A2, rfl, hR2, hG2, Step.dropL (hs.perm perm_td2)⟩
  ·cases hc
 by_cases h3 : k = 3
 ·have e3 : (s.doS ⟨k, h, n, p, .slice av b.length cv, b⟩).1 = s := by unfold VS.doS; rw [if_neg h1, if_neg h2, if_neg (by show ¬ k = 4; omega), if_neg (by show ¬ k = 7; omega)]
  rw [e3]
  have hpk := fun {w} hw => peek_spec (w0 := w) (h := h) (n := n) o ok hw hn
  have hpk2 := fun {w} hw => rPeek_spec (w0 := w) (h := h) (n := n) o' sn t hw hn
  have hobt : ∃ r1 r2, s.peek h n = (r1, r2) := ⟨_, _, rfl⟩
  obtain ⟨r1, r2, hr⟩ := hobt
  simp only [hr] at hpk hpk2
  repeat (first | refine cQ ?_ | refine CW.block ?_)
  refine cR <| wV rfl (run_bF (run_eql rfl rfl) (by exact h1)) <| wa rfl <| wZ ?_
  refine cC rfl (fun hc => ?_) (fun hc => ?_)
  ·cases hc
  refine cQ <| cR <| wV rfl (run_bF (run_eql rfl rfl) (by exact h2)) <| wa rfl <| wZ ?_
  refine cC rfl (fun hc => ?_) (fun hc => ?_)
  ·cases hc
  refine cQ <| cR <| wV rfl (run_bT (run_eql rfl rfl) (by exact h3)) <| wa rfl <| wZ ?_
  refine cC rfl (fun hc => ?_) (fun hc => ?_)
  ·refine cQ <| cR <| wm rfl <| wV rfl (run_field (o' := 1) underlying40 rfl ty3 rfl rfl rfl) <| wV rfl (run_load1 ty3 rfl ((hcell hs (by simp)).cell (j := 1) rfl)) <| wV rfl (run_field (o' := 2) underlying40 rfl ty3 rfl rfl rfl) <| wV rfl (run_load1 ty3 rfl ((hcell hs (by simp)).cell (j := 2) rfl)) ?_
   refine wE rfl (run_call en29 rfl rfl) (hpk (hmL hs (fun p hp => by simp [hp]))) ?_
   rintro e w ⟨rfl, hq⟩
   refine ⟨_, rfl, ?_⟩
   replace hs := hs.callE hq
   refine wm rfl <| wx rfl rfl rfl <| wx rfl rfl rfl <| wa rfl <| wa rfl <| wZ <| cQ <| cR <| wm rfl <| wV rfl (run_field (o' := 1) underlying40 rfl ty3 rfl rfl rfl) <| wV rfl (run_load1 ty3 rfl ((hcell hs (by simp)).cell (j := 1) rfl)) <| wV rfl (run_field (o' := 2) underlying40 rfl ty3 rfl rfl rfl) <| wV rfl (run_load1 ty3 rfl ((hcell hs (by simp)).cell (j := 2) rfl)) ?_
   refine wE rfl (run_call en30 rfl rfl) (hpk2 (hmA hs (fun p hp => by simp [hp]))) ?_
   rintro e w ⟨rfl, hq⟩
   refine ⟨_, rfl, ?_⟩
   replace hs := hs.callE hq
   refine wm rfl <| wx rfl rfl rfl <| wx rfl rfl rfl <| wa rfl <| wa rfl <| wZ <| cQ <| cR <| wm rfl <| wm rfl <| wV rfl (run_bT (run_eql rfl rfl) (by rfl)) <| wm rfl <| WL.yes rfl rfl rfl <| wm rfl <| WL.yes rfl rfl rfl <| wm rfl <| WL.yes rfl rfl rfl <| wV rfl (run_bT (run_eql rfl rfl) (by rfl)) <| wV rfl (run_pickT rfl) <| wa rfl <| wZ ?_
   refine CW.ret ?_
   refine fin_ret1 rfl ?_
   exact ⟨L, A, rfl, hR0, hG0, hfin hs⟩
  ·cases hc
 by_cases h4 : k = 4
 ·have e4 : (s.doS ⟨k, h, n, p, .slice av b.length cv, b⟩).1 = (s.write h b).2 := by unfold VS.doS; rw [if_neg h1, if_neg h2, if_pos h4]
  rw [e4] at sn2 t2 ⊢
  have hwr := fun {w vb} hw hsb => write_spec (w0 := w) (h := h) (vb := vb) (b := b) hR0 ok hw hlb hsb
  have hwr2 := fun {w} hw hsb => rWrite_spec (w0 := w) (h := h) (v := .slice av b.length cv) (b := b) hG0 sn t q hw hsb hlb
  have hobt : ∃ r1 s2, s.write h b = (r1, s2) := ⟨_, _, rfl⟩
  obtain ⟨r1, s2, hr⟩ := hobt
  rw [hr] at sn2 t2
  simp only [hr] at hwr hwr2 ⊢
  have hlent : ∀ {b19 : Nat} {y : List UInt8} {X : List (Nat × Obj)} {w : World} {c : Nat}, y.length = b.length → Step S X w0 w → (b19, blk 5 (u8s y ++ pad9 5)) ∈ X → Sl w 1 (.slice (some ⟨b19, 0, none⟩) b.length c) b.length (u8s y) := fun {b19 y X w c} hy hs hm => Sl.mk (by rw [u8s_len, hy]; omega) (At.of_blk (hs.has _ hm)).left
  repeat (first | refine cQ ?_ | refine CW.block ?_)
  refine cR <| wV rfl (run_bF (run_eql rfl rfl) (by exact h1)) <| wa rfl <| wZ ?_
  refine cC rfl (fun hc => ?_) (fun hc => ?_)
  ·cases hc
  refine cQ <| cR <| wV rfl (run_bF (run_eql rfl rfl) (by exact h2)) <| wa rfl <| wZ ?_
  refine cC rfl (fun hc => ?_) (fun hc => ?_)
  ·cases hc
  refine cQ <| cR <| wV rfl (run_bF (run_eql rfl rfl) (by exact h3)) <| wa rfl <| wZ ?_
  refine cC rfl (fun hc => ?_) (fun hc => ?_)
  ·cases hc
  refine cQ <| cR <| wV rfl (run_bT (run_eql rfl rfl) (by exact h4)) <| wa rfl <| wZ ?_
  refine cC rfl (fun hc => ?_) (fun hc => ?_)
  ·refine cQ <| cR <| wV rfl (run_field (o' := 4) underlying40 rfl ty38 rfl rfl rfl) <| wV rfl (run_load1 ty38 rfl ((hcell hs (by simp)).cell (j := 4) rfl)) ?_
   refine wE rfl (run_call en31 rfl rfl) (lendBytes_spec _ (hv hs) (by omega)) ?_
   rintro e w ⟨b19, rfl, hq⟩
   refine ⟨_, rfl, ?_⟩
   replace hs := hs.call0 hq
   refine wa rfl <| wZ ?_
   replace hs : Step S (L ++ (A ++ ((b19, LendV b) :: [C]))) w0 w := (show Step S ((b19, LendV b) :: (L ++ (A ++ [C]))) w0 w from hs).perm perm_td3
   refine cQ <| cR <| wm rfl <| wV rfl (run_field (o' := 1) underlying40 rfl ty3 rfl rfl rfl) <| wV rfl (run_load1 ty3 rfl ((hcell hs (by simp)).cell (j := 1) rfl)) <| wm rfl ?_
   refine wE rfl (run_call en15 rfl rfl) (hwr hs.own (fun h9 => hlent rfl (hs.call h9) (by simp [LendV]))) ?_
   rintro e w ⟨L2, rfl, hR2, hq⟩
   refine ⟨_, rfl, ?_⟩
   replace hs := (hs.call hq).perm perm_td1
   refine wa rfl <| wZ <| cQ <| cR <| wm rfl <| wm rfl <| wV rfl (run_field (o' := 1) underlying40 rfl ty3 rfl rfl rfl) <| wV rfl (run_load1 ty3 rfl ((hcell hs (by simp)).cell (j := 1) rfl)) <| wV rfl (run_field (o' := 4) underlying40 rfl ty38 rfl rfl rfl) <| wV rfl (run_load1 ty38 rfl ((hcell hs (by simp)).cell (j := 4) rfl)) ?_
   refine wE rfl (run_call en32 rfl rfl) (hwr2 hs.own (fun h9 => hv (hs.call h9))) ?_
   rintro e w ⟨A2, rfl, hG2, hq⟩
   refine ⟨_, rfl, ?_⟩
   replace hs := (hs.call hq).perm perm_td1
   refine wV rfl (run_bT (run_eql rfl rfl) (by rfl)) <| wm rfl <| WL.yes rfl rfl rfl <| wm rfl <| WL.yes rfl rfl rfl <| wV rfl (run_field (o' := 4) underlying40 rfl ty38 rfl rfl rfl) <| WL.yes rfl rfl rfl <| wV rfl (run_load1 ty38 rfl ((hcell hs (by simp)).cell (j := 4) rfl)) <| WL.yes rfl rfl rfl ?_
   refine wE rfl (run_call en33 rfl rfl) (keptBytes_spec _ (hv hs) (by omega) (hs.has (b19, LendV b) (by simp))) ?_
   rintro e w ⟨rfl, hq⟩
   refine ⟨_, rfl, ?_⟩
   replace hs := hs.callE hq
   refine wV rfl (run_pickT rfl) <| wa rfl <| wZ ?_
   replace hs : Step S ((b19, blk 5 (u8s b ++ pad9 5)) :: (L2 ++ (A2 ++ [C]))) w0 w := hs.perm perm_td4
   refine CW.seqM (fun f w => ∃ y : List UInt8, y.length = b.length ∧ Step S ((b19, blk 5 (u8s y ++ pad9 5)) :: (L2 ++ (A2 ++ [C]))) w0 w ∧ Holds f [(0, .pointer (some ⟨bf, 0, none⟩)), (1, .pointer (some ⟨bg, 0, none⟩)), (5, .pointer (some ⟨b5, 0, none⟩)), (21, .bool true)]) ?_ ?_
   ·refine cQ <| cR <| wa rfl <| wZ <| CW.block ?_
    refine CW.loop (fun m f w => ∃ (i : Nat) (y : List UInt8), i ≤ b.length ∧ m = b.length - i ∧ y.length = b.length ∧ Step S ((b19, blk 5 (u8s y ++ pad9 5)) :: (L2 ++ (A2 ++ [C]))) w0 w ∧ Holds f [(0, .pointer (some ⟨bf, 0, none⟩)), (1, .pointer (some ⟨bg, 0, none⟩)), (5, .pointer (some ⟨b5, 0, none⟩)), (19, .slice (some ⟨b19, 0, none⟩) b.length (b.length + 5)), (21, .bool true), (22, .int .i64 (i : Nat))]) (m := b.length) ?_ ?_
    ·exact ⟨0, b, by omega, by omega, rfl, hs, rfl, rfl, rfl, rfl, rfl, rfl, trivial⟩
    clear hs
    rintro m9 f w ⟨i, y, hi, rfl, hy, hs, hf⟩
    have hobt := hf.chain
    obtain ⟨g, rfl⟩ := hobt
    by_cases hlt : i < b.length
    ·have hyl : (u8s y ++ pad9 5).length = b.length + 5 := by
      rw [List.length_append, u8s_len, hy]
      rfl
     have hyi : (u8s y ++ pad9 5)[0 + i * 1]? = some (.int .u8 ((y[i]'(by omega)).toNat : Nat)) := by
      rw [Nat.zero_add, Nat.mul_one, List.getElem?_append_left (by rw [u8s_len]; omega), u8s, List.getElem?_map, List.getElem?_eq_getElem (by omega)]
      rfl
     have hset : (u8s y ++ pad9 5).set (0 + i * 1) (.int .u8 (((y[i]'(by omega)) ^^^ 85).toNat : Nat)) = u8s (y.set i ((y[i]'(by omega)) ^^^ 85)) ++ pad9 5 := by
      rw [Nat.zero_add, Nat.mul_one, List.set_append_left _ _ (by rw [u8s_len]; omega)]
      simp [u8s, List.map_set]
     refine cQ <| cQ <| cR <| wm rfl <| wm rfl <| wV rfl (run_lenSl underlying38 rfl) <| wV rfl (run_bT (run_lss rfl rfl) (by omega)) <| wZ ?_
     refine cC rfl (fun h9 => ?_) (fun h9 => ?_)
     ·repeat (first | refine cQ ?_ | refine CW.block ?_ | refine cK ?_)
      refine cR <| wm rfl <| wm rfl <| wm rfl <| wm rfl <| wV rfl (run_ixSlN underlying38 ty5 rfl rfl (by omega)) <| wV rfl (run_load1 ty5 rfl (hs.c0 hyi)) <| wV rfl (run_xor8 (b := 85) rfl rfl) <| wV rfl (run_ixSlN underlying38 ty5 rfl rfl (by omega)) ?_
      refine WL.store1 ty5 rfl rfl (rfl) hs (by first | (simp; done) | omega | (simp only [List.length_append, List.length_replicate, List.length_cons, List.length_nil, List.length_set]; omega) | (simp [Ent.cells, u8s]; done) | exact Nat.le_of_ble_eq_true rfl) (fun w hs => ?_)
      refine wZ <| cR <| wm rfl <| wV rfl (run_add (c := ((i + 1 : Nat) : Int)) rfl rfl (by omega) (by omega)) <| wa rfl <| wZ ?_
      refine (show _ ∧ _ from ⟨rfl, _, ?_, i + 1, y.set i ((y[i]'(by omega)) ^^^ 85), by omega, rfl, by rw [List.length_set, hy], by rw [← hset]; exact hs, rfl, rfl, rfl, rfl, rfl, rfl, trivial⟩)
      omega
     ·cases h9
    ·refine cQ <| cQ <| cR <| wm rfl <| wm rfl <| wV rfl (run_lenSl underlying38 rfl) <| wV rfl (run_bF (run_lss rfl rfl) (by omega)) <| wZ ?_
     refine cC rfl (fun h9 => ?_) (fun h9 => ?_)
     ·cases h9
     refine CW.exit ?_
     exact ⟨rfl, y, hy, hs, rfl, rfl, rfl, rfl, trivial⟩
   clear hs
   rintro f w ⟨y, hy, hs, hf⟩
   have hobt := hf.chain
   obtain ⟨g, rfl⟩ := hobt
   replace hs := hs.tail
   have htd := fun {w} h7 h8 => told10_spec (w0 := w) (h := h) (n := 0) (p := []) (a := none) (m := 0) (c := 0) hR2 hG2 sn2 t2 h7 h8
   refine cQ <| cR <| wm rfl <| wm rfl <| WL.yes rfl rfl rfl <| wm rfl <| WL.yes rfl rfl rfl <| wm rfl <| WL.yes rfl rfl rfl <| wV rfl (run_field (o' := 1) underlying40 rfl ty3 rfl rfl rfl) <| WL.yes rfl rfl rfl <| wV rfl (run_load1 ty3 rfl ((hcell hs (by simp)).cell (j := 1) rfl)) <| WL.yes rfl rfl rfl <| wV rfl (run_build rfl (bld_stp 10 h _)) <| WL.yes rfl rfl rfl ?_
   refine wE rfl (run_call en12 rfl rfl) (htd (fun p hp => hs.has p (by simp [hp])) (fun p hp => hs.has p (by simp [hp]))) ?_
   rintro e w ⟨rfl, hq⟩
   refine ⟨_, rfl, ?_⟩
   replace hs := hs.callE hq
   refine wV rfl (run_pickT rfl) <| wa rfl <| wZ ?_
   refine CW.ret ?_
   refine fin_ret1 rfl ?_
   exact ⟨L2, A2, rfl, hR2, hG2, hfin hs⟩
  ·cases hc
 by_cases h7 : k = 7
 ·have e7 : (s.doS ⟨k, h, n, p, .slice av b.length cv, b⟩).1 = (s.close h).2 := by unfold VS.doS; rw [if_neg h1, if_neg h2, if_neg h4, if_pos h7]
  rw [e7]
  have hcl := fun {w} hw => close_spec (w0 := w) (h := h) hR0 ok (is_op sn) hw
  have hcl2 := fun {w} hw => rClose_spec (w0 := w) (h := h) hG0 sn t hw
  have hobt : ∃ r1 s2, s.close h = (r1, s2) := ⟨_, _, rfl⟩
  obtain ⟨r1, s2, hr⟩ := hobt
  simp only [hr] at hcl hcl2 ⊢
  repeat (first | refine cQ ?_ | refine CW.block ?_)
  refine cR <| wV rfl (run_bF (run_eql rfl rfl) (by exact h1)) <| wa rfl <| wZ ?_
  refine cC rfl (fun hc => ?_) (fun hc => ?_)
  ·cases hc
  refine cQ <| cR <| wV rfl (run_bF (run_eql rfl rfl) (by exact h2)) <| wa rfl <| wZ ?_
  refine cC rfl (fun hc => ?_) (fun hc => ?_)
  ·cases hc
  refine cQ <| cR <| wV rfl (run_bF (run_eql rfl rfl) (by exact h3)) <| wa rfl <| wZ ?_
  refine cC rfl (fun hc => ?_) (fun hc => ?_)
  ·cases hc
  refine cQ <| cR <| wV rfl (run_bF (run_eql rfl rfl) (by exact h4)) <| wa rfl <| wZ ?_
  refine cC rfl (fun hc => ?_) (fun hc => ?_)
  ·cases hc
  refine cQ <| cR <| wV rfl (run_bF (run_eql rfl rfl) (by omega)) <| wa rfl <| wZ ?_
  refine cC rfl (fun hc => ?_) (fun hc => ?_)
  ·cases hc
  refine cQ <| cR <| wV rfl (run_bF (run_eql rfl rfl) (by omega)) <| wa rfl <| wZ ?_
  refine cC rfl (fun hc => ?_) (fun hc => ?_)
  ·cases hc
  refine cQ <| cR <| wV rfl (run_bT (run_eql rfl rfl) (by exact h7)) <| wa rfl <| wZ ?_
  refine cC rfl (fun hc => ?_) (fun hc => ?_)
  ·refine cQ ?_
   refine CW.any (A := fun w => At w b5 0 [.int .i64 k, .int .i64 h, .int .i64 n, str p, .slice av b.length cv]) (C := fun w => At w b5 0 [.int .i64 k, .int .i64 h, .int .i64 n, str p, .slice av b.length cv]) 1000000 10 mixedP rfl ?_
   replace hs := hs.drew
   refine AL.val 0 rfl (by kernel_rfl) rfl (fun w hs => run_move) ?_
   refine AL.val 1 rfl (by kernel_rfl) rfl (fun w hs => run_field (o' := 1) underlying40 rfl ty3 rfl rfl rfl) ?_
   refine AL.val 2 rfl (by kernel_rfl) rfl (fun w hs => run_load1 ty3 rfl ((hs.cell (j := 1) rfl))) ?_
   refine AL.val 4 rfl (by kernel_rfl) rfl (fun w hs => run_move) ?_
   refine AL.val 5 rfl (by kernel_rfl) rfl (fun w hs => run_field (o' := 1) underlying40 rfl ty3 rfl rfl rfl) ?_
   refine AL.val 6 rfl (by kernel_rfl) rfl (fun w hs => run_load1 ty3 rfl ((hs.cell (j := 1) rfl))) ?_
   refine AL.one 3 (by kernel_rfl) rfl (hcell hs (by simp)) (hcell hs (by simp)) ?_
   refine wE rfl (run_call en39 rfl rfl) (hcl hs.own) ?_
   rintro e w ⟨L2, rfl, hR2, hq⟩
   refine ⟨_, rfl, ?_⟩
   replace hs := (hs.call hq).perm perm_td1
   refine wZ ?_
   refine ⟨rfl, ?_⟩
   refine AL.one 7 (by kernel_rfl) rfl (hcell hs (by simp)) (hcell hs (by simp)) ?_
   refine wE rfl (run_call en40 rfl rfl) (hcl2 hs.own) ?_
   rintro e w ⟨A2, rfl, hG2, hq⟩
   refine ⟨_, rfl, ?_⟩
   replace hs := (hs.call hq).perm perm_td1
   refine wZ ?_
   refine ⟨rfl, ?_⟩
   refine AL.val 8 rfl (by kernel_rfl) rfl (fun w hs => run_bT (run_eql rfl rfl) (by rfl)) ?_
   refine AL.val 9 rfl (by kernel_rfl) rfl (fun w hs => run_assign) ?_
   refine AL.end (by kernel_rfl) (hcell hs (by simp)) (hcell hs (by simp)) ?_
   refine CW.ret ?_
   refine fin_ret1 rfl ?_
   exact ⟨L2, A2, rfl, hR2, hG2, hfin hs⟩
  ·cases hc
 have e0 : (s.doS ⟨k, h, n, p, .slice av b.length cv, b⟩).1 = s := by unfold VS.doS; rw [if_neg h1, if_neg h2, if_neg h4, if_neg h7]
 rw [e0]
 by_cases h5 : k = 5
 ·have hm1 := fun {w} hw => may_spec (w0 := w) (h := h) (n := n) o ok hw hn
  have hm2 := fun {w} hw => rMay_spec (w0 := w) (h := h) (n := n) o' sn t q hw hn
  have hobt : ∃ r1, s.may h n = r1 := ⟨_, rfl⟩
  obtain ⟨r1, hr⟩ := hobt
  simp only [hr] at hm1 hm2
  repeat (first | refine cQ ?_ | refine CW.block ?_)
  refine cR <| wV rfl (run_bF (run_eql rfl rfl) (by exact h1)) <| wa rfl <| wZ ?_
  refine cC rfl (fun hc => ?_) (fun hc => ?_)
  ·cases hc
  refine cQ <| cR <| wV rfl (run_bF (run_eql rfl rfl) (by exact h2)) <| wa rfl <| wZ ?_
  refine cC rfl (fun hc => ?_) (fun hc => ?_)
  ·cases hc
  refine cQ <| cR <| wV rfl (run_bF (run_eql rfl rfl) (by exact h3)) <| wa rfl <| wZ ?_
  refine cC rfl (fun hc => ?_) (fun hc => ?_)
  ·cases hc
  refine cQ <| cR <| wV rfl (run_bF (run_eql rfl rfl) (by exact h4)) <| wa rfl <| wZ ?_
  refine cC rfl (fun hc => ?_) (fun hc => ?_)
  ·cases hc
  refine cQ <| cR <| wV rfl (run_bT (run_eql rfl rfl) (by exact h5)) <| wa rfl <| wZ ?_
  refine cC rfl (fun hc => ?_) (fun hc => ?_)
  ·refine cQ ?_
   refine CW.quiet mixedP (by kernel_rfl) hs ?_
   refine qm rfl <| qV rfl (fun w hs => run_field (o' := 1) underlying40 rfl ty3 rfl rfl rfl) <| qV rfl (fun w hs => run_load1 ty3 rfl ((hcell hs (by simp)).cell (j := 1) rfl)) <| qV rfl (fun w hs => run_field (o' := 2) underlying40 rfl ty3 rfl rfl rfl) <| qV rfl (fun w hs => run_load1 ty3 rfl ((hcell hs (by simp)).cell (j := 2) rfl)) ?_
   refine QL.enter rfl (fun w => run_call en34 rfl rfl) (fun w hs => hm1 (hmL hs (fun p hp => by simp [hp]))) ?_
   refine qm rfl <| qV rfl (fun w hs => run_field (o' := 1) underlying40 rfl ty3 rfl rfl rfl) <| qV rfl (fun w hs => run_load1 ty3 rfl ((hcell hs (by simp)).cell (j := 1) rfl)) <| qV rfl (fun w hs => run_field (o' := 2) underlying40 rfl ty3 rfl rfl rfl) <| qV rfl (fun w hs => run_load1 ty3 rfl ((hcell hs (by simp)).cell (j := 2) rfl)) ?_
   refine QL.enter rfl (fun w => run_call en35 rfl rfl) (fun w hs => hm2 (hmA hs (fun p hp => by simp [hp]))) ?_
   refine qV rfl (fun w hs => run_bT (run_eql rfl rfl) (by rfl)) <| qV rfl (fun w hs => run_assign) ?_
   refine QL.nil (fun w hs => ?_)
   refine CW.ret ?_
   refine fin_ret1 rfl ?_
   exact ⟨L, A, rfl, hR0, hG0, hfin hs⟩
  ·cases hc
 by_cases h6 : k = 6
 ·have hl1 := fun {w} hg hw => list_spec (w0 := w) (p := p) o ok t hg hw hpl
  have hl2 := fun {w} hw => rList_spec (w0 := w) (p := p) o' sn t hw hpl
  have hln := list_n sn p
  have hobt : ∃ r1 r2, s.list p = (r1, r2) := ⟨_, _, rfl⟩
  obtain ⟨r1, r2, hr⟩ := hobt
  simp only [hr] at hl1 hl2 hln
  repeat (first | refine cQ ?_ | refine CW.block ?_)
  refine cR <| wV rfl (run_bF (run_eql rfl rfl) (by exact h1)) <| wa rfl <| wZ ?_
  refine cC rfl (fun hc => ?_) (fun hc => ?_)
  ·cases hc
  refine cQ <| cR <| wV rfl (run_bF (run_eql rfl rfl) (by exact h2)) <| wa rfl <| wZ ?_
  refine cC rfl (fun hc => ?_) (fun hc => ?_)
  ·cases hc
  refine cQ <| cR <| wV rfl (run_bF (run_eql rfl rfl) (by exact h3)) <| wa rfl <| wZ ?_
  refine cC rfl (fun hc => ?_) (fun hc => ?_)
  ·cases hc
  refine cQ <| cR <| wV rfl (run_bF (run_eql rfl rfl) (by exact h4)) <| wa rfl <| wZ ?_
  refine cC rfl (fun hc => ?_) (fun hc => ?_)
  ·cases hc
  refine cQ <| cR <| wV rfl (run_bF (run_eql rfl rfl) (by exact h5)) <| wa rfl <| wZ ?_
  refine cC rfl (fun hc => ?_) (fun hc => ?_)
  ·cases hc
  refine cQ <| cR <| wV rfl (run_bT (run_eql rfl rfl) (by exact h6)) <| wa rfl <| wZ ?_
  refine cC rfl (fun hc => ?_) (fun hc => ?_)
  ·refine cQ <| cR <| wm rfl <| wV rfl (run_field (o' := 3) underlying40 rfl ty9 rfl rfl rfl) <| wV rfl (run_load1 ty9 rfl ((hcell hs (by simp)).cell (j := 3) rfl)) ?_
   refine wE rfl (run_call en36 rfl rfl) (hl1 (hg.stepS hs h0) (hmL hs (fun p hp => by simp [hp]))) ?_
   rintro e w ⟨v1, Lv1, rfl, hv1, hq⟩
   refine ⟨_, rfl, ?_⟩
   replace hs := hs.call0 hq
   have hf1 := hv1.form
   obtain ⟨a1, c1, he1⟩ := hf1
   subst he1
   refine wm rfl <| wx rfl rfl rfl <| wx rfl rfl rfl <| wa rfl <| wa rfl <| wZ <| cQ <| cR <| wm rfl <| wV rfl (run_field (o' := 3) underlying40 rfl ty9 rfl rfl rfl) <| wV rfl (run_load1 ty9 rfl ((hcell hs (by simp)).cell (j := 3) rfl)) ?_
   refine wE rfl (run_call en37 rfl rfl) (hl2 (hmA hs (fun p hp => by simp [hp]))) ?_
   rintro e w ⟨v2, Lv2, rfl, hv2, hq⟩
   refine ⟨_, rfl, ?_⟩
   replace hs := hs.call0 hq
   have hf2 := hv2.form
   obtain ⟨a2, c2, he2⟩ := hf2
   subst he2
   refine wm rfl <| wx rfl rfl rfl <| wx rfl rfl rfl <| wa rfl <| wa rfl <| wZ <| cQ <| cR <| wm rfl <| wm rfl ?_
   refine wE rfl (run_call en38 rfl rfl) (sameTexts_spec _ (hv1.slW fun p hp => hs.has p (by simp [hp])) (hv2.slW fun p hp => hs.has p (by simp [hp])) hln) ?_
   rintro e w ⟨rfl, hq⟩
   refine ⟨_, rfl, ?_⟩
   replace hs := hs.callE hq
   refine wm rfl <| WL.yes rfl rfl rfl <| wm rfl <| WL.yes rfl rfl rfl <| wm rfl <| WL.yes rfl rfl rfl <| wV rfl (run_bT (run_eql rfl rfl) (by rfl)) <| wV rfl (run_pickT rfl) <| wa rfl <| wZ ?_
   refine CW.ret ?_
   refine fin_ret1 rfl ?_
   exact ⟨L, A, rfl, hR0, hG0, hfin (hs.dropL.dropL)⟩
  ·cases hc
 by_cases h8 : k = 8
 ·have hit := fun {X w} (hs : Step S X w0 w) (hL : ∀ p ∈ L, p ∈ X) => allItems_spec o ok t (hg.stepS hs h0) fun p hp => hs.has p (hL p hp)
  have hbgm : (bg, rO u uh s.qb s.qf s.qo) ∈ A := by rw [o'.A]; simp
  have hRl := o'.len
  have hn2 := itemsL_n sn
  have hLuA : ∀ p ∈ Lu, p ∈ A := fun p hp => by rw [o'.A]; simp [hp]
  have hof := o'.own.form
  obtain ⟨au, cu, hu⟩ := hof
  have hRs : R.length = s.itemsL.length := hRl
  repeat (first | refine cQ ?_ | refine CW.block ?_)
  refine cR <| wV rfl (run_bF (run_eql rfl rfl) (by exact h1)) <| wa rfl <| wZ ?_
  refine cC rfl (fun hc => ?_) (fun hc => ?_)
  ·cases hc
  refine cQ <| cR <| wV rfl (run_bF (run_eql rfl rfl) (by exact h2)) <| wa rfl <| wZ ?_
  refine cC rfl (fun hc => ?_) (fun hc => ?_)
  ·cases hc
  refine cQ <| cR <| wV rfl (run_bF (run_eql rfl rfl) (by exact h3)) <| wa rfl <| wZ ?_
  refine cC rfl (fun hc => ?_) (fun hc => ?_)
  ·cases hc
  refine cQ <| cR <| wV rfl (run_bF (run_eql rfl rfl) (by exact h4)) <| wa rfl <| wZ ?_
  refine cC rfl (fun hc => ?_) (fun hc => ?_)
  ·cases hc
  refine cQ <| cR <| wV rfl (run_bF (run_eql rfl rfl) (by exact h5)) <| wa rfl <| wZ ?_
  refine cC rfl (fun hc => ?_) (fun hc => ?_)
  ·cases hc
  refine cQ <| cR <| wV rfl (run_bF (run_eql rfl rfl) (by exact h6)) <| wa rfl <| wZ ?_
  refine cC rfl (fun hc => ?_) (fun hc => ?_)
  ·cases hc
  refine cQ <| cR <| wV rfl (run_bF (run_eql rfl rfl) (by exact h7)) <| wa rfl <| wZ ?_
  refine cC rfl (fun hc => ?_) (fun hc => ?_)
  ·cases hc
  refine cQ <| cR <| wV rfl (run_bT (run_eql rfl rfl) (by exact h8)) <| wa rfl <| wZ ?_
  refine cC rfl (fun hc => ?_) (fun hc => ?_)
  ·refine cQ ?_
   refine CW.any (A := fun w => w.heap[bg]? = some (rO u uh s.qb s.qf s.qo)) (C := fun w => w.heap[bg]? = some (rO u uh s.qb s.qf s.qo)) 1000000 8 mixedP rfl ?_
   replace hs := hs.drew
   refine AL.val 0 rfl (by kernel_rfl) rfl (fun w hs => run_move) ?_
   refine AL.val 2 rfl (by kernel_rfl) rfl (fun w hs => run_move) ?_
   refine AL.val 3 rfl (by kernel_rfl) rfl (fun w hs => run_nilCheck rfl) ?_
   refine AL.val 4 rfl (by kernel_rfl) rfl (fun w hs => run_field (o' := 0) underlying34 rfl ty22 rfl rfl rfl) ?_
   refine AL.val 5 rfl (by kernel_rfl) rfl (fun w hs => run_load1 ty22 rfl ((by rw [cell_blk hs]; rfl))) ?_
   refine AL.one 1 (by kernel_rfl) rfl (hs.get (by simp [hbgm])) (hs.get (by simp [hbgm])) ?_
   refine wE rfl (run_call en8 rfl rfl) (hit hs (fun p hp => by simp [hp])) ?_
   rintro e w ⟨u2, L2, R2, rfl, hA2, hu2, hO2, hq⟩
   refine ⟨_, rfl, ?_⟩
   replace hs := hs.call0 hq
   refine wZ ?_
   refine ⟨rfl, ?_⟩
   refine AL.one 6 (by kernel_rfl) rfl (hs.get (by simp [hbgm])) (hs.get (by simp [hbgm])) ?_
   refine wE rfl (run_call en7 rfl rfl) ((same_spec w (n := s.itemsL.length) (by have := congrArg List.length hA2; rw [absR, List.length_map] at this; exact this) hRl hn2 (hA2.trans o'.abs.symm) (by have h9 := congrArg List.length hA2; rw [absR, List.length_map] at h9; rw [h9] at hu2; exact hu2) (by rw [← hRl]; exact o'.own) (fun p hp => hs.has p (by simp [hp])) (fun p hp => hs.has p (by simp [hLuA p hp])) (fun r hr => (hO2 r hr).slW fun p hp => hs.has p (List.mem_append_left _ (List.mem_append_right _ (List.mem_flatMap.2 ⟨r, hr, hp⟩)))) (fun r hr => (o'.data r hr).slW fun p hp => hs.has p (by simp [o'.memD hr hp])) (fun r hr => itemsL_x ok (r.p, r.d, r.x) (by rw [← hA2]; exact List.mem_map.2 ⟨r, hr, rfl⟩)))) ?_
   rintro e w ⟨rfl, hq⟩
   refine ⟨_, rfl, ?_⟩
   replace hs := hs.callE hq
   refine wZ ?_
   refine ⟨rfl, ?_⟩
   refine AL.val 7 rfl (by kernel_rfl) rfl (fun w hs => run_assign) ?_
   refine AL.end (by kernel_rfl) (hs.get (by simp [hbgm])) (hs.get (by simp [hbgm])) ?_
   refine CW.ret ?_
   refine fin_ret1 rfl ?_
   exact ⟨L, A, rfl, hR0, hG0, hfin (Step.dropL hs)⟩
  ·cases hc
 by_cases h9 : k = 9
 ·have hD0 : 0 < s.D.length := by
   have hobt := Option.isSome_iff_exists.1 sn.root
   obtain ⟨j, hj⟩ := hobt
   unfold VS.dir at hj
   have := (List.findIdx?_eq_some_iff_getElem.1 hj).1
   omega
  have hu1 := fun {w} hw => used_spec (w0 := w) o ok hD0 hw
  have hu2 := fun {w} hw => rused2_spec (w0 := w) o' sn t hw
  have hobt := used_i64 ok
  obtain ⟨ub, uf, uo⟩ := hobt
  repeat (first | refine cQ ?_ | refine CW.block ?_)
  refine cR <| wV rfl (run_bF (run_eql rfl rfl) (by exact h1)) <| wa rfl <| wZ ?_
  refine cC rfl (fun hc => ?_) (fun hc => ?_)
  ·cases hc
  refine cQ <| cR <| wV rfl (run_bF (run_eql rfl rfl) (by exact h2)) <| wa rfl <| wZ ?_
  refine cC rfl (fun hc => ?_) (fun hc => ?_)
  ·cases hc
  refine cQ <| cR <| wV rfl (run_bF (run_eql rfl rfl) (by exact h3)) <| wa rfl <| wZ ?_
  refine cC rfl (fun hc => ?_) (fun hc => ?_)
  ·cases hc
  refine cQ <| cR <| wV rfl (run_bF (run_eql rfl rfl) (by exact h4)) <| wa rfl <| wZ ?_
  refine cC rfl (fun hc => ?_) (fun hc => ?_)
  ·cases hc
  refine cQ <| cR <| wV rfl (run_bF (run_eql rfl rfl) (by exact h5)) <| wa rfl <| wZ ?_
  refine cC rfl (fun hc => ?_) (fun hc => ?_)
  ·cases hc
  refine cQ <| cR <| wV rfl (run_bF (run_eql rfl rfl) (by exact h6)) <| wa rfl <| wZ ?_
  refine cC rfl (fun hc => ?_) (fun hc => ?_)
  ·cases hc
  refine cQ <| cR <| wV rfl (run_bF (run_eql rfl rfl) (by exact h7)) <| wa rfl <| wZ ?_
  refine cC rfl (fun hc => ?_) (fun hc => ?_)
  ·cases hc
  refine cQ <| cR <| wV rfl (run_bF (run_eql rfl rfl) (by exact h8)) <| wa rfl <| wZ ?_
  refine cC rfl (fun hc => ?_) (fun hc => ?_)
  ·cases hc
  refine cQ <| cR <| wV rfl (run_bT (run_eql rfl rfl) (by exact h9)) <| wa rfl <| wZ ?_
  refine cC rfl (fun hc => ?_) (fun hc => ?_)
  ·refine cQ <| cR <| wm rfl ?_
   refine wE rfl (run_call en9 rfl rfl) (hu1 (hmL hs (fun p hp => by simp [hp]))) ?_
   rintro e w ⟨rfl, hq⟩
   refine ⟨_, rfl, ?_⟩
   replace hs := hs.callE hq
   refine wm rfl ?_
   refine wE rfl (run_call en10 rfl rfl) (hu2 (hmA hs (fun p hp => by simp [hp]))) ?_
   rintro e w ⟨rfl, hq⟩
   refine ⟨_, rfl, ?_⟩
   replace hs := hs.callE hq
   refine wV rfl (run_bT (run_eqQuo ub uf uo ub uf uo rfl rfl) ⟨rfl, rfl, rfl⟩) <| wa rfl <| wZ ?_
   refine CW.ret ?_
   refine fin_ret1 rfl ?_
   exact ⟨L, A, rfl, hR0, hG0, hfin hs⟩
  ·cases hc
 repeat (first | refine cQ ?_ | refine CW.block ?_)
 refine cR <| wV rfl (run_bF (run_eql rfl rfl) (by exact h1)) <| wa rfl <| wZ ?_
 refine cC rfl (fun hc => ?_) (fun hc => ?_)
 ·cases hc
 refine cQ <| cR <| wV rfl (run_bF (run_eql rfl rfl) (by exact h2)) <| wa rfl <| wZ ?_
 refine cC rfl (fun hc => ?_) (fun hc => ?_)
 ·cases hc
 refine cQ <| cR <| wV rfl (run_bF (run_eql rfl rfl) (by exact h3)) <| wa rfl <| wZ ?_
 refine cC rfl (fun hc => ?_) (fun hc => ?_)
 ·cases hc
 refine cQ <| cR <| wV rfl (run_bF (run_eql rfl rfl) (by exact h4)) <| wa rfl <| wZ ?_
 refine cC rfl (fun hc => ?_) (fun hc => ?_)
 ·cases hc
 refine cQ <| cR <| wV rfl (run_bF (run_eql rfl rfl) (by exact h5)) <| wa rfl <| wZ ?_
 refine cC rfl (fun hc => ?_) (fun hc => ?_)
 ·cases hc
 refine cQ <| cR <| wV rfl (run_bF (run_eql rfl rfl) (by exact h6)) <| wa rfl <| wZ ?_
 refine cC rfl (fun hc => ?_) (fun hc => ?_)
 ·cases hc
 refine cQ <| cR <| wV rfl (run_bF (run_eql rfl rfl) (by exact h7)) <| wa rfl <| wZ ?_
 refine cC rfl (fun hc => ?_) (fun hc => ?_)
 ·cases hc
 refine cQ <| cR <| wV rfl (run_bF (run_eql rfl rfl) (by exact h8)) <| wa rfl <| wZ ?_
 refine cC rfl (fun hc => ?_) (fun hc => ?_)
 ·cases hc
 refine cQ <| cR <| wV rfl (run_bF (run_eql rfl rfl) (by exact h9)) <| wa rfl <| wZ ?_
 refine cC rfl (fun hc => ?_) (fun hc => ?_)
 ·cases hc
 refine cQ <| cR <| wV rfl (run_bF (run_eql rfl rfl) (by exact h10)) <| wa rfl <| wZ ?_
 refine cC rfl (fun hc => ?_) (fun hc => ?_)
 ·cases hc
 repeat (first | refine cQ ?_ | refine cK ?_)
 refine cR <| wa rfl <| wZ ?_
 refine CW.ret ?_
 refine fin_ret1 rfl ?_
 exact ⟨L, A, rfl, hR0, hG0, hfin hs⟩
end
end Go.Gx
/-! Vq17 -/
namespace Go.Gx
open Go.Proofs Go.Proofs.Tryz Go.RowKit
set_option maxRecDepth 100000
/-- The document's files stand for what is alike. -/
theorem RRep.eqv {bg : Nat} {s s' : VS} {A : List (Nat × Obj)} (h : RRep bg s A) (e : Eqv s s') (t : s.Tree) (t' : s'.Tree) : RRep bg s' A := by
 obtain ⟨u, uh, R, Lu, Lh, o⟩ := h
 exact ⟨u, uh, R, Lu, Lh, ⟨o.own, o.data, o.abs.trans (e.itemsL t t'), by rw [← e.H]; exact o.oh, by rw [o.A, e.qb, e.qf, e.qo]⟩⟩
theorem Quo.eqv {s s' : VS} (q : s.Quo) (e : Eqv s s') : s'.Quo := ⟨by rw [← e.by_, ← e.qb]; exact q.b, by rw [← e.items, ← e.qf]; exact q.f, by rw [← e.op, ← e.qo]; exact q.o⟩
theorem rrep_new {a b c : Int} {l : List It} {bg : Nat} {R : List RowI} {u : Value} {Lu : List (Nat × Obj)} (hE : newE a b l = 0) (hA : absR R = l.map triI) (hR : RFS bg R u Lu) : RRep bg (newS a b c l) ((bg, rfsO u (min a 67108864) (min b 65535) (min c 64)) :: (Lu ++ R.flatMap (·.Lv))) := by
 have hobt := new_quo (c := c) hE
 obtain ⟨_, hH, hqb, hqf, hqo⟩ := hobt
 have hv0 : hv (newS a b c l) = [] := by
  unfold hv
  rw [hH]
  rfl
 exact ⟨u, .slice none 0 0, R, Lu, [], ⟨hR.own, hR.data, hA.trans (new_itemsL (c := c) hE).symm, by rw [hv0]; exact OwnSl.nil _ _, by rw [hqb, hqf, hqo]; rfl⟩⟩
section
variable {bf bg : Nat} {s : VS} {L A R : List (Nat × Obj)} {w0 w : World}
theorem told_at (hs : Step [] (L ++ A) w0 w) (hR : VRep bf s L) (hG : RRep bg s A) (sn : s.Sane) (t : s.Tree) (q : s.Quo) (hg : Gl w0) {x : Stv} (hx : x.Ok w0) (hbB : x.b.length ≤ 1048576) : Calls Tryz.prog 12 #[.pointer (some ⟨bf, 0, none⟩), .pointer (some ⟨bg, 0, none⟩), .agg x.cells.toArray] w fun e w' => ∃ L' A', e = .returned (.bool true) ∧ VRep bf (s.doS x).1 L' ∧ RRep bg (s.doS x).1 A' ∧ Step [] (L' ++ A') w0 w' :=
 (told_spec (x := x) hR hG sn t q (hg.step hs) (hs.zero (by simp) hg) hs.own1 ⟨hx.hk, hx.hh, hx.hn, hx.hp, hx.hb.step0 hs, hx.lb⟩ hbB (fun h => hx.hb.step0 (hs.call1 h))).mono fun e w' ⟨L', A', h1, h2, h3, h4⟩ => ⟨L', A', h1, h2, h3, hs.call1 h4⟩
end
set_option maxHeartbeats 8000000 in
theorem vfsPlays_spec {a b c : Int} {v vs : Value} {l : List It} {sc : List Stv} (w0 : World) (hg : Gl w0) (hl : Its w0 v l) (ha : i64s a) (hb : i64s b) (hc : i64s c) (hroom : Room v) (hn : l.length ≤ 1048576) (hx : ∀ x ∈ l, x.p.length ≤ 1048576 ∧ x.x.length ≤ 1048576) (hst : Stvs w0 vs sc) (hsB : ∀ x ∈ sc, x.b.length ≤ 1048576) : Calls Tryz.prog 4 #[v, .agg (quoC a b c).toArray, vs] w0 (Ret0 (.bool true) w0) := by
 have hs : Step [] [] w0 w0 := Step.refl w0
 have hits := fun {L w} (hs : Step [] L w0 w) => (⟨hl.sl.step0 hs, fun x hx => ⟨(hl.ok x hx).hb.step0 hs, (hl.ok x hx).lp, (hl.ok x hx).lb⟩, hl.len⟩ : Its w v l)
 have hboth := fun {L w} (hs : Step [] L w0 w) => both_spec w (hg.step hs) ha hb hc (hits hs) hroom hn hx
 have hobt := hst.sl.form
 obtain ⟨avs, cvs, hvs⟩ := hobt
 have hscl := hst.len
 subst hvs
 by_cases hE : newE a b l ≠ 0
 ·have hnb := fun {L w} (hs : Step [] L w0 w) => (hboth hs).mono (R' := fun e w' => e = .returned (.tuple #[.pointer none, .pointer none, .bool true]) ∧ Step [] [] w w') fun e w' h => by
   rcases h with ⟨_, h3, h4⟩ | ⟨h3, _⟩
   ·exact ⟨h3, h4⟩
   ·exact absurd h3 hE
  refine calls (n := 61) Tryz.func4 rfl rfl rfl ?_
  refine cQ <| cR ?_
  refine WL.box (cs := (quoC a b c)) rfl rfl rfl hs (fun b4 w hs => ?_)
  refine wa rfl <| wZ <| cQ <| cQ <| cR ?_
  refine wE rfl (run_call en5 rfl rfl) (known_spec (hg.step hs)) ?_
  rintro e w ⟨rfl, hq⟩
  refine ⟨_, rfl, ?_⟩
  replace hs := hs.callE hq
  refine wV rfl (run_not rfl) <| wZ ?_
  refine cC rfl (fun h => ?_) (fun h => ?_)
  ·cases h
  repeat (first | refine cQ ?_ | refine cK ?_)
  refine cR <| wm rfl <| wV rfl (run_loadN ty24 rfl rfl hs.a0) ?_
  refine wE rfl (run_call en6 rfl rfl) (hnb hs) ?_
  rintro e w ⟨rfl, hq⟩
  refine ⟨_, rfl, ?_⟩
  replace hs := hs.callE hq
  refine wm rfl <| wx rfl rfl rfl <| wx rfl rfl rfl <| wx rfl rfl rfl <| wa rfl <| wa rfl <| wa rfl <| wZ <| cQ <| cQ <| cR <| wm rfl <| wV rfl (run_not rfl) <| wm rfl <| WL.yes rfl rfl rfl <| wm rfl <| WL.yes rfl rfl rfl <| wV rfl (run_nilNil underlying26 rfl rfl) <| wV rfl (run_pickF rfl) <| wZ ?_
  refine cC rfl (fun h => ?_) (fun h => ?_)
  ·refine cQ <| cR <| wm rfl <| wa rfl <| wZ ?_
   refine CW.ret ?_
   refine fin_ret1 rfl ?_
   exact ⟨rfl, hs.clear⟩
  ·cases h
 have hE : newE a b l = 0 := Classical.byContradiction hE
 have hno := fun {L w} (hs : Step [] L w0 w) => (hboth hs).mono (R' := fun e w' => ∃ bf L bg u R Lu, e = .returned (.tuple #[.pointer (some ⟨bf, 0, none⟩), .pointer (some ⟨bg, 0, none⟩), .bool true]) ∧ VRep bf (newS a b c l) L ∧ absR R = l.map triI ∧ RFS bg R u Lu ∧ Step [] (((bg, rfsO u (min a 67108864) (min b 65535) (min c 64)) :: (Lu ++ R.flatMap (·.Lv))) ++ L) w w') fun e w' h => by
  rcases h with ⟨h3, _⟩ | ⟨_, h3⟩
  ·exact absurd hE h3
  ·exact h3
 have sn := new_sane (c := c) hE ha hb hc
 have t := new_tree (c := c) hE
 have q := (new_quo (c := c) hE).1
 refine calls (n := 61) Tryz.func4 rfl rfl rfl ?_
 refine cQ <| cR ?_
 refine WL.box (cs := (quoC a b c)) rfl rfl rfl hs (fun b4 w hs => ?_)
 refine wa rfl <| wZ <| cQ <| cQ <| cR ?_
 refine wE rfl (run_call en5 rfl rfl) (known_spec (hg.step hs)) ?_
 rintro e w ⟨rfl, hq⟩
 refine ⟨_, rfl, ?_⟩
 replace hs := hs.callE hq
 refine wV rfl (run_not rfl) <| wZ ?_
 refine cC rfl (fun h => ?_) (fun h => ?_)
 ·cases h
 repeat (first | refine cQ ?_ | refine cK ?_)
 refine cR <| wm rfl <| wV rfl (run_loadN ty24 rfl rfl hs.a0) ?_
 refine wE rfl (run_call en6 rfl rfl) (hno hs) ?_
 rintro e w ⟨bf, L, bg, u, R, Lu, rfl, hV, hA, hR, hq⟩
 refine ⟨_, rfl, ?_⟩
 replace hs := hs.call0 hq
 refine wm rfl <| wx rfl rfl rfl <| wx rfl rfl rfl <| wx rfl rfl rfl <| wa rfl <| wa rfl <| wa rfl <| wZ <| cQ <| cQ <| cR <| wm rfl <| wV rfl (run_not rfl) <| wm rfl <| WL.yes rfl rfl rfl <| wm rfl <| WL.yes rfl rfl rfl <| wV rfl (run_ptrNil underlying26 rfl rfl) <| wV rfl (run_pickF rfl) <| wZ ?_
 refine cC rfl (fun h => ?_) (fun h => ?_)
 ·cases h
 have hG := rrep_new (c := c) hE hA hR
 have hobt : ∃ A, (bg, rfsO u (min a 67108864) (min b 65535) (min c 64)) :: (Lu ++ R.flatMap (·.Lv)) = A := ⟨_, rfl⟩
 obtain ⟨A, hAe⟩ := hobt
 rw [hAe] at hG hs
 replace hs : Step [] (L ++ A) w0 w := (Step.dropR hs).append_comm
 repeat (first | refine cQ ?_ | refine cK ?_)
 refine cR <| wa rfl <| wZ <| CW.block ?_
 refine CW.loop (fun m f w => ∃ (i : Nat) (s : VS) (bf : Nat) (L A : List (Nat × Obj)), i ≤ sc.length ∧ m = sc.length - i ∧ VRep bf s L ∧ RRep bg s A ∧ s.Sane ∧ s.Tree ∧ s.Quo ∧ Step [] (L ++ A) w0 w ∧ Holds f [(2, .slice avs sc.length cvs), (7, .pointer (some ⟨bf, 0, none⟩)), (8, .pointer (some ⟨bg, 0, none⟩)), (10, .int .i64 (i : Nat))]) (m := sc.length) ?_ ?_
 ·exact ⟨0, _, bf, L, A, by omega, by omega, hV, hG, sn, t, q, hs, rfl, rfl, rfl, rfl, trivial⟩
 clear hs hV hG sn t q hA hR hAe
 rintro m f w ⟨i, s, bf, L, A, hi, rfl, hV, hG, sn, t, q, hs, hf⟩
 by_cases hlt : i < sc.length
 ·have hobt : ∃ x, sc[i]? = some x := ⟨_, List.getElem?_eq_getElem hlt⟩
  obtain ⟨x, hx⟩ := hobt
  have hobt := hst.at hx
  obtain ⟨bs, os, cs, hc0, hat⟩ := hobt
  have hxo := hst.ok x (List.mem_of_getElem? hx)
  have hxB := hsB x (List.mem_of_getElem? hx)
  injection hc0 with hc1 hc2 hc3
  have hc4 := congrArg (fun z => Value.slice z sc.length cvs) hc1
  rw [show Value.slice avs sc.length cvs = Value.slice (some ⟨bs, os, none⟩) sc.length cvs from hc4] at hf
  have hobt := hf.chain
  obtain ⟨g, rfl⟩ := hobt
  have hxk : At w0 bs (os + i * 5) [.int .i64 x.k, .int .i64 x.h, .int .i64 x.n, str x.p, x.v] := hat
  refine cQ <| cQ <| cR <| wm rfl <| wm rfl <| wV rfl (run_lenSl underlying37 rfl) <| wV rfl (run_bT (run_lss rfl rfl) (by omega)) <| wZ ?_
  refine cC rfl (fun h => ?_) (fun h => ?_)
  rotate_left 1
  ·cases h
  by_cases hk : x.k = 11
  ·repeat (first | refine cQ ?_ | refine CW.block ?_ | refine cK ?_)
   refine cR <| wm rfl <| wm rfl <| wV rfl (run_ixSlN underlying37 ty40 rfl rfl (by omega)) <| wV rfl (run_field (o' := 0) underlying40 rfl ty3 rfl rfl rfl) <| wV rfl (run_load1 ty3 rfl ((hxk.step hs (by simp)).cell (j := 0) rfl)) <| wV rfl (run_bT (run_eql rfl rfl) (by exact hk)) <| wZ ?_
   refine cC rfl (fun h => ?_) (fun h => ?_)
   ·refine cQ <| cR <| wm rfl ?_
    refine wE rfl (run_call en11 rfl rfl) (twin_at hs hV (fun p hp => List.mem_append_left _ hp) sn t hg) ?_
    rintro e w ⟨bt, s2, L9, rfl, hV9, he, sn9, t9, hq⟩
    refine ⟨_, rfl, ?_⟩
    replace hs := hq
    refine wa rfl <| wZ ?_
    have hs9 : Step [] (L9 ++ A) w0 w := Step.dropL (L1 := L) (hs.perm perm_td1)
    have hG9 := hG.eqv he t t9
    have q9 := Quo.eqv q he
    clear hs hV hG sn t q he
    have hs := hs9
    have hV := hV9
    have hG := hG9
    have sn := sn9
    have t := t9
    have q := q9
    clear hs9 hV9 hG9 sn9 t9 q9
    refine cQ <| cR <| wm rfl <| wV rfl (run_ptrNil underlying26 rfl rfl) <| wZ ?_
    refine cC rfl (fun h => ?_) (fun h => ?_)
    ·cases h
    repeat (first | refine cQ ?_ | refine cK ?_)
    refine cR <| wm rfl <| wm rfl <| wm rfl <| wm rfl <| wV rfl (run_ixSlN underlying37 ty40 rfl rfl (by omega)) <| wV rfl (run_loadN ty40 rfl rfl (hxk.step hs (by simp))) ?_
    refine wE rfl (run_call en12 rfl rfl) (told_at hs hV hG sn t q hg hxo hxB) ?_
    rintro e w ⟨L2, A2, rfl, hV2, hG2, hq⟩
    refine ⟨_, rfl, ?_⟩
    replace hs := hq
    refine wV rfl (run_not rfl) <| wZ ?_
    have hk2 := do_keeps sn t x
    have hq2 := (do_quo sn t q x).1
    refine cC rfl (fun h => ?_) (fun h => ?_)
    ·cases h
    refine cK <| cR <| wm rfl <| wV rfl (run_add (c := ((i + 1 : Nat) : Int)) rfl rfl (by omega) (by omega)) <| wa rfl <| wZ ?_
    refine (show _ ∧ _ from ⟨rfl, _, ?_, i + 1, _, _, L2, A2, by omega, rfl, hV2, hG2, hk2.1, hk2.2, hq2, hs, hc4.symm, rfl, rfl, rfl, trivial⟩)
    omega
   ·cases h
  ·repeat (first | refine cQ ?_ | refine CW.block ?_ | refine cK ?_)
   refine cR <| wm rfl <| wm rfl <| wV rfl (run_ixSlN underlying37 ty40 rfl rfl (by omega)) <| wV rfl (run_field (o' := 0) underlying40 rfl ty3 rfl rfl rfl) <| wV rfl (run_load1 ty3 rfl ((hxk.step hs (by simp)).cell (j := 0) rfl)) <| wV rfl (run_bF (run_eql rfl rfl) (by exact hk)) <| wZ ?_
   refine cC rfl (fun h => ?_) (fun h => ?_)
   ·cases h
   repeat (first | refine cQ ?_ | refine cK ?_)
   refine cR <| wm rfl <| wm rfl <| wm rfl <| wm rfl <| wV rfl (run_ixSlN underlying37 ty40 rfl rfl (by omega)) <| wV rfl (run_loadN ty40 rfl rfl (hxk.step hs (by simp))) ?_
   refine wE rfl (run_call en12 rfl rfl) (told_at hs hV hG sn t q hg hxo hxB) ?_
   rintro e w ⟨L2, A2, rfl, hV2, hG2, hq⟩
   refine ⟨_, rfl, ?_⟩
   replace hs := hq
   refine wV rfl (run_not rfl) <| wZ ?_
   have hk2 := do_keeps sn t x
   have hq2 := (do_quo sn t q x).1
   refine cC rfl (fun h => ?_) (fun h => ?_)
   ·cases h
   refine cK <| cR <| wm rfl <| wV rfl (run_add (c := ((i + 1 : Nat) : Int)) rfl rfl (by omega) (by omega)) <| wa rfl <| wZ ?_
   refine (show _ ∧ _ from ⟨rfl, _, ?_, i + 1, _, _, L2, A2, by omega, rfl, hV2, hG2, hk2.1, hk2.2, hq2, hs, hc4.symm, rfl, rfl, rfl, trivial⟩)
   omega
 ·have hobt := hf.chain
  obtain ⟨g, rfl⟩ := hobt
  have hi0 : i64s 0 := by unfold i64s; omega
  have hok : ∀ {k : Int} {w : World}, i64s k → (⟨k, 0, 0, [], .slice none 0 0, []⟩ : Stv).Ok w := fun hk => ⟨hk, hi0, hi0, by simp, Sl.nil _ _ _, by simp⟩
  have hk8 := do_keeps sn t ⟨8, 0, 0, [], .slice none 0 0, []⟩
  have hq8 := (do_quo sn t q ⟨8, 0, 0, [], .slice none 0 0, []⟩).1
  have ht := fun {w : World} {s : VS} {L A : List (Nat × Obj)} {k : Int} (hk : i64s k) (hs : Step [] (L ++ A) w0 w) (hV : VRep bf s L) (hG : RRep bg s A) sn t q => (told_at hs hV hG sn t q hg (x := ⟨k, 0, 0, [], .slice none 0 0, []⟩) (hok hk) (by simp) : Calls Tryz.prog 12 #[.pointer (some ⟨bf, 0, none⟩), .pointer (some ⟨bg, 0, none⟩), .agg #[.int .i64 k, .int .i64 0, .int .i64 0, str [], .slice none 0 0]] w _)
  refine cQ <| cQ <| cR <| wm rfl <| wm rfl <| wV rfl (run_lenSl underlying37 rfl) <| wV rfl (run_bF (run_lss rfl rfl) (by omega)) <| wZ ?_
  refine cC rfl (fun h => ?_) (fun h => ?_)
  ·cases h
  repeat (first | refine cQ ?_ | refine CW.exit ?_)
  refine cR <| wm rfl <| wm rfl <| wV rfl (run_build rfl (bld_stp0 8 _)) ?_
  refine wE rfl (run_call en12 rfl rfl) (ht (by unfold i64s; omega) hs hV hG sn t q) ?_
  rintro e w ⟨L2, A2, rfl, hV2, hG2, hq⟩
  refine ⟨_, rfl, ?_⟩
  replace hs := hq
  refine wm rfl <| WL.yes rfl rfl rfl <| wm rfl <| WL.yes rfl rfl rfl <| wm rfl <| WL.yes rfl rfl rfl <| wV rfl (run_build rfl (bld_stp0 9 _)) <| WL.yes rfl rfl rfl ?_
  refine wE rfl (run_call en12 rfl rfl) (ht (by unfold i64s; omega) hs hV2 hG2 hk8.1 hk8.2 hq8) ?_
  rintro e w ⟨L3, A3, rfl, hV3, hG3, hq⟩
  refine ⟨_, rfl, ?_⟩
  replace hs := hq
  refine wV rfl (run_pickT rfl) <| wa rfl <| wZ ?_
  refine CW.ret ?_
  refine fin_ret1 rfl ?_
  exact ⟨rfl, hs.clear⟩
end Go.Gx
