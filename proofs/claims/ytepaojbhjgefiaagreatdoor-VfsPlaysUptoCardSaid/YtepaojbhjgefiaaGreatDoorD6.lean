/- The document's files: missing, walked. The document's files: what Open leaves. No program in sight. The document's files: Open's rows and handles, plain. The document's files: Open, walked. -/
import Derived.Test.YtepaojbhjgefiaaGreatDoorD5
import Derived.Test.YtepaojbhjgefiaaGreatDoorC1
set_option linter.unusedVariables false
set_option linter.unusedSimpArgs false
/-! Vq11 -/
namespace Go.Gx
open Go.Proofs Go.Proofs.Tryz Go.RowKit
set_option maxRecDepth 100000
section
variable {α : Type} {x y z : α} {l m n : List α}
theorem perm_qm1 : (x :: (l ++ m)).Perm (l ++ (x :: m)) := List.perm_middle.symm
end
theorem ups_at {ps : List (List UInt8)} {j : Nat} (h : j + 1 < ps.length) : upsR (ps.take j) (ps.drop j) = joinL (ps.take (j + 1)) :: upsR (ps.take (j + 1)) (ps.drop (j + 1)) := by
 rw [List.drop_eq_getElem_cons (by omega), List.drop_eq_getElem_cons h, upsR, List.take_append_getElem (by omega)]
theorem ups_end {ps : List (List UInt8)} {j : Nat} (h : j + 1 = ps.length) : upsR (ps.take j) (ps.drop j) = [] := by
 rw [List.drop_eq_getElem_cons (by omega), List.drop_of_length_le (by omega), upsR]
 intros
 simp_all
theorem named_sum {l : List (List UInt8)} (hn : Named l) (hl : l.length ≤ 32) : (l.map fun x => x.length + 1).sum ≤ 9000000 := by
 have hgo : ∀ (l : List (List UInt8)), (∀ x ∈ l, x.length ≤ 64) → (l.map fun x => x.length + 1).sum ≤ l.length * 65 := by
  intro l
  induction l with
  | nil => intro _; simp
  | cons a l ih =>
   intro h
   have h1 := h a (by simp)
   have h2 := ih fun x hx => h x (by simp [hx])
   simp only [List.map_cons, List.sum_cons, List.length_cons]
   omega
 have h1 := hgo l fun x hx => isName_le (hn x hx)
 omega
/-- What of a path is not there, and what its way makes. -/
def VS.missL (s : VS) (made : Bool) (p : List UInt8) : List (List UInt8) := if (s.way made (upsF [] p) []).2 ≠ 0 then [] else (s.way made (upsF [] p) []).1 ++ (if (atL s.itemsL p).isNone then [p] else [])
section
variable {bg : Nat} {s : VS} {A Lu Lh : List (Nat × Obj)} {u uh : Value} {R : List RowI} {w0 : World}
set_option maxHeartbeats 4000000 in
theorem rmissing_spec (o : ROpen bg s A u uh R Lu Lh) (sn : s.Sane) (t : s.Tree) (hw : ∀ p ∈ A, w0.heap[p.1]? = some p.2) {p : List UInt8} {made : Bool} (hcl : isCleanL p = true) (hp0 : p ≠ []) : Calls Tryz.prog 59 #[.pointer (some ⟨bg, 0, none⟩), str p, .bool made] w0 fun e w' => ∃ v Lv, e = .returned (.tuple #[v, .int .i64 (s.way made (upsF [] p) []).2]) ∧ OwnSl 9 1 v (s.missL made p).length (strs (s.missL made p)) Lv ∧ Step [] Lv w0 w' := by
 have hs : Step [] [] w0 w0 := Step.refl w0
 have hlw : ∀ {L : List (Nat × Obj)} {w : World}, Step [] L w0 w → ∀ p ∈ A, w.heap[p.1]? = some p.2 := fun hs p hp => hs.old (hw p hp) (by simp)
 have hpl := clean_len hcl
 have h0 : partsL p ≠ [] := fun h => hp0 (partsL_nil h)
 have hobt := clean_named hcl
 obtain ⟨hnm, hn32⟩ := hobt
 have hjp : joinL (partsL p) = p := joinL_partsL p
 have eups : upsF [] p = upsR [] (partsL p) := by
  have := ups_join (partsL p) [] [] (fun x hx => isName_slash (hnm x hx)) (fun x => by simp [joinL_one])
  rw [joinL_partsL] at this
  exact this
 have hobt : ∃ W, s.way made (upsF [] p) [] = W := ⟨_, rfl⟩
 obtain ⟨W, hW⟩ := hobt
 have hobt : ∃ ms, s.missL made p = ms := ⟨_, rfl⟩
 obtain ⟨ms, hms⟩ := hobt
 have hmsE : ms = if W.2 ≠ 0 then [] else W.1 ++ (if (atL s.itemsL p).isNone then [p] else []) := by rw [← hms, ← hW]; rfl
 rw [hms, hW]
 rw [eups] at hW
 have hobt : ∃ ps, partsL p = ps := ⟨_, rfl⟩
 obtain ⟨ps, hps⟩ := hobt
 have hpt := fun w => refParts_spec (s := p) w (by omega)
 simp only [hps] at hpt
 rw [hps] at h0 hnm hn32 hW hjp
 have hl0 : 0 < ps.length := List.length_pos_iff.2 h0
 have hof := o.own.form
 obtain ⟨au0, cu0, hu0⟩ := hof
 have hatS := fun {L w} q (hs : Step [] L w0 w) => rat_spec (p := q) o sn (hlw hs)
 refine calls (n := 69) Tryz.func59 rfl rfl rfl ?_
 refine cQ <| cR <| wa rfl <| wa rfl <| wZ <| cQ <| cR <| wm rfl ?_
 refine wE rfl (run_call en89 rfl rfl) (hpt _) ?_
 rintro e w ⟨v8, L8, rfl, hu8, hq⟩
 refine ⟨_, rfl, ?_⟩
 have hs1 : Step [] L8 w0 w := hq
 replace hs := hs1
 have hfu := hu8.form
 obtain ⟨a8, c8, hfe⟩ := hfu
 subst hfe
 refine wa rfl <| wZ ?_
 have hobt := hu8.some1 hl0
 obtain ⟨b8, cap8, more8, hqq, hL8, hc8⟩ := hobt
 have hqq2 := hqq
 injection hqq2 with e1 e2 e3
 have hcap : ps.length ≤ c8 := by
  rw [List.length_append, strs_len] at hc8
  omega
 subst e1
 have hpa : ∀ {j : Nat} {L : List (Nat × Obj)} {w : World}, j ≤ ps.length → Step [] (L ++ L8) w0 w → Calls Tryz.prog 91 #[.slice (some ⟨b8, 0, none⟩) j c8] w (Ret0 (str (joinL (ps.take j))) w) := fun {j L w} hj hs => by
  have hle : (ps.take j).length = j := by rw [List.length_take]; omega
  exact refPath_spec (u := .slice (some ⟨b8, 0, none⟩) j c8) (ps := ps.take j) w (by rw [hle]; exact OwnSl.front hu8 hj hl0) (Step.dropL hs).own1 (named_sum (fun x hx => hnm x (List.mem_of_mem_take hx)) (by omega))
 have hq : ∀ {j : Nat}, 0 < j → isCleanL (joinL (ps.take j)) = true ∧ joinL (ps.take j) ≠ [] := fun {j} hj => by
  have hobt := named_clean (row := ps.take j) (fun x hx => hnm x (List.mem_of_mem_take hx)) (by rw [List.length_take]; omega)
  obtain ⟨h1, h2⟩ := hobt
  refine ⟨h1, fun h3 => ?_⟩
  rw [h3] at h2
  have h4 := congrArg List.length h2
  rw [List.length_take] at h4
  simp [partsL] at h4
  omega
 refine cQ <| cR <| wa rfl <| wZ <| cQ <| cQ <| cR <| wa rfl <| wZ <| CW.block ?_
 refine CW.loop (fun m f w => ∃ j acc v9 L9, j ≤ ps.length ∧ m = ps.length - j ∧ (j < ps.length → s.way made (upsR (ps.take j) (ps.drop j)) acc = W) ∧ (j = ps.length → W.2 = 0 ∧ ms = acc) ∧ acc.length ≤ j ∧ OwnSl 9 1 v9 acc.length (strs acc) L9 ∧ Step [] (L9 ++ L8) w0 w ∧ Holds f [(0, .pointer (some ⟨bg, 0, none⟩)), (1, str p), (2, .bool made), (8, .slice (some ⟨b8, 0, none⟩) ps.length c8), (9, v9), (10, .int .i64 ((j + 1 : Nat) : Int))]) (m := ps.length) ?_ ?_
 ·exact ⟨0, [], _, [], by omega, by omega, fun _ => hW, fun h => by omega, by simp, .nil _ _, hs, rfl, rfl, rfl, rfl, rfl, rfl, trivial⟩
 clear hs
 rintro m f w ⟨j, acc, v9, L9, hj, rfl, hway, hend, hal, hv9, hs, hf⟩
 have hobt := hf.chain
 obtain ⟨g, rfl⟩ := hobt
 have hobt := hv9.form
 obtain ⟨a9, c9, rfl⟩ := hobt
 by_cases hlt : j < ps.length
 ·have hwj := hway hlt
  have hobt := hq (j := j + 1) (by omega)
  obtain ⟨hqc, hq0⟩ := hobt
  have hobt : ∃ q, joinL (ps.take (j + 1)) = q := ⟨_, rfl⟩
  obtain ⟨q, hqe⟩ := hobt
  have hpaj := fun {L w} (hs : Step [] (L ++ L8) w0 w) => hpa (j := j + 1) (by omega) hs
  simp only [hqe] at hpaj
  rw [hqe] at hqc hq0
  have hatq := fun {L w} (hs : Step [] L w0 w) => hatS q hs
  by_cases hlast : j + 1 < ps.length
  ·rw [ups_at hlast, VS.way, hqe] at hwj
   cases hF : s.file q with
   | some fi =>
    have hobt := at_file t hF
    obtain ⟨k, x, h1, h2, h3⟩ := hobt
    have hobt := o.row h2
    obtain ⟨r, hr, hrp, hrd, hrx⟩ := hobt
    have hrd : r.d = false := hrd
    have hobt := o.cells hr
    obtain ⟨bu, cu, huu, hcell⟩ := hobt
    have hkl := (List.getElem?_eq_some_iff.1 hr).1
    have hul2 : ∀ {L : List (Nat × Obj)} {w : World}, Step [] L w0 w → w.cell? ⟨bg, 0, none⟩ = some (.slice (some ⟨bu, 0, none⟩) R.length cu) := fun hs => by
     rw [cell_blk (o.fs (hlw hs)), ← huu]
     rfl
    rw [hF, Option.isSome_some, if_pos rfl] at hwj
    subst hwj
    rw [if_pos (by decide)] at hmsE
    subst hmsE
    simp only [atI_some h1] at hatq
    refine cQ <| cQ <| cR <| wm rfl <| wm rfl <| wV rfl (run_lenSl underlying88 rfl) <| wV rfl (run_bT (run_leq rfl rfl) (by omega)) <| wZ ?_
    refine cC rfl (fun h => ?_) (fun h => ?_)
    rotate_left 1
    ·cases h
    repeat (first | refine cQ ?_ | refine CW.block ?_ | refine cK ?_)
    refine cR <| wm rfl <| wm rfl <| wV rfl (run_sliceSl0 (hi := j + 1) (m := c8) underlying88 ty9 rfl rfl rfl (by simp) (by omega) (by omega)) ?_
    refine wE rfl (run_call en91 rfl rfl) (hpaj hs) ?_
    rintro e w ⟨rfl, hq⟩
    refine ⟨_, rfl, ?_⟩
    replace hs := hs.callE hq
    refine wa rfl <| wZ <| cQ <| cR <| wm rfl <| wm rfl ?_
    refine wE rfl (run_call en60 rfl rfl) (hatq hs) ?_
    rintro e w ⟨rfl, hq⟩
    refine ⟨_, rfl, ?_⟩
    replace hs := hs.callE hq
    refine wa rfl <| wZ ?_
    repeat (first | refine cQ ?_ | refine CW.block ?_)
    refine cR <| wm rfl <| wm rfl <| wV rfl (run_lenSl underlying88 rfl) <| wV rfl (run_bT (run_lss rfl rfl) (by omega)) <| wm rfl <| WL.yes rfl rfl rfl <| wm rfl <| WL.yes rfl rfl rfl <| wV rfl (run_bT (run_geq rfl rfl) (by omega)) <| wV rfl (run_pickT rfl) <| wm rfl <| WL.yes rfl rfl rfl <| wm rfl <| WL.yes rfl rfl rfl <| wn rfl rfl <| WL.yes rfl rfl rfl <| wV rfl (run_field (o' := 0) underlying34 rfl ty22 rfl rfl rfl) <| WL.yes rfl rfl rfl <| wV rfl (run_load1 ty22 rfl (hul2 hs)) <| WL.yes rfl rfl rfl <| wm rfl ?_
    refine WL.yes rfl rfl rfl ?_; (first | refine wV rfl (run_ixSlN underlying22 ty56 rfl rfl (by omega)) ?_ | refine wV rfl (run_ixSl underlying22 ty56 rfl rfl (by omega)) ?_)
    refine WL.yes rfl rfl rfl <| wV rfl (run_field (o' := 1) underlying56 rfl ty4 rfl rfl rfl) ?_
    refine WL.yes rfl rfl rfl <| wV rfl (run_load1 ty4 rfl (((hcell (hlw hs)).cell (j := 1) (v := .bool false) (by rw [← hrd]; rfl)))) ?_
    refine WL.yes rfl rfl rfl ?_; (first | refine wV rfl (run_notB rfl) ?_ | refine wV rfl (run_not rfl) ?_)
    refine wV rfl (run_pickT rfl) <| wa rfl <| wZ ?_
    refine cC rfl (fun h => ?_) (fun h => ?_)
    ·refine cQ <| cR <| wa rfl <| wa rfl <| wZ ?_
     refine CW.ret ?_
     refine fin_ret2 rfl ?_
     exact ⟨_, [], rfl, .nil _ _, hs.clear⟩
    ·cases h
   | none =>
    rw [hF, Option.isSome_none, if_neg (by simp)] at hwj
    cases hD : s.dir q with
    | some fi =>
     have hobt := at_dir t hq0 (by rw [hD]; rfl)
     obtain ⟨k, h1, h2⟩ := hobt
     have hobt := o.row h2
     obtain ⟨r, hr, hrp, hrd, hrx⟩ := hobt
     have hrd : r.d = true := hrd
     have hobt := o.cells hr
     obtain ⟨bu, cu, huu, hcell⟩ := hobt
     have hkl := (List.getElem?_eq_some_iff.1 hr).1
     have hul2 : ∀ {L : List (Nat × Obj)} {w : World}, Step [] L w0 w → w.cell? ⟨bg, 0, none⟩ = some (.slice (some ⟨bu, 0, none⟩) R.length cu) := fun hs => by
      rw [cell_blk (o.fs (hlw hs)), ← huu]
      rfl
     rw [hD, Option.isSome_some, if_pos rfl] at hwj
     simp only [atI_some h1] at hatq
     refine cQ <| cQ <| cR <| wm rfl <| wm rfl <| wV rfl (run_lenSl underlying88 rfl) <| wV rfl (run_bT (run_leq rfl rfl) (by omega)) <| wZ ?_
     refine cC rfl (fun h => ?_) (fun h => ?_)
     rotate_left 1
     ·cases h
     repeat (first | refine cQ ?_ | refine CW.block ?_ | refine cK ?_)
     refine cR <| wm rfl <| wm rfl <| wV rfl (run_sliceSl0 (hi := j + 1) (m := c8) underlying88 ty9 rfl rfl rfl (by simp) (by omega) (by omega)) ?_
     refine wE rfl (run_call en91 rfl rfl) (hpaj hs) ?_
     rintro e w ⟨rfl, hq⟩
     refine ⟨_, rfl, ?_⟩
     replace hs := hs.callE hq
     refine wa rfl <| wZ <| cQ <| cR <| wm rfl <| wm rfl ?_
     refine wE rfl (run_call en60 rfl rfl) (hatq hs) ?_
     rintro e w ⟨rfl, hq⟩
     refine ⟨_, rfl, ?_⟩
     replace hs := hs.callE hq
     refine wa rfl <| wZ ?_
     repeat (first | refine cQ ?_ | refine CW.block ?_)
     refine cR <| wm rfl <| wm rfl <| wV rfl (run_lenSl underlying88 rfl) <| wV rfl (run_bT (run_lss rfl rfl) (by omega)) <| wm rfl <| WL.yes rfl rfl rfl <| wm rfl <| WL.yes rfl rfl rfl <| wV rfl (run_bT (run_geq rfl rfl) (by omega)) <| wV rfl (run_pickT rfl) <| wm rfl <| WL.yes rfl rfl rfl <| wm rfl <| WL.yes rfl rfl rfl <| wn rfl rfl <| WL.yes rfl rfl rfl <| wV rfl (run_field (o' := 0) underlying34 rfl ty22 rfl rfl rfl) <| WL.yes rfl rfl rfl <| wV rfl (run_load1 ty22 rfl (hul2 hs)) <| WL.yes rfl rfl rfl <| wm rfl ?_
     refine WL.yes rfl rfl rfl ?_; (first | refine wV rfl (run_ixSlN underlying22 ty56 rfl rfl (by omega)) ?_ | refine wV rfl (run_ixSl underlying22 ty56 rfl rfl (by omega)) ?_)
     refine WL.yes rfl rfl rfl <| wV rfl (run_field (o' := 1) underlying56 rfl ty4 rfl rfl rfl) ?_
     refine WL.yes rfl rfl rfl <| wV rfl (run_load1 ty4 rfl (((hcell (hlw hs)).cell (j := 1) (v := .bool true) (by rw [← hrd]; rfl)))) ?_
     refine WL.yes rfl rfl rfl ?_; (first | refine wV rfl (run_notB rfl) ?_ | refine wV rfl (run_not rfl) ?_)
     refine wV rfl (run_pickT rfl) <| wa rfl <| wZ ?_
     refine cC rfl (fun h => ?_) (fun h => ?_)
     ·cases h
     refine cQ <| cR <| wm rfl <| wm rfl <| wV rfl (run_lenSl underlying88 rfl) <| wV rfl (run_bT (run_lss rfl rfl) (by omega)) <| wm rfl <| WL.yes rfl rfl rfl <| wm rfl <| WL.yes rfl rfl rfl <| wV rfl (run_bF (run_lss rfl rfl) (by omega)) <| wV rfl (run_pickT rfl) <| wm rfl <| WL.no rfl rfl rfl (.inl rfl) <| WL.no rfl rfl rfl (.inl rfl) <| wV rfl (run_pickF rfl) <| wa rfl <| wZ ?_
     refine cC rfl (fun h => ?_) (fun h => ?_)
     ·cases h
     refine cQ <| cR <| wm rfl <| wV rfl (run_bF (run_lss rfl rfl) (by omega)) <| wa rfl <| wZ ?_
     refine cC rfl (fun h => ?_) (fun h => ?_)
     ·cases h
     refine cK <| cR <| wm rfl <| wV rfl (run_add (c := ((j + 1 + 1 : Nat) : Int)) rfl rfl (by omega) (by omega)) <| wa rfl <| wZ ?_
     refine (show _ ∧ _ from ⟨rfl, _, ?_, j + 1, acc, _, L9, by omega, rfl, fun _ => hwj, fun h => by omega, by omega, hv9, hs, rfl, rfl, rfl, rfl, rfl, rfl, trivial⟩)
     omega
    | none =>
     have h1 := at_none t hF hD
     simp only [atI_none h1] at hatq
     rw [hD, Option.isSome_none, if_neg (by simp)] at hwj
     cases made with
     | false =>
      rw [if_pos rfl] at hwj
      subst hwj
      rw [if_pos (by decide)] at hmsE
      subst hmsE
      refine cQ <| cQ <| cR <| wm rfl <| wm rfl <| wV rfl (run_lenSl underlying88 rfl) <| wV rfl (run_bT (run_leq rfl rfl) (by omega)) <| wZ ?_
      refine cC rfl (fun h => ?_) (fun h => ?_)
      rotate_left 1
      ·cases h
      repeat (first | refine cQ ?_ | refine CW.block ?_ | refine cK ?_)
      refine cR <| wm rfl <| wm rfl <| wV rfl (run_sliceSl0 (hi := j + 1) (m := c8) underlying88 ty9 rfl rfl rfl (by simp) (by omega) (by omega)) ?_
      refine wE rfl (run_call en91 rfl rfl) (hpaj hs) ?_
      rintro e w ⟨rfl, hq⟩
      refine ⟨_, rfl, ?_⟩
      replace hs := hs.callE hq
      refine wa rfl <| wZ <| cQ <| cR <| wm rfl <| wm rfl ?_
      refine wE rfl (run_call en60 rfl rfl) (hatq hs) ?_
      rintro e w ⟨rfl, hq⟩
      refine ⟨_, rfl, ?_⟩
      replace hs := hs.callE hq
      refine wa rfl <| wZ ?_
      repeat (first | refine cQ ?_ | refine CW.block ?_)
      refine cR <| wm rfl <| wm rfl <| wV rfl (run_lenSl underlying88 rfl) <| wV rfl (run_bT (run_lss rfl rfl) (by omega)) <| wm rfl <| WL.yes rfl rfl rfl <| wm rfl <| WL.yes rfl rfl rfl <| wV rfl (run_bF (run_geq rfl rfl) (by omega)) <| wV rfl (run_pickT rfl) <| wm rfl <| WL.no rfl rfl rfl (.inl rfl) <| WL.no rfl rfl rfl (.inl rfl) <| WL.no rfl rfl rfl (.inl rfl) <| WL.no rfl rfl rfl (.inl rfl) <| WL.no rfl rfl rfl (.inl rfl) <| WL.no rfl rfl rfl (.inl rfl) <| WL.no rfl rfl rfl (.inl rfl) <| WL.no rfl rfl rfl (.inl rfl) <| WL.no rfl rfl rfl (.inl rfl) <| wV rfl (run_pickF rfl) <| wa rfl <| wZ ?_
      refine cC rfl (fun h => ?_) (fun h => ?_)
      ·cases h
      refine cQ <| cR <| wm rfl <| wm rfl <| wV rfl (run_lenSl underlying88 rfl) <| wV rfl (run_bT (run_lss rfl rfl) (by omega)) <| wm rfl <| WL.yes rfl rfl rfl <| wm rfl <| WL.yes rfl rfl rfl <| wV rfl (run_bT (run_lss rfl rfl) (by omega)) <| wV rfl (run_pickT rfl) <| wm rfl <| WL.yes rfl rfl rfl <| wm rfl ?_
      refine WL.yes rfl rfl rfl ?_; (first | refine wV rfl (run_notB rfl) ?_ | refine wV rfl (run_not rfl) ?_)
      refine wV rfl (run_pickT rfl) <| wa rfl <| wZ ?_
      refine cC rfl (fun h => ?_) (fun h => ?_)
      ·refine cQ <| cR <| wa rfl <| wa rfl <| wZ ?_
       refine CW.ret ?_
       refine fin_ret2 rfl ?_
       exact ⟨_, [], rfl, .nil _ _, hs.clear⟩
      ·cases h
     | true =>
      rw [if_neg (by simp)] at hwj
      refine cQ <| cQ <| cR <| wm rfl <| wm rfl <| wV rfl (run_lenSl underlying88 rfl) <| wV rfl (run_bT (run_leq rfl rfl) (by omega)) <| wZ ?_
      refine cC rfl (fun h => ?_) (fun h => ?_)
      rotate_left 1
      ·cases h
      repeat (first | refine cQ ?_ | refine CW.block ?_ | refine cK ?_)
      refine cR <| wm rfl <| wm rfl <| wV rfl (run_sliceSl0 (hi := j + 1) (m := c8) underlying88 ty9 rfl rfl rfl (by simp) (by omega) (by omega)) ?_
      refine wE rfl (run_call en91 rfl rfl) (hpaj hs) ?_
      rintro e w ⟨rfl, hq⟩
      refine ⟨_, rfl, ?_⟩
      replace hs := hs.callE hq
      refine wa rfl <| wZ <| cQ <| cR <| wm rfl <| wm rfl ?_
      refine wE rfl (run_call en60 rfl rfl) (hatq hs) ?_
      rintro e w ⟨rfl, hq⟩
      refine ⟨_, rfl, ?_⟩
      replace hs := hs.callE hq
      refine wa rfl <| wZ ?_
      repeat (first | refine cQ ?_ | refine CW.block ?_)
      refine cR <| wm rfl <| wm rfl <| wV rfl (run_lenSl underlying88 rfl) <| wV rfl (run_bT (run_lss rfl rfl) (by omega)) <| wm rfl <| WL.yes rfl rfl rfl <| wm rfl <| WL.yes rfl rfl rfl <| wV rfl (run_bF (run_geq rfl rfl) (by omega)) <| wV rfl (run_pickT rfl) <| wm rfl <| WL.no rfl rfl rfl (.inl rfl) <| WL.no rfl rfl rfl (.inl rfl) <| WL.no rfl rfl rfl (.inl rfl) <| WL.no rfl rfl rfl (.inl rfl) <| WL.no rfl rfl rfl (.inl rfl) <| WL.no rfl rfl rfl (.inl rfl) <| WL.no rfl rfl rfl (.inl rfl) <| WL.no rfl rfl rfl (.inl rfl) <| WL.no rfl rfl rfl (.inl rfl) <| wV rfl (run_pickF rfl) <| wa rfl <| wZ ?_
      refine cC rfl (fun h => ?_) (fun h => ?_)
      ·cases h
      refine cQ <| cR <| wm rfl <| wm rfl <| wV rfl (run_lenSl underlying88 rfl) <| wV rfl (run_bT (run_lss rfl rfl) (by omega)) <| wm rfl <| WL.yes rfl rfl rfl <| wm rfl <| WL.yes rfl rfl rfl <| wV rfl (run_bT (run_lss rfl rfl) (by omega)) <| wV rfl (run_pickT rfl) <| wm rfl <| WL.yes rfl rfl rfl <| wm rfl ?_
      refine WL.yes rfl rfl rfl ?_; (first | refine wV rfl (run_notB rfl) ?_ | refine wV rfl (run_not rfl) ?_)
      refine wV rfl (run_pickT rfl) <| wa rfl <| wZ ?_
      refine cC rfl (fun h => ?_) (fun h => ?_)
      ·cases h
      refine cQ <| cR <| wm rfl <| wV rfl (run_bT (run_lss rfl rfl) (by omega)) <| wa rfl <| wZ ?_
      refine cC rfl (fun h => ?_) (fun h => ?_)
      ·skip
       refine cR <| wm rfl <| wm rfl ?_
       refine WL.buildSlice (cs := [str q]) underlying88 ty9 rfl (by decide) rfl (filled_s _ _ rfl) rfl hs (fun b66 w hs => ?_)
       have hsl1 : Sl w 1 (.slice (some ⟨b66, 0, none⟩) 1 1) 1 [str q] := .own1 hs rfl
       refine WL.append underlying88 underlying88 ty9 rfl (by decide) rfl rfl (hv9) ((hs.perm perm_qm1)) (hsl1) (Cells1.of_all rfl) (by first | omega | (simp only [List.length_append, List.length_cons, List.length_nil]; omega)) rfl (fun v67 Lv67 w hv67 hs => ?_)
       refine wa rfl <| wZ ?_
       have eP : strs acc ++ [str q] = strs (acc ++ [q]) := by simp [strs]
       rw [eP] at hv67
       replace hs := (hs.perm perm_qm1.symm).tail
       refine cR <| wm rfl <| wV rfl (run_add (c := ((j + 1 + 1 : Nat) : Int)) rfl rfl (by omega) (by omega)) <| wa rfl <| wZ ?_
       refine (show _ ∧ _ from ⟨rfl, _, ?_, j + 1, acc ++ [q], _, _, by omega, rfl, fun _ => hwj, fun h => by omega, by rw [List.length_append]; simp; omega, ?_, hs, rfl, rfl, rfl, rfl, rfl, rfl, trivial⟩)
       ·omega
       ·rw [List.length_append]
        exact hv67
      ·cases h
  ·have hje : j + 1 = ps.length := by omega
   rw [ups_end hje, VS.way] at hwj
   have hqp : q = p := by rw [← hqe, hje, List.take_length, hjp]
   subst hqp
   subst hwj
   rw [if_neg (by simp)] at hmsE
   cases hk : atL s.itemsL q with
   | some k =>
    rw [hk, Option.isNone_some, if_neg (by simp), List.append_nil] at hmsE
    simp only [atI_some hk] at hatq
    refine cQ <| cQ <| cR <| wm rfl <| wm rfl <| wV rfl (run_lenSl underlying88 rfl) <| wV rfl (run_bT (run_leq rfl rfl) (by omega)) <| wZ ?_
    refine cC rfl (fun h => ?_) (fun h => ?_)
    rotate_left 1
    ·cases h
    repeat (first | refine cQ ?_ | refine CW.block ?_ | refine cK ?_)
    refine cR <| wm rfl <| wm rfl <| wV rfl (run_sliceSl0 (hi := j + 1) (m := c8) underlying88 ty9 rfl rfl rfl (by simp) (by omega) (by omega)) ?_
    refine wE rfl (run_call en91 rfl rfl) (hpaj hs) ?_
    rintro e w ⟨rfl, hq⟩
    refine ⟨_, rfl, ?_⟩
    replace hs := hs.callE hq
    refine wa rfl <| wZ <| cQ <| cR <| wm rfl <| wm rfl ?_
    refine wE rfl (run_call en60 rfl rfl) (hatq hs) ?_
    rintro e w ⟨rfl, hq⟩
    refine ⟨_, rfl, ?_⟩
    replace hs := hs.callE hq
    refine wa rfl <| wZ ?_
    repeat (first | refine cQ ?_ | refine CW.block ?_)
    refine cR <| wm rfl <| wm rfl <| wV rfl (run_lenSl underlying88 rfl) <| wV rfl (run_bF (run_lss rfl rfl) (by omega)) <| wm rfl <| WL.no rfl rfl rfl (.inl rfl) <| WL.no rfl rfl rfl (.inl rfl) <| wV rfl (run_pickF rfl) <| wm rfl <| WL.no rfl rfl rfl (.inl rfl) <| WL.no rfl rfl rfl (.inl rfl) <| WL.no rfl rfl rfl (.inl rfl) <| WL.no rfl rfl rfl (.inl rfl) <| WL.no rfl rfl rfl (.inl rfl) <| WL.no rfl rfl rfl (.inl rfl) <| WL.no rfl rfl rfl (.inl rfl) <| WL.no rfl rfl rfl (.inl rfl) <| WL.no rfl rfl rfl (.inl rfl) <| wV rfl (run_pickF rfl) <| wa rfl <| wZ ?_
    refine cC rfl (fun h => ?_) (fun h => ?_)
    ·cases h
    refine cQ <| cR <| wm rfl <| wm rfl <| wV rfl (run_lenSl underlying88 rfl) <| wV rfl (run_bF (run_lss rfl rfl) (by omega)) <| wm rfl <| WL.no rfl rfl rfl (.inl rfl) <| WL.no rfl rfl rfl (.inl rfl) <| wV rfl (run_pickF rfl) <| wm rfl <| WL.no rfl rfl rfl (.inl rfl) <| WL.no rfl rfl rfl (.inl rfl) <| wV rfl (run_pickF rfl) <| wa rfl <| wZ ?_
    refine cC rfl (fun h => ?_) (fun h => ?_)
    ·cases h
    refine cQ <| cR <| wm rfl <| wV rfl (run_bF (run_lss rfl rfl) (by omega)) <| wa rfl <| wZ ?_
    refine cC rfl (fun h => ?_) (fun h => ?_)
    ·cases h
    refine cK <| cR <| wm rfl <| wV rfl (run_add (c := ((j + 1 + 1 : Nat) : Int)) rfl rfl (by omega) (by omega)) <| wa rfl <| wZ ?_
    refine (show _ ∧ _ from ⟨rfl, _, ?_, j + 1, acc, _, L9, by omega, rfl, fun h => by omega, fun _ => ⟨rfl, hmsE⟩, by omega, hv9, hs, rfl, rfl, rfl, rfl, rfl, rfl, trivial⟩)
    omega
   | none =>
    rw [hk, Option.isNone_none, if_pos rfl] at hmsE
    simp only [atI_none hk] at hatq
    refine cQ <| cQ <| cR <| wm rfl <| wm rfl <| wV rfl (run_lenSl underlying88 rfl) <| wV rfl (run_bT (run_leq rfl rfl) (by omega)) <| wZ ?_
    refine cC rfl (fun h => ?_) (fun h => ?_)
    rotate_left 1
    ·cases h
    repeat (first | refine cQ ?_ | refine CW.block ?_ | refine cK ?_)
    refine cR <| wm rfl <| wm rfl <| wV rfl (run_sliceSl0 (hi := j + 1) (m := c8) underlying88 ty9 rfl rfl rfl (by simp) (by omega) (by omega)) ?_
    refine wE rfl (run_call en91 rfl rfl) (hpaj hs) ?_
    rintro e w ⟨rfl, hq⟩
    refine ⟨_, rfl, ?_⟩
    replace hs := hs.callE hq
    refine wa rfl <| wZ <| cQ <| cR <| wm rfl <| wm rfl ?_
    refine wE rfl (run_call en60 rfl rfl) (hatq hs) ?_
    rintro e w ⟨rfl, hq⟩
    refine ⟨_, rfl, ?_⟩
    replace hs := hs.callE hq
    refine wa rfl <| wZ ?_
    repeat (first | refine cQ ?_ | refine CW.block ?_)
    refine cR <| wm rfl <| wm rfl <| wV rfl (run_lenSl underlying88 rfl) <| wV rfl (run_bF (run_lss rfl rfl) (by omega)) <| wm rfl <| WL.no rfl rfl rfl (.inl rfl) <| WL.no rfl rfl rfl (.inl rfl) <| wV rfl (run_pickF rfl) <| wm rfl <| WL.no rfl rfl rfl (.inl rfl) <| WL.no rfl rfl rfl (.inl rfl) <| WL.no rfl rfl rfl (.inl rfl) <| WL.no rfl rfl rfl (.inl rfl) <| WL.no rfl rfl rfl (.inl rfl) <| WL.no rfl rfl rfl (.inl rfl) <| WL.no rfl rfl rfl (.inl rfl) <| WL.no rfl rfl rfl (.inl rfl) <| WL.no rfl rfl rfl (.inl rfl) <| wV rfl (run_pickF rfl) <| wa rfl <| wZ ?_
    refine cC rfl (fun h => ?_) (fun h => ?_)
    ·cases h
    refine cQ <| cR <| wm rfl <| wm rfl <| wV rfl (run_lenSl underlying88 rfl) <| wV rfl (run_bF (run_lss rfl rfl) (by omega)) <| wm rfl <| WL.no rfl rfl rfl (.inl rfl) <| WL.no rfl rfl rfl (.inl rfl) <| wV rfl (run_pickF rfl) <| wm rfl <| WL.no rfl rfl rfl (.inl rfl) <| WL.no rfl rfl rfl (.inl rfl) <| wV rfl (run_pickF rfl) <| wa rfl <| wZ ?_
    refine cC rfl (fun h => ?_) (fun h => ?_)
    ·cases h
    refine cQ <| cR <| wm rfl <| wV rfl (run_bT (run_lss rfl rfl) (by omega)) <| wa rfl <| wZ ?_
    refine cC rfl (fun h => ?_) (fun h => ?_)
    ·skip
     refine cR <| wm rfl <| wm rfl ?_
     refine WL.buildSlice (cs := [str q]) underlying88 ty9 rfl (by decide) rfl (filled_s _ _ rfl) rfl hs (fun b66 w hs => ?_)
     have hsl1 : Sl w 1 (.slice (some ⟨b66, 0, none⟩) 1 1) 1 [str q] := .own1 hs rfl
     refine WL.append underlying88 underlying88 ty9 rfl (by decide) rfl rfl (hv9) ((hs.perm perm_qm1)) (hsl1) (Cells1.of_all rfl) (by first | omega | (simp only [List.length_append, List.length_cons, List.length_nil]; omega)) rfl (fun v67 Lv67 w hv67 hs => ?_)
     refine wa rfl <| wZ ?_
     have eP : strs acc ++ [str q] = strs (acc ++ [q]) := by simp [strs]
     rw [eP] at hv67
     replace hs := (hs.perm perm_qm1.symm).tail
     refine cR <| wm rfl <| wV rfl (run_add (c := ((j + 1 + 1 : Nat) : Int)) rfl rfl (by omega) (by omega)) <| wa rfl <| wZ ?_
     refine (show _ ∧ _ from ⟨rfl, _, ?_, j + 1, acc ++ [q], _, _, by omega, rfl, fun h => by omega, fun _ => ⟨rfl, hmsE⟩, by rw [List.length_append]; simp; omega, ?_, hs, rfl, rfl, rfl, rfl, rfl, rfl, trivial⟩)
     ·omega
     ·rw [List.length_append]
      exact hv67
    ·cases h
 ·have hobt := hend (by omega)
  obtain ⟨hW2, hme⟩ := hobt
  rw [hW2, hme]
  refine cQ <| cQ <| cR <| wm rfl <| wm rfl <| wV rfl (run_lenSl underlying88 rfl) <| wV rfl (run_bF (run_leq rfl rfl) (by omega)) <| wZ ?_
  refine cC rfl (fun h => ?_) (fun h => ?_)
  ·cases h
  repeat (first | refine cQ ?_ | refine CW.exit ?_)
  refine cR <| wm rfl <| wa rfl <| wa rfl <| wZ ?_
  refine CW.ret ?_
  refine fin_ret2 rfl ?_
  exact ⟨_, L9, rfl, hv9, (hs.perm List.perm_append_comm).dropL⟩
end
end Go.Gx
/-! Vq12 -/
namespace Go.Gx
open Go.Proofs Go.Proofs.Tryz Go.RowKit
set_option maxRecDepth 100000
section
variable {s : VS}
theorem put1_keeps (sn : s.Sane) (t : s.Tree) {q : List UInt8} {mode : Int} {M : List (List UInt8)} (hcl : isCleanL q = true) (hq0 : q ≠ []) (hW : s.way (decide (4 ≤ mode)) (upsF [] q) [] = (M, 0)) (hmay : s.mayO q (s.file q) mode M = 0) : (s.put1 q M (s.file q)).1.Sane ∧ (s.put1 q M (s.file q)).1.Tree ∧ (s.put1 q M (s.file q)).2 < (s.put1 q M (s.file q)).1.F.length ∧ (s.put1 q M (s.file q)).1.op = s.op := by
 have hobt := clean_named hcl
 obtain ⟨h1, h2⟩ := hobt
 have hrow : partsL q ≠ [] := fun e => hq0 (partsL_nil e)
 have e1 : upsF [] q = upsR [] (partsL q) := by
  have := ups_join (partsL q) [] [] (fun x hx => isName_slash (h1 x hx)) (fun x => by simp [joinL_one])
  rw [joinL_partsL] at this
  exact this
 have hch := ups_chain (partsL q) [] (by simpa using h1) (by simpa using h2)
 have hlast := ups_last (partsL q) [] hrow
 have hucl := ups_clean (partsL q) [] (by simpa using h1) (by simpa using h2)
 rw [← e1] at hch hlast hucl
 have hj0 : joinL [] = [] := rfl
 rw [hj0] at hch hlast
 rw [List.nil_append] at hlast
 have epar : (splitR q).1 = joinL (partsL q).dropLast := by
  unfold splitR
  rw [hcl, if_neg (by simp), if_neg hrow]
 rw [← epar] at hlast
 have hMf := way_ok hW
 rw [List.nil_append] at hMf
 have hnof := way_nofile hW
 have hobt := miss_chain t hch fun u hu => (hucl u hu).2
 obtain ⟨prev', hc', hml, _⟩ := hobt
 rw [← hMf] at hc' hml
 have hobt := way_made hcl hq0 sn.root hW
 obtain ⟨hmade, hpar⟩ := hobt
 have hfst := way_first hcl hq0 sn.root hW
 have hobt : ∃ x, s.file q = x := ⟨_, rfl⟩
 obtain ⟨x, hx⟩ := hobt
 rw [hx] at hmay ⊢
 have ok := sn.ok
 have hqf := ok.qf
 have hqo := ok.qo
 have hdq : s.dir q = none := by
  unfold VS.mayO at hmay
  split at hmay
  ·cases hmay
  ·rename_i h
   cases hd : s.dir q with
   | none => rfl
   | some j => rw [hd] at h; exact absurd rfl h
 have hop : s.op < 64 := by
  unfold VS.mayO at hmay
  rw [hdq] at hmay
  split at hmay
  ·cases hmay
  ·split at hmay
   ·cases hmay
   ·split at hmay
    ·cases hmay
    ·split at hmay
     ·cases hmay
     ·omega
 have hm4 : mode.toNat % 4 ≤ 3 := by omega
 -- what put1 leaves
 have hput : (s.put1 q M x).1.Sane ∧ (s.put1 q M x).1.Tree ∧ (s.put1 q M x).2 < (s.put1 q M x).1.F.length ∧ (s.put1 q M x).1.op = s.op := by
  cases x with
  | some i =>
   have hqm : q ∈ s.F.map (·.1) := by
    unfold VS.file at hx
    have hobt := List.findIdx?_eq_some_iff_getElem.1 hx
    obtain ⟨g1, g2, _⟩ := hobt
    exact List.mem_map.2 ⟨s.F[i], List.getElem_mem g1, by simpa using g2⟩
   have hM0 : M = [] := by
    rcases hml with h | h
    ·exact h
    ·by_cases hM : M = []
     ·exact hM
     exfalso
     have hp := (t.cl q (.inr hqm) hq0).2
     rw [← hlast, ← h] at hp
     have hne : M.getLast? ≠ none := by simpa using hM
     have hobt := Option.ne_none_iff_exists'.1 hne
     obtain ⟨u, hu⟩ := hobt
     rw [hu, Option.getD_some] at hp
     have hum : u ∈ M := List.mem_of_getLast? hu
     rw [hMf] at hum
     have := (List.mem_filter.1 hum).2
     cases hd : s.dir u <;> simp_all
   subst hM0
   have hil : i < s.F.length := by
    unfold VS.file at hx
    exact (List.findIdx?_eq_some_iff_getElem.1 hx).1
   exact ⟨sn, t, hil, rfl⟩
  | none =>
   obtain ⟨m1, m2⟩ : (s.items : Int) + M.length + 1 ≤ s.qf ∧ ¬ 1024 ≤ s.below (splitR (firstL q M)).1 := by
    unfold VS.mayO at hmay
    rw [hdq] at hmay
    split at hmay
    ·cases hmay
    ·split at hmay
     ·cases hmay
     ·split at hmay
      ·cases hmay
      ·rename_i h
       exact ⟨Int.not_lt.1 fun h2 => h ⟨rfl, .inl h2⟩, fun h2 => h ⟨rfl, .inr h2⟩⟩
   have hroom := room_below hfst m2
   have hMall : ∀ u ∈ M, s.dir u = none ∧ s.file u = none ∧ isCleanL u = true ∧ u ≠ [] := fun u hu => by
    rw [hMf] at hu
    have hobt := List.mem_filter.1 hu
    obtain ⟨a1, a2⟩ := hobt
    refine ⟨?_, hnof u a1, (hucl u a1).1, (hucl u a1).2⟩
    cases hd : s.dir u <;> simp_all
   have hT : (M.foldl VS.addDir s).Tree ∧ (M.foldl VS.addDir s).room (splitR q).1 := by
    cases M with
    | nil => exact ⟨t, hroom⟩
    | cons d M =>
     have hpr : s.room prev' := by
      have : (splitR d).1 = prev' := hc'.1
      rw [← this]
      exact hroom
     have hobt := made_tree hc' t hpr hMall
     obtain ⟨g1, g2⟩ := hobt
     refine ⟨g1, ?_⟩
     rcases hml with h | h
     ·cases h
     ·rw [← hlast, ← h]
      rw [List.getLast?_cons, Option.getD_some] at g2 ⊢
      exact g2
   obtain ⟨hT1, j, n, hj, hjn, hn⟩ := hT
   have hqM : q ∉ M := fun h => by
    have h4 : q ∈ upsF [] q := by rw [hMf] at h; exact (List.mem_filter.1 h).1
    have h5 := ups_lt q [] q h4
    have h6 : ([] : List UInt8).length = 0 := rfl
    omega
   have hdq1 := fold_dir_none M s q hmade hdq hqM
   have hfq1 : (M.foldl VS.addDir s).file q = none := by rw [file_foldDir]; exact hx
   have hTF := hT1.addFile (x := []) hcl hq0 hj hjn hn hdq1 hfq1
   have hobt := file_addFile (x := []) (by rw [hj]; rfl) hfq1
   obtain ⟨n1, n2, n3⟩ := hobt
   have hobt := made_fold M s hmade sn.cnt
   obtain ⟨c1, c2, _, _⟩ := hobt
   have hobt := foldDir_F M s
   obtain ⟨f1, f2, f3, f4, f5, f6, f7⟩ := hobt
   have e : (M.foldl VS.addDir s).addFile q [] = { (M.foldl VS.addDir s).bump j with F := (M.foldl VS.addDir s).F ++ [(q, [])], by_ := (M.foldl VS.addDir s).by_ + ([] : List UInt8).length } := by unfold VS.addFile; rw [hj]
   have hDl : ((M.foldl VS.addDir s).addFile q []).D.length = s.D.length + M.length := by rw [e]; show ((M.foldl VS.addDir s).bump j).D.length = _; rw [bump_len, c2]
   have hFl : ((M.foldl VS.addDir s).addFile q []).F.length = s.F.length + 1 := by rw [n2, f1]; simp
   have hitm : s.items + 1 = s.F.length + s.D.length := by
    have hD1 : 0 < s.D.length := by
     have hobt := Option.isSome_iff_exists.1 sn.root
     obtain ⟨j, hj⟩ := hobt
     unfold VS.dir at hj
     have := (List.findIdx?_eq_some_iff_getElem.1 hj).1
     omega
    unfold VS.items
    omega
   have hlim : ((M.foldl VS.addDir s).addFile q []).F.length + ((M.foldl VS.addDir s).addFile q []).D.length ≤ 65536 := by omega
   have hHe : ((M.foldl VS.addDir s).addFile q []).H = s.H := by rw [e]; exact f3
   have hope : ((M.foldl VS.addDir s).addFile q []).op = s.op := by rw [e]; exact f4
   show ((M.foldl VS.addDir s).addFile q []).Sane ∧ ((M.foldl VS.addDir s).addFile q []).Tree ∧ (M.foldl VS.addDir s).F.length < ((M.foldl VS.addDir s).addFile q []).F.length ∧ ((M.foldl VS.addDir s).addFile q []).op = s.op
   refine ⟨⟨⟨by rw [hHe]; exact ok.h, by omega, by omega, fun y hy => ?_, fun i' pl mo hm => by rw [hHe] at hm; exact ok.at_ i' pl mo hm, by rw [e]; show _ ≤ (M.foldl VS.addDir s).qb ∧ (M.foldl VS.addDir s).qb ≤ _; rw [f5]; exact ok.qb, by rw [e]; show _ ≤ (M.foldl VS.addDir s).qf ∧ (M.foldl VS.addDir s).qf ≤ _; rw [f6]; exact ok.qf, by rw [e]; show _ ≤ (M.foldl VS.addDir s).qo ∧ (M.foldl VS.addDir s).qo ≤ _; rw [f7]; exact ok.qo, by rw [n3, f2]; exact ok.by_, by rw [hope]; exact ok.op⟩, ?_, fun y hy => ?_, hlim, ?_, by rw [hHe]; exact sn.hl, by rw [hope, hHe]; exact sn.op, fun i' pl mo hm => by rw [hHe] at hm; have := sn.fi i' pl mo hm; omega⟩, hTF, ?_, hope⟩
   ·rw [n2, f1] at hy
    rcases List.mem_append.1 hy with h | h
    ·exact ok.x y h
    ·rw [List.mem_singleton.1 h]; exact Nat.zero_le _
   ·rw [e]
    show (((M.foldl VS.addDir s).bump j).dir []).isSome
    rw [dir_bump]
    exact (made_fold M s hmade sn.cnt).2.2.1 [] sn.root
   ·show y.2 ≤ ((M.foldl VS.addDir s).addFile q []).D.length + ((M.foldl VS.addDir s).addFile q []).F.length
    rw [hDl, hFl]
    rw [e] at hy
    have hobt := bump_mem hy
    obtain ⟨y0, b1, _, b2⟩ := hobt
    have := c1 y0 b1
    rw [c2, f1] at this
    omega
   ·rw [n3, n2, f1, f2, sn.sum]
    simp
   ·show (M.foldl VS.addDir s).F.length < ((M.foldl VS.addDir s).addFile q []).F.length
    rw [hFl, f1]
    omega
 exact hput
theorem way_file (sn : s.Sane) (t : s.Tree) {q : List UInt8} {mend : Bool} {M : List (List UInt8)} (hcl : isCleanL q = true) (hq0 : q ≠ []) (hW : s.way mend (upsF [] q) [] = (M, 0)) {i : Nat} (hx : s.file q = some i) : M = [] := by
 have hobt := clean_named hcl
 obtain ⟨h1, h2⟩ := hobt
 have hrow : partsL q ≠ [] := fun e => hq0 (partsL_nil e)
 have e1 : upsF [] q = upsR [] (partsL q) := by
  have := ups_join (partsL q) [] [] (fun x hx => isName_slash (h1 x hx)) (fun x => by simp [joinL_one])
  rw [joinL_partsL] at this
  exact this
 have hch := ups_chain (partsL q) [] (by simpa using h1) (by simpa using h2)
 have hlast := ups_last (partsL q) [] hrow
 have hucl := ups_clean (partsL q) [] (by simpa using h1) (by simpa using h2)
 rw [← e1] at hch hlast hucl
 have hj0 : joinL [] = [] := rfl
 rw [hj0] at hch hlast
 rw [List.nil_append] at hlast
 have epar : (splitR q).1 = joinL (partsL q).dropLast := by
  unfold splitR
  rw [hcl, if_neg (by simp), if_neg hrow]
 rw [← epar] at hlast
 have hMf := way_ok hW
 rw [List.nil_append] at hMf
 have hobt := miss_chain t hch fun u hu => (hucl u hu).2
 obtain ⟨prev', hc', hml, _⟩ := hobt
 rw [← hMf] at hc' hml
 have hqm : q ∈ s.F.map (·.1) := by
  unfold VS.file at hx
  have hobt := List.findIdx?_eq_some_iff_getElem.1 hx
  obtain ⟨g1, g2, _⟩ := hobt
  exact List.mem_map.2 ⟨s.F[i], List.getElem_mem g1, by simpa using g2⟩
 rcases hml with h | h
 ·exact h
 ·by_cases hM : M = []
  ·exact hM
  exfalso
  have hp := (t.cl q (.inr hqm) hq0).2
  rw [← hlast, ← h] at hp
  have hne : M.getLast? ≠ none := by simpa using hM
  have hobt := Option.ne_none_iff_exists'.1 hne
  obtain ⟨u, hu⟩ := hobt
  rw [hu, Option.getD_some] at hp
  have hum : u ∈ M := List.mem_of_getLast? hu
  rw [hMf] at hum
  have := (List.mem_filter.1 hum).2
  cases hd : s.dir u <;> simp_all
theorem way_each {q : List UInt8} {mend : Bool} {M : List (List UInt8)} (hcl : isCleanL q = true) (hW : s.way mend (upsF [] q) [] = (M, 0)) : ∀ u ∈ M, s.dir u = none ∧ s.file u = none ∧ isCleanL u = true ∧ u ≠ [] ∧ u.length < q.length := by
 have hobt := clean_named hcl
 obtain ⟨h1, h2⟩ := hobt
 have e1 : upsF [] q = upsR [] (partsL q) := by
  have := ups_join (partsL q) [] [] (fun x hx => isName_slash (h1 x hx)) (fun x => by simp [joinL_one])
  rw [joinL_partsL] at this
  exact this
 have hucl := ups_clean (partsL q) [] (by simpa using h1) (by simpa using h2)
 rw [← e1] at hucl
 have hMf := way_ok hW
 rw [List.nil_append] at hMf
 intro u hu
 rw [hMf] at hu
 have hobt := List.mem_filter.1 hu
 obtain ⟨a1, a2⟩ := hobt
 have h5 := ups_lt q [] u a1
 have h6 : ([] : List UInt8).length = 0 := rfl
 refine ⟨?_, way_nofile hW u a1, (hucl u a1).1, (hucl u a1).2, by omega⟩
 cases hd : s.dir u <;> simp_all
theorem addDir_items {d : List UInt8} (hd : d ≠ []) (hp : (s.dir (splitR d).1).isSome) : (s.addDir d).itemsU.Perm ((d, true, []) :: s.itemsU) := by
 have hobt := Option.isSome_iff_exists.1 hp
 obtain ⟨j, hj⟩ := hobt
 have hb := bump_keys s j
 have e : s.addDir d = { s.bump j with D := (s.bump j).D ++ [(d, 0)] } := by unfold VS.addDir; rw [hj]
 rw [e]
 unfold VS.itemsU
 refine (show List.Perm ((((((s.bump j).D ++ ([(d, 0)] : DL)).map (fun e : List UInt8 × Nat => e.1)).filter (fun p : List UInt8 => decide (p ≠ []))).map (fun p : List UInt8 => ((p, true, []) : Tri))) ++ s.F.map (fun e : List UInt8 × List UInt8 => ((e.1, false, e.2) : Tri))) _ from ?_)
 rw [List.map_append, hb, List.filter_append, List.map_append, List.append_assoc]
 have e2 : (([(d, 0)] : DL).map (·.1)).filter (fun p => decide (p ≠ [])) = [d] := by simp [hd]
 rw [e2]
 exact List.perm_middle
theorem addFile_items {d x : List UInt8} (hp : (s.dir (splitR d).1).isSome) : (s.addFile d x).itemsU.Perm ((d, false, x) :: s.itemsU) ∧ (s.addFile d x).F = s.F ++ [(d, x)] ∧ (s.addFile d x).H = s.H ∧ (s.addFile d x).qb = s.qb ∧ (s.addFile d x).qf = s.qf ∧ (s.addFile d x).qo = s.qo := by
 have hobt := Option.isSome_iff_exists.1 hp
 obtain ⟨j, hj⟩ := hobt
 have hb := bump_keys s j
 have e : s.addFile d x = { s.bump j with F := s.F ++ [(d, x)], by_ := s.by_ + x.length } := by unfold VS.addFile; rw [hj]
 rw [e]
 refine ⟨?_, rfl, rfl, rfl, rfl, rfl⟩
 unfold VS.itemsU
 refine (show List.Perm (((((s.bump j).D.map (·.1)).filter (fun p : List UInt8 => decide (p ≠ []))).map (fun p : List UInt8 => ((p, true, []) : Tri))) ++ (s.F ++ [(d, x)]).map (fun e : List UInt8 × List UInt8 => ((e.1, false, e.2) : Tri))) _ from ?_)
 rw [hb, List.map_append, ← List.append_assoc]
 exact List.perm_append_comm
theorem made_items : ∀ (M : List (List UInt8)) (s : VS), Made s M → (∀ u ∈ M, u ≠ []) → (M.foldl VS.addDir s).itemsU.Perm (M.map (fun d => (d, true, [])) ++ s.itemsU)
 | [], s, _, _ => List.Perm.refl _
 | d :: M, s, ⟨h1, h2, h3⟩, hne => by
  rw [List.foldl_cons, List.map_cons, List.cons_append]
  exact (made_items M (s.addDir d) h3 fun u hu => hne u (by simp [hu])).trans (((addDir_items (hne d (by simp)) h1).append_left _).trans List.perm_middle)
/-- What Open leaves, ahead of the handle. -/
theorem put1_at (sn : s.Sane) (t : s.Tree) {q : List UInt8} {mode : Int} {M : List (List UInt8)} (hcl : isCleanL q = true) (hq0 : q ≠ []) (hW : s.way (decide (4 ≤ mode)) (upsF [] q) [] = (M, 0)) (hmay : s.mayO q (s.file q) mode M = 0) : (s.put1 q M (s.file q)).1.itemsU.Perm ((M.map (fun d => ((d, true, []) : Tri)) ++ (if (s.file q).isNone then [(q, false, [])] else [])) ++ s.itemsU) ∧ (∃ x, (s.put1 q M (s.file q)).1.F[(s.put1 q M (s.file q)).2]? = some (q, x)) ∧ (s.put1 q M (s.file q)).1.H = s.H ∧ hv (s.put1 q M (s.file q)).1 = hv s ∧ (s.put1 q M (s.file q)).1.qb = s.qb ∧ (s.put1 q M (s.file q)).1.qf = s.qf ∧ (s.put1 q M (s.file q)).1.qo = s.qo := by
 have hobt := foldDir_F M s
 obtain ⟨f1, f2, f3, f4, f5, f6, f7⟩ := hobt
 have hobt := way_made hcl hq0 sn.root hW
 obtain ⟨hmade, hpar⟩ := hobt
 have hhv : ∀ {s' : VS} {X}, s'.H = s.H → s'.F = s.F ++ X → hv s' = hv s := fun {s' X} h1 h2 => by
  unfold hv
  rw [h1]
  apply List.map_congr_left
  intro o ho
  cases o with
  | none => rfl
  | some a =>
   obtain ⟨i, pl, mo⟩ := a
   have hlt := sn.fi i pl mo ho
   have : s'.pth i = s.pth i := by
    unfold VS.pth
    rw [h2, List.getElem?_append_left hlt]
   show some (s'.pth i, pl, mo) = some (s.pth i, pl, mo)
   rw [this]
 cases hx : s.file q with
 | some i =>
  have hM := way_file sn t hcl hq0 hW hx
  subst hM
  unfold VS.file at hx
  have hobt := List.findIdx?_eq_some_iff_getElem.1 hx
  obtain ⟨g1, g2, _⟩ := hobt
  have g2 := of_decide_eq_true g2
  exact ⟨List.Perm.refl _, ⟨s.F[i].2, by show s.F[i]? = _; rw [List.getElem?_eq_getElem g1, ← g2]⟩, rfl, rfl, rfl, rfl, rfl⟩
 | none =>
  have hobt := addFile_items (s := M.foldl VS.addDir s) (d := q) (x := []) hpar
  obtain ⟨a1, a2, a3, a4, a5, a6⟩ := hobt
  have hme := made_items M s hmade fun u hu => (way_each hcl hW u hu).2.2.2.1
  refine ⟨?_, ⟨[], ?_⟩, a3.trans f3, hhv (a3.trans f3) (by rw [show (s.put1 q M none).1.F = _ from a2, f1]), a4.trans f5, a5.trans f6, a6.trans f7⟩
  ·show ((M.foldl VS.addDir s).addFile q []).itemsU.Perm _
   rw [Option.isNone_none, if_pos rfl, List.append_assoc]
   exact a1.trans ((hme.cons _).trans List.perm_middle.symm)
  ·show ((M.foldl VS.addDir s).addFile q []).F[(M.foldl VS.addDir s).F.length]? = _
   rw [a2, List.getElem?_append_right (Nat.le_refl _), Nat.sub_self]
   rfl
end
end Go.Gx
/-! Vq13 -/
namespace Go.Gx
open Go.Proofs Go.Proofs.Tryz Go.RowKit
set_option maxRecDepth 100000
section
variable {P : Program} {f : Slots} {w : World} {d : Option Tmp} {ty : TypeId} {pos : String} {af : Array Edge} {x y : Operand} {T T' E : TypeId} {k : IntKind}
theorem run_remE {a b c : Int} (hx : ev f x = .int k a) (hy : ev f y = .int k b) (hb : b ≠ 0) (hc : a.tmod b = c) : (execOp (ev f) ⟨d, .binOp .rem T x y T', ty, pos, af, none⟩).run P w = .ok (.value (.int k c)) w := by
 rw [run_rem hx hy hb, hc]
end
theorem bld_itB (d : List UInt8) (b : Bool) (w : World) : (Instr.build 56 #[(0, str d), (1, .bool b)]).run Tryz.prog w = .ok (.agg (itC d b (.slice none 0 0)).toArray) w := by kernel_rfl
theorem bld_hop (p : List UInt8) (m : Int) (w : World) : (Instr.build 115 #[(0, .bool true), (1, str p), (3, .int .i64 m)]).run Tryz.prog w = .ok (.agg #[.bool true, str p, .int .i64 0, .int .i64 m]) w := by kernel_rfl
section
variable {α : Type} {x y z : α} {l m n d : List α}
theorem perm_qo1 : (x :: z :: (m ++ (l ++ d))).Perm (l ++ (x :: z :: (m ++ d))) := by
 classical
 exact List.perm_iff_count.2 fun z => by
  simp only [List.count_append, List.count_cons]
  omega
theorem perm_qo2 : (l ++ (x :: z :: m)).Perm (z :: (l ++ (x :: m))) := by
 classical
 exact List.perm_iff_count.2 fun z => by
  simp only [List.count_append, List.count_cons]
  omega
theorem perm_qo3 : (z :: (l ++ (x :: (m ++ d)))).Perm (x :: (z :: (m ++ (l ++ d)))) := by
 classical
 exact List.perm_iff_count.2 fun z => by
  simp only [List.count_append, List.count_cons]
  omega
end
/-- What Open puts, in turn. -/
def VS.rowsO (s : VS) (q : List UInt8) (M : List (List UInt8)) : List Tri := M.map (fun d => ((d, true, []) : Tri)) ++ (if (s.file q).isNone then [(q, false, [])] else [])
section
variable {s : VS}
theorem miss_rows {q : List UInt8} {M : List (List UInt8)} (hM : ∀ i, s.file q = some i → M = []) : (M ++ (if (s.file q).isNone then [q] else [])).length = (s.rowsO q M).length ∧ ∀ (k : Nat) u, (M ++ (if (s.file q).isNone then [q] else []))[k]? = some u → (s.rowsO q M)[k]? = some (u, decide (k < (M ++ (if (s.file q).isNone then [q] else [])).length - 1), []) := by
 unfold VS.rowsO
 cases hx : s.file q with
 | some i =>
  rw [hM i hx]
  refine ⟨rfl, fun k u h => ?_⟩
  simp at h
 | none =>
  rw [Option.isNone_none, if_pos rfl, if_pos rfl]
  refine ⟨by simp, fun k u h => ?_⟩
  have hl : (M ++ [q]).length - 1 = M.length := by simp
  rw [hl]
  by_cases hk : k < M.length
  ·rw [List.getElem?_append_left hk] at h
   rw [List.getElem?_append_left (by simpa using hk), List.getElem?_map, h, decide_eq_true hk]
   rfl
  ·rw [List.getElem?_append_right (by omega)] at h
   rw [List.getElem?_append_right (by simp; omega), decide_eq_false hk, List.length_map]
   have hk0 : k - M.length = 0 := by
    have := (List.getElem?_eq_some_iff.1 h).1
    simp at this
    omega
   rw [hk0] at h ⊢
   have : q = u := by simpa using h
   rw [← this]
   rfl
theorem nodup_new {T l : List Tri} {k : Nat} {x : Tri} (h : ((T ++ l).map (·.1)).Nodup) (hx : T[k]? = some x) : ∀ y ∈ T.take k ++ l, y.1 ≠ x.1 := by
 have hobt := List.getElem?_eq_some_iff.1 hx
 obtain ⟨h1, h2⟩ := hobt
 have e : T ++ l = T.take k ++ x :: (T.drop (k + 1) ++ l) := by
  conv => lhs; rw [← List.take_append_drop k T, List.drop_eq_getElem_cons h1, h2]
  simp
 rw [e, List.map_append, List.map_cons, List.nodup_append] at h
 obtain ⟨g1, g2, g3⟩ := h
 rw [List.nodup_cons] at g2
 intro y hy
 rcases List.mem_append.1 hy with hy | hy
 ·exact g3 _ (List.mem_map.2 ⟨y, hy, rfl⟩) _ (by simp)
 ·intro e2
  exact g2.1 (by rw [← e2]; exact List.mem_map.2 ⟨y, List.mem_append_right _ hy, rfl⟩)
theorem slot_first : s.slotI ≤ s.H.length ∧ (∀ j, j < s.slotI → ∃ x, (hv s)[j]? = some (some x)) ∧ (s.slotI < s.H.length → (hv s)[s.slotI]? = some none) := by
 unfold VS.slotI
 cases h : s.H.findIdx? Option.isNone with
 | some k =>
  have hobt := List.findIdx?_eq_some_iff_getElem.1 h
  obtain ⟨h1, h2, h3⟩ := hobt
  rw [Option.getD_some]
  refine ⟨by omega, fun j hj => ?_, fun _ => ?_⟩
  ·have h4 := h3 j hj
   unfold hv
   rw [List.getElem?_map, List.getElem?_eq_getElem (by omega)]
   cases hx : s.H[j] with
   | none => rw [hx] at h4; exact absurd rfl h4
   | some a => exact ⟨_, rfl⟩
  ·unfold hv
   rw [List.getElem?_map, List.getElem?_eq_getElem h1]
   cases hx : s.H[k] with
   | none => rfl
   | some a => rw [hx] at h2; cases h2
 | none =>
  rw [List.findIdx?_eq_none_iff] at h
  rw [Option.getD_none]
  refine ⟨Nat.le_refl _, fun j hj => ?_, fun h => absurd h (Nat.lt_irrefl _)⟩
  have h4 := h _ (List.getElem_mem hj)
  unfold hv
  rw [List.getElem?_map, List.getElem?_eq_getElem hj]
  cases hx : s.H[j] with
  | none => rw [hx] at h4; cases h4
  | some a => exact ⟨_, rfl⟩
theorem hv_grab {i m : Nat} {q : List UInt8} (hp : s.pth i = q) : (s.slotI < s.H.length → hv (s.grab i m) = (hv s).set s.slotI (some (q, 0, m))) ∧ (¬ s.slotI < s.H.length → hv (s.grab i m) = hv s ++ [some (q, 0, m)]) := by
 subst hp
 unfold VS.grab
 refine ⟨fun h => ?_, fun h => ?_⟩
 ·rw [if_pos h]
  exact hv_setQ
 ·rw [if_neg h]
  unfold hv
  show List.map _ (s.H ++ [some (i, 0, m)]) = _
  rw [List.map_append]
  rfl
theorem hv_none : hv { s with H := s.H ++ [none] } = hv s ++ [none] := by
 unfold hv
 show List.map _ (s.H ++ [none]) = _
 rw [List.map_append]
 rfl
theorem hsC_snoc (H : List (Option (List UInt8 × Nat × Nat))) (h : Option (List UInt8 × Nat × Nat)) : hsC (H ++ [h]) = hsC H ++ hC h := by simp [hsC]
end
end Go.Gx
/-! Vq14 -/
namespace Go.Gx
open Go.Proofs Go.Proofs.Tryz Go.RowKit
set_option maxRecDepth 100000
theorem Step.dropMidQ {S : List Nat} {p q : Nat × Obj} {X B : List (Nat × Obj)} {w0 w : World} (h : Step S (p :: q :: (X ++ B)) w0 w) : Step S (p :: q :: B) w0 w := Step.perm (Step.dropL (L1 := X) (h.perm (by
 classical
 exact List.perm_iff_count.2 fun z => by
  simp only [List.count_append, List.count_cons]
  omega : (p :: q :: (X ++ B)).Perm (X ++ (p :: q :: B))))) (List.Perm.refl _)
section
variable {bg : Nat} {s : VS} {A : List (Nat × Obj)} {w0 : World}
set_option maxHeartbeats 16000000 in
theorem rOpen_spec (hR : RRep bg s A) (sn : s.Sane) (t : s.Tree) (hw : Step (A.map (·.1)) A w0 w0) {p : List UInt8} (hp : p.length ≤ 9223372036854775807) {mode : Int} : Calls Tryz.prog 27 #[.pointer (some ⟨bg, 0, none⟩), str p, .int .i64 mode] w0 fun e w' => ∃ A', e = .returned (.tuple #[.int .i64 (s.open p mode).1, .int .i64 (s.open p mode).2.1]) ∧ RRep bg (s.open p mode).2.2 A' ∧ Step (A.map (·.1)) A' w0 w' := by
 have hR0 := hR
 obtain ⟨u, uh, R, Lu, Lh, o⟩ := hR
 have hs : Step (A.map (·.1)) A w0 w0 := hw
 have hobt : ∃ S, A.map (·.1) = S := ⟨_, rfl⟩
 obtain ⟨S, hS⟩ := hobt
 rw [hS] at hs ⊢
 by_cases hbad : mode < 0 ∨ 7 < mode ∨ mode = 4
 ·rw [show s.open p mode = (0, 94, s) by unfold VS.open; rw [if_pos hbad]]
  by_cases h1 : mode < 0
  ·refine calls (n := 185) Tryz.func27 rfl rfl rfl ?_
   refine cQ <| cR <| wa rfl <| wa rfl <| wZ <| cQ <| cQ <| cR <| wm rfl <| wV rfl (run_bT (run_lss rfl rfl) (by omega)) <| wm rfl <| WL.no rfl rfl rfl (.inl rfl) <| WL.no rfl rfl rfl (.inl rfl) <| wV rfl (run_pickT rfl) <| wm rfl <| WL.no rfl rfl rfl (.inl rfl) <| WL.no rfl rfl rfl (.inl rfl) <| wV rfl (run_pickT rfl) <| wZ ?_
   refine cC rfl (fun h => ?_) (fun h => ?_)
   ·refine cQ <| cR <| wa rfl <| wa rfl <| wZ ?_
    refine CW.ret ?_
    refine fin_ret2 rfl ?_
    exact ⟨A, rfl, hR0, hs⟩
   ·cases h
  ·by_cases h2 : 7 < mode
   ·refine calls (n := 185) Tryz.func27 rfl rfl rfl ?_
    refine cQ <| cR <| wa rfl <| wa rfl <| wZ <| cQ <| cQ <| cR <| wm rfl <| wV rfl (run_bF (run_lss rfl rfl) (by omega)) <| wm rfl <| WL.yes rfl rfl rfl <| wm rfl <| WL.yes rfl rfl rfl <| wV rfl (run_bT (run_gtr rfl rfl) (by omega)) <| wV rfl (run_pickF rfl) <| wm rfl <| WL.no rfl rfl rfl (.inl rfl) <| WL.no rfl rfl rfl (.inl rfl) <| wV rfl (run_pickT rfl) <| wZ ?_
    refine cC rfl (fun h => ?_) (fun h => ?_)
    ·refine cQ <| cR <| wa rfl <| wa rfl <| wZ ?_
     refine CW.ret ?_
     refine fin_ret2 rfl ?_
     exact ⟨A, rfl, hR0, hs⟩
    ·cases h
   ·refine calls (n := 185) Tryz.func27 rfl rfl rfl ?_
    refine cQ <| cR <| wa rfl <| wa rfl <| wZ <| cQ <| cQ <| cR <| wm rfl <| wV rfl (run_bF (run_lss rfl rfl) (by omega)) <| wm rfl <| WL.yes rfl rfl rfl <| wm rfl <| WL.yes rfl rfl rfl <| wV rfl (run_bF (run_gtr rfl rfl) (by omega)) <| wV rfl (run_pickF rfl) <| wm rfl <| WL.yes rfl rfl rfl <| wm rfl <| WL.yes rfl rfl rfl <| wV rfl (run_bT (run_eql rfl rfl) (by omega)) <| wV rfl (run_pickF rfl) <| wZ ?_
    refine cC rfl (fun h => ?_) (fun h => ?_)
    ·refine cQ <| cR <| wa rfl <| wa rfl <| wZ ?_
     refine CW.ret ?_
     refine fin_ret2 rfl ?_
     exact ⟨A, rfl, hR0, hs⟩
    ·cases h
 have hobt : ∃ m : Nat, mode = m := ⟨mode.toNat, by omega⟩
 obtain ⟨m, rfl⟩ := hobt
 have hm8 : m < 8 := by omega
 have hm4 : m ≠ 4 := by omega
 have hcl := fun w => refClean_spec (s := p) w hp
 have hcc := clean_isClean (s := p)
 have hobt : ∃ z, s.open p (m : Nat) = z := ⟨_, rfl⟩
 obtain ⟨z, hz⟩ := hobt
 have hz2 : z = if cleanE p ≠ 0 then (0, cleanE p, s) else if cleanS p = [] then (0, 92, s) else
   if (s.way (decide (4 ≤ (m : Int))) (upsF [] (cleanS p)) []).2 ≠ 0 then (0, (s.way (decide (4 ≤ (m : Int))) (upsF [] (cleanS p)) []).2, s) else
   if s.mayO (cleanS p) (s.file (cleanS p)) (m : Int) (s.way (decide (4 ≤ (m : Int))) (upsF [] (cleanS p)) []).1 ≠ 0 then (0, s.mayO (cleanS p) (s.file (cleanS p)) (m : Int) (s.way (decide (4 ≤ (m : Int))) (upsF [] (cleanS p)) []).1, s) else
   (((((s.put1 (cleanS p) (s.way (decide (4 ≤ (m : Int))) (upsF [] (cleanS p)) []).1 (s.file (cleanS p))).1.cutI m (s.put1 (cleanS p) (s.way (decide (4 ≤ (m : Int))) (upsF [] (cleanS p)) []).1 (s.file (cleanS p))).2).slotI : Nat) : Int), 0, ((s.put1 (cleanS p) (s.way (decide (4 ≤ (m : Int))) (upsF [] (cleanS p)) []).1 (s.file (cleanS p))).1.cutI m (s.put1 (cleanS p) (s.way (decide (4 ≤ (m : Int))) (upsF [] (cleanS p)) []).1 (s.file (cleanS p))).2).grab (s.put1 (cleanS p) (s.way (decide (4 ≤ (m : Int))) (upsF [] (cleanS p)) []).1 (s.file (cleanS p))).2 (m % 4)) := by
  rw [← hz]
  unfold VS.open
  rw [if_neg hbad, Int.toNat_natCast]
 rw [hz]
 clear hz
 have hobt : ∃ q, cleanS p = q := ⟨_, rfl⟩
 obtain ⟨q, hq⟩ := hobt
 have hobt : ∃ ce, cleanE p = ce := ⟨_, rfl⟩
 obtain ⟨ce, hce⟩ := hobt
 rw [hq, hce] at hcc
 simp only [hq, hce] at hcl hz2
 have hDc : ∀ q, (∃ j, s.dir q = some j) ∨ s.dir q = none := fun q => by
  cases s.dir q with
  | some j => exact .inl ⟨j, rfl⟩
  | none => exact .inr rfl
 have hFc : ∀ q, (∃ j, s.file q = some j) ∨ s.file q = none := fun q => by
  cases s.file q with
  | some j => exact .inl ⟨j, rfl⟩
  | none => exact .inr rfl
 by_cases hce0 : ce ≠ 0
 ·rw [if_pos hce0] at hz2
  refine calls (n := 185) Tryz.func27 rfl rfl rfl ?_
  refine cQ <| cR <| wa rfl <| wa rfl <| wZ <| cQ <| cQ <| cR <| wm rfl <| wV rfl (run_bF (run_lss rfl rfl) (by omega)) <| wm rfl <| WL.yes rfl rfl rfl <| wm rfl <| WL.yes rfl rfl rfl <| wV rfl (run_bF (run_gtr rfl rfl) (by omega)) <| wV rfl (run_pickF rfl) <| wm rfl <| WL.yes rfl rfl rfl <| wm rfl <| WL.yes rfl rfl rfl <| wV rfl (run_bF (run_eql rfl rfl) (by omega)) <| wV rfl (run_pickF rfl) <| wZ ?_
  refine cC rfl (fun h => ?_) (fun h => ?_)
  ·cases h
  repeat (first | refine cQ ?_ | refine cK ?_)
  refine cR <| wm rfl ?_
  refine wE rfl (run_call en58 rfl rfl) (hcl _) ?_
  rintro e w ⟨rfl, hq⟩
  refine ⟨_, rfl, ?_⟩
  replace hs := hs.callE hq
  refine wm rfl <| wx rfl rfl rfl <| wx rfl rfl rfl <| wa rfl <| wa rfl <| wZ <| cQ <| cQ <| cR <| wm rfl <| wV rfl (run_bT (run_neq rfl rfl) (by exact hce0)) <| wZ ?_
  refine cC rfl (fun h => ?_) (fun h => ?_)
  ·refine cQ <| cR <| wm rfl <| wa rfl <| wa rfl <| wZ ?_
   refine CW.ret ?_
   refine fin_ret2 rfl ?_
   exact ⟨A, by rw [hz2]; rfl, by rw [hz2]; exact hR0, hs⟩
  ·cases h
 rw [if_neg hce0] at hz2
 by_cases hq0 : q = []
 ·rw [if_pos hq0] at hz2
  refine calls (n := 185) Tryz.func27 rfl rfl rfl ?_
  refine cQ <| cR <| wa rfl <| wa rfl <| wZ <| cQ <| cQ <| cR <| wm rfl <| wV rfl (run_bF (run_lss rfl rfl) (by omega)) <| wm rfl <| WL.yes rfl rfl rfl <| wm rfl <| WL.yes rfl rfl rfl <| wV rfl (run_bF (run_gtr rfl rfl) (by omega)) <| wV rfl (run_pickF rfl) <| wm rfl <| WL.yes rfl rfl rfl <| wm rfl <| WL.yes rfl rfl rfl <| wV rfl (run_bF (run_eql rfl rfl) (by omega)) <| wV rfl (run_pickF rfl) <| wZ ?_
  refine cC rfl (fun h => ?_) (fun h => ?_)
  ·cases h
  repeat (first | refine cQ ?_ | refine cK ?_)
  refine cR <| wm rfl ?_
  refine wE rfl (run_call en58 rfl rfl) (hcl _) ?_
  rintro e w ⟨rfl, hq⟩
  refine ⟨_, rfl, ?_⟩
  replace hs := hs.callE hq
  refine wm rfl <| wx rfl rfl rfl <| wx rfl rfl rfl <| wa rfl <| wa rfl <| wZ <| cQ <| cQ <| cR <| wm rfl <| wV rfl (run_bF (run_neq rfl rfl) (by exact hce0)) <| wZ ?_
  refine cC rfl (fun h => ?_) (fun h => ?_)
  ·cases h
  repeat (first | refine cQ ?_ | refine cK ?_)
  refine cR <| wm rfl <| wV rfl (run_bT (run_strEq rfl rfl) (by exact hq0)) <| wZ ?_
  refine cC rfl (fun h => ?_) (fun h => ?_)
  ·refine cQ <| cR <| wa rfl <| wa rfl <| wZ ?_
   refine CW.ret ?_
   refine fin_ret2 rfl ?_
   exact ⟨A, by rw [hz2]; rfl, by rw [hz2]; exact hR0, hs⟩
  ·cases h
 rw [if_neg hq0] at hz2
 replace hcc := hcc (by omega)
 have hql := clean_len hcc
 have hobt : ∃ mb, decide (4 ≤ (m : Int)) = mb := ⟨_, rfl⟩
 obtain ⟨mb, hmb⟩ := hobt
 have hmb2 : decide ((4 : Int) < m) = mb := by
  rw [← hmb]
  exact decide_eq_decide.2 (by omega)
 simp only [hmb] at hz2
 have hmis := fun {w} hw => rmissing_spec (w0 := w) (p := q) (made := mb) o sn t hw hcc hq0
 have hobt : ∃ M ew, s.way mb (upsF [] q) [] = (M, ew) := ⟨_, _, rfl⟩
 obtain ⟨M, ew, hW⟩ := hobt
 have hobt : ∃ ms, s.missL mb q = ms := ⟨_, rfl⟩
 obtain ⟨ms, hms⟩ := hobt
 have hmsE : ms = if ew ≠ 0 then [] else M ++ (if (atL s.itemsL q).isNone then [q] else []) := by
  rw [← hms]
  unfold VS.missL
  rw [hW]
 simp only [hW] at hz2
 simp only [hW, hms] at hmis
 refine calls (n := 185) Tryz.func27 rfl rfl rfl ?_
 refine cQ <| cR <| wa rfl <| wa rfl <| wZ <| cQ <| cQ <| cR <| wm rfl <| wV rfl (run_bF (run_lss rfl rfl) (by omega)) <| wm rfl <| WL.yes rfl rfl rfl <| wm rfl <| WL.yes rfl rfl rfl <| wV rfl (run_bF (run_gtr rfl rfl) (by omega)) <| wV rfl (run_pickF rfl) <| wm rfl <| WL.yes rfl rfl rfl <| wm rfl <| WL.yes rfl rfl rfl <| wV rfl (run_bF (run_eql rfl rfl) (by omega)) <| wV rfl (run_pickF rfl) <| wZ ?_
 refine cC rfl (fun h => ?_) (fun h => ?_)
 ·cases h
 repeat (first | refine cQ ?_ | refine cK ?_)
 refine cR <| wm rfl ?_
 refine wE rfl (run_call en58 rfl rfl) (hcl _) ?_
 rintro e w ⟨rfl, hq⟩
 refine ⟨_, rfl, ?_⟩
 replace hs := hs.callE hq
 refine wm rfl <| wx rfl rfl rfl <| wx rfl rfl rfl <| wa rfl <| wa rfl <| wZ <| cQ <| cQ <| cR <| wm rfl <| wV rfl (run_bF (run_neq rfl rfl) (by exact hce0)) <| wZ ?_
 refine cC rfl (fun h => ?_) (fun h => ?_)
 ·cases h
 repeat (first | refine cQ ?_ | refine cK ?_)
 refine cR <| wm rfl <| wV rfl (run_bF (run_strEq rfl rfl) (by exact hq0)) <| wZ ?_
 refine cC rfl (fun h => ?_) (fun h => ?_)
 ·cases h
 repeat (first | refine cQ ?_ | refine cK ?_)
 refine cR <| wm rfl <| wm rfl <| wm rfl <| wV rfl (run_bE (run_gtr rfl rfl) hmb2) ?_
 refine wE rfl (run_call en59 rfl rfl) (hmis hs.has) ?_
 rintro e w ⟨v10, Lw, rfl, hv10, hqq⟩
 refine ⟨_, rfl, ?_⟩
 replace hs := hs.call0 hqq
 have hfm := hv10.form
 obtain ⟨a10, c10, hfe⟩ := hfm
 subst hfe
 refine wm rfl <| wx rfl rfl rfl <| wx rfl rfl rfl <| wa rfl <| wa rfl <| wZ ?_
 by_cases hew : ew ≠ 0
 ·rw [if_pos hew] at hz2
  refine cQ <| cQ <| cR <| wm rfl <| wV rfl (run_bT (run_neq rfl rfl) (by exact hew)) <| wZ ?_
  refine cC rfl (fun h => ?_) (fun h => ?_)
  ·refine cQ <| cR <| wm rfl <| wa rfl <| wa rfl <| wZ ?_
   refine CW.ret ?_
   refine fin_ret2 rfl ?_
   exact ⟨A, by rw [hz2]; rfl, by rw [hz2]; exact hR0, hs.dropL⟩
  ·cases h
 rw [if_neg hew] at hz2 hmsE
 obtain rfl : ew = 0 := Classical.byContradiction hew
 refine cQ <| cQ <| cR <| wm rfl <| wV rfl (run_bF (run_neq rfl rfl) (by exact fun h => h rfl)) <| wZ ?_
 refine cC rfl (fun h => ?_) (fun h => ?_)
 ·cases h
 have hat2 := fun {w} hw => rat_spec (w0 := w) (p := q) o sn hw
 have hobt : ∃ at0, atI s.itemsL q = at0 := ⟨_, rfl⟩
 obtain ⟨at0, hat0⟩ := hobt
 simp only [hat0] at hat2
 repeat (first | refine cQ ?_ | refine cK ?_)
 refine cR <| wm rfl <| wm rfl ?_
 refine wE rfl (run_call en60 rfl rfl) (hat2 hs.dropL.has) ?_
 rintro e w ⟨rfl, hq⟩
 refine ⟨_, rfl, ?_⟩
 replace hs := hs.callE hq
 refine wa rfl <| wZ ?_
 have hM0 : ∀ i, s.file q = some i → M = [] := fun i hi => way_file sn t hcc hq0 (by rw [hW]) hi
 have hMe := way_each hcc hW
 have hln := o.len
 have hn := itemsL_n sn
 have hil := items_len sn t
 have hof := o.own.form
 obtain ⟨au0, cu0, hu0⟩ := hof
 have hul : ∀ {w : World}, (∀ p ∈ A, w.heap[p.1]? = some p.2) → w.cell? ⟨bg, 0, none⟩ = some (.slice au0 R.length cu0) := fun hw => by
  rw [cell_blk (o.fs hw), ← hu0]
  rfl
 refine CW.seqM (fun f w => s.dir q = none ∧ Step S (Lw ++ A) w0 w ∧ Holds f [(0, .pointer (some ⟨bg, 0, none⟩)), (2, .int .i64 (m : Nat)), (8, str q), (10, .slice a10 ms.length c10), (11, .int .i64 at0)]) ?_ ?_
 ·have hDq := hDc q
  rcases hDq with ⟨j, hD⟩ | hD
  ·skip
   have hobt := at_dir t hq0 (by rw [hD]; rfl)
   obtain ⟨k, h1, h2⟩ := hobt
   have hobt := o.row h2
   obtain ⟨r, hr, hrp, hrd, hrx⟩ := hobt
   have hrd : r.d = true := hrd
   have hobt := o.cells hr
   obtain ⟨bu, cu, huu, hcell⟩ := hobt
   have hkl := (List.getElem?_eq_some_iff.1 hr).1
   have hul2 : ∀ {w : World}, (∀ p ∈ A, w.heap[p.1]? = some p.2) → w.cell? ⟨bg, 0, none⟩ = some (.slice (some ⟨bu, 0, none⟩) R.length cu) := fun hw => by
    rw [cell_blk (o.fs hw), ← huu]
    rfl
   rw [atI_some h1] at hat0
   have e92 : s.mayO q (s.file q) (m : Int) M = 92 := by
    unfold VS.mayO
    rw [hD]
    rfl
   rw [e92, if_pos (by decide)] at hz2
   have hvi : Value.int .i64 at0 = .int .i64 (k : Nat) := by rw [← hat0]
   refine cQ <| cR <| wm rfl <| wV rfl (run_bT (run_geq rfl rfl) (by omega)) <| wm rfl <| WL.yes rfl rfl rfl <| wm rfl <| WL.yes rfl rfl rfl <| wn rfl rfl <| WL.yes rfl rfl rfl <| wV rfl (run_field (o' := 0) underlying34 rfl ty22 rfl rfl rfl) <| WL.yes rfl rfl rfl <| wV rfl (run_load1 ty22 rfl (hul2 hs.dropL.has)) <| WL.yes rfl rfl rfl <| wm rfl <| WL.yes rfl rfl rfl <| wV rfl (run_ixSlN (i := k) underlying22 ty56 rfl hvi (by omega)) <| WL.yes rfl rfl rfl <| wV rfl (run_field (o' := 1) underlying56 rfl ty4 rfl rfl rfl) ?_
   refine WL.yes rfl rfl rfl <| wV rfl (run_load1 ty4 rfl (((hcell hs.dropL.has).cell (j := 1) (v := .bool true) (by rw [← hrd]; rfl)))) <| wV rfl (run_pickT rfl) <| wZ ?_
   refine cC rfl (fun h => ?_) (fun h => ?_)
   ·refine cQ <| cR <| wa rfl <| wa rfl <| wZ ?_
    refine CW.ret ?_
    refine fin_ret2 rfl ?_
    exact ⟨A, by rw [hz2]; rfl, by rw [hz2]; exact hR0, hs.dropL⟩
   ·cases h
  ·have hFq := hFc q
   rcases hFq with ⟨j, hF⟩ | hF
   ·skip
    have hobt := at_file t hF
    obtain ⟨k, x, h1, h2, h3⟩ := hobt
    have hobt := o.row h2
    obtain ⟨r, hr, hrp, hrd, hrx⟩ := hobt
    have hrd : r.d = false := hrd
    have hobt := o.cells hr
    obtain ⟨bu, cu, huu, hcell⟩ := hobt
    have hkl := (List.getElem?_eq_some_iff.1 hr).1
    have hul2 : ∀ {w : World}, (∀ p ∈ A, w.heap[p.1]? = some p.2) → w.cell? ⟨bg, 0, none⟩ = some (.slice (some ⟨bu, 0, none⟩) R.length cu) := fun hw => by
     rw [cell_blk (o.fs hw), ← huu]
     rfl
    rw [atI_some h1] at hat0
    have hvi : Value.int .i64 at0 = .int .i64 (k : Nat) := by rw [← hat0]
    refine cQ <| cR <| wm rfl <| wV rfl (run_bT (run_geq rfl rfl) (by omega)) <| wm rfl <| WL.yes rfl rfl rfl <| wm rfl <| WL.yes rfl rfl rfl <| wn rfl rfl <| WL.yes rfl rfl rfl <| wV rfl (run_field (o' := 0) underlying34 rfl ty22 rfl rfl rfl) <| WL.yes rfl rfl rfl <| wV rfl (run_load1 ty22 rfl (hul2 hs.dropL.has)) <| WL.yes rfl rfl rfl <| wm rfl <| WL.yes rfl rfl rfl <| wV rfl (run_ixSlN (i := k) underlying22 ty56 rfl hvi (by omega)) <| WL.yes rfl rfl rfl <| wV rfl (run_field (o' := 1) underlying56 rfl ty4 rfl rfl rfl) ?_
    refine WL.yes rfl rfl rfl <| wV rfl (run_load1 ty4 rfl (((hcell hs.dropL.has).cell (j := 1) (v := .bool false) (by rw [← hrd]; rfl)))) <| wV rfl (run_pickT rfl) <| wZ ?_
    refine cC rfl (fun h => ?_) (fun h => ?_)
    ·cases h
    refine cK ?_
    exact ⟨rfl, hD, hs, rfl, rfl, rfl, rfl, rfl, trivial⟩
   ·skip
    rw [atI_none (at_none t hF hD)] at hat0
    refine cQ <| cR <| wm rfl <| wV rfl (run_bF (run_geq rfl rfl) (by omega)) <| wm rfl <| WL.no rfl rfl rfl (.inl rfl) <| WL.no rfl rfl rfl (.inl rfl) <| WL.no rfl rfl rfl (.inl rfl) <| WL.no rfl rfl rfl (.inl rfl) <| WL.no rfl rfl rfl (.inl rfl) <| WL.no rfl rfl rfl (.inl rfl) <| WL.no rfl rfl rfl (.inl rfl) <| WL.no rfl rfl rfl (.inl rfl) <| wV rfl (run_pickF rfl) <| wZ ?_
    refine cC rfl (fun h => ?_) (fun h => ?_)
    ·cases h
    refine cK ?_
    exact ⟨rfl, hD, hs, rfl, rfl, rfl, rfl, rfl, trivial⟩
 clear hs
 rintro f w ⟨hD, hs, hf⟩
 have hobt := hf.chain
 obtain ⟨g, rfl⟩ := hobt
 have hat9 : (s.file q = none → at0 = -1) ∧ (∀ j, s.file q = some j → 0 ≤ at0) := by
  refine ⟨fun h => ?_, fun j hj => ?_⟩
  ·rw [← hat0, atI_none (at_none t h hD)]
  ·have hobt := at_file t hj
   obtain ⟨k, x, h1, h2, h3⟩ := hobt
   rw [← hat0, atI_some h1]
   omega
 have hms9 : ms = M ++ (if (s.file q).isNone then [q] else []) := by
  rw [hmsE]
  cases hF : s.file q with
  | some j =>
   have hobt := at_file t hF
   obtain ⟨k, x, h1, h2, h3⟩ := hobt
   rw [h1]
   rfl
  | none =>
   rw [at_none t hF hD]
 have hmay : s.mayO q (s.file q) (m : Int) M = if s.file q = none ∧ (m : Int) = 0 then 91 else if s.file q = none ∧ (s.qf < (s.items : Int) + M.length + 1 ∨ 1024 ≤ s.below (splitR (firstL q M)).1) then 97 else if s.qo ≤ (s.op : Int) then 98 else 0 := by
  unfold VS.mayO
  rw [hD, if_neg (by simp)]
 have hmsl : ms.length ≤ 5000 := by
  have h1 := way_ok hW
  have h2 := ups_len q []
  have h3 := List.length_filter_le (fun u => (s.dir u).isNone) (upsF [] q)
  rw [List.nil_append] at h1
  rw [hms9, List.length_append, h1]
  split
  ·simp only [List.length_singleton]; omega
  ·simp only [List.length_nil]; omega
 have hmse : ∀ u ∈ ms, u.length ≤ 4096 := fun u hu => by
  rw [hms9] at hu
  rcases List.mem_append.1 hu with h | h
  ·have := (hMe u h).2.2.2.2
   omega
  ·split at h
   ·rw [List.mem_singleton.1 h]; omega
   ·cases h
 refine CW.seqM (fun f w => ¬ (s.file q = none ∧ (m : Int) = 0) ∧ Step S (Lw ++ A) w0 w ∧ Holds f [(0, .pointer (some ⟨bg, 0, none⟩)), (2, .int .i64 (m : Nat)), (8, str q), (10, .slice a10 ms.length c10), (11, .int .i64 at0)]) ?_ ?_
 ·have hFq := hFc q
  rcases hFq with ⟨j, hF⟩ | hF
  ·skip
   have := hat9.2 j hF
   refine cQ <| cR <| wm rfl <| wV rfl (run_bF (run_lss rfl rfl) (by omega)) <| wm rfl <| WL.no rfl rfl rfl (.inl rfl) <| WL.no rfl rfl rfl (.inl rfl) <| wV rfl (run_pickF rfl) <| wZ ?_
   refine cC rfl (fun h => ?_) (fun h => ?_)
   ·cases h
   refine cK ?_
   exact ⟨rfl, fun h => by (rw [hF] at h; cases h.1), hs, rfl, rfl, rfl, rfl, rfl, trivial⟩
  ·skip
   have := hat9.1 hF
   by_cases hm0 : (m : Int) = 0
   ·rw [show s.mayO q (s.file q) (m : Int) M = 91 by rw [hmay, if_pos ⟨hF, hm0⟩], if_pos (by decide)] at hz2
    refine cQ <| cR <| wm rfl <| wV rfl (run_bT (run_lss rfl rfl) (by omega)) <| wm rfl <| WL.yes rfl rfl rfl <| wm rfl <| WL.yes rfl rfl rfl <| wV rfl (run_bT (run_eql rfl rfl) (by exact hm0)) <| wV rfl (run_pickT rfl) <| wZ ?_
    refine cC rfl (fun h => ?_) (fun h => ?_)
    ·refine cQ <| cR <| wa rfl <| wa rfl <| wZ ?_
     refine CW.ret ?_
     refine fin_ret2 rfl ?_
     exact ⟨A, by rw [hz2]; rfl, by rw [hz2]; exact hR0, hs.dropL⟩
    ·cases h
   ·refine cQ <| cR <| wm rfl <| wV rfl (run_bT (run_lss rfl rfl) (by omega)) <| wm rfl <| WL.yes rfl rfl rfl <| wm rfl <| WL.yes rfl rfl rfl <| wV rfl (run_bF (run_eql rfl rfl) (by exact hm0)) <| wV rfl (run_pickT rfl) <| wZ ?_
    refine cC rfl (fun h => ?_) (fun h => ?_)
    ·cases h
    refine cK ?_
    exact ⟨rfl, fun h => hm0 h.2, hs, rfl, rfl, rfl, rfl, rfl, trivial⟩
 clear hs
 rintro f w ⟨hn91, hs, hf⟩
 have hobt := hf.chain
 obtain ⟨g, rfl⟩ := hobt
 rw [if_neg hn91] at hmay
 refine CW.seqM (fun f w => ¬ (s.file q = none ∧ (s.qf < (s.items : Int) + M.length + 1 ∨ 1024 ≤ s.below (splitR (firstL q M)).1)) ∧ Step S (Lw ++ A) w0 w ∧ Holds f [(0, .pointer (some ⟨bg, 0, none⟩)), (2, .int .i64 (m : Nat)), (8, str q), (10, .slice a10 ms.length c10)]) ?_ ?_
 ·have hFq := hFc q
  rcases hFq with ⟨j, hF⟩ | hF
  ·skip
   have := hat9.2 j hF
   refine cQ <| cR <| wm rfl <| wV rfl (run_bF (run_lss rfl rfl) (by omega)) <| wZ ?_
   refine cC rfl (fun h => ?_) (fun h => ?_)
   ·cases h
   refine cK ?_
   exact ⟨rfl, fun h => by (rw [hF] at h; cases h.1), hs, rfl, rfl, rfl, rfl, trivial⟩
  ·skip
   have hat1 := hat9.1 hF
   have hms1 : ms = M ++ [q] := by rw [hms9, hF]; rfl
   have hml1 : ms.length = M.length + 1 := by rw [hms1]; simp
   have hd0 : ms[0]? = some (firstL q M) := by
    rw [hms1]
    unfold firstL
    cases M <;> rfl
   have hobt : ∃ d0, firstL q M = d0 := ⟨_, rfl⟩
   obtain ⟨d0, hd0e⟩ := hobt
   rw [hd0e] at hd0
   have hd0l := hmse d0 (List.mem_of_getElem? hd0)
   have hspl := fun w => refSplit_spec (p := d0) w (by omega)
   have hfst := way_first hcc hq0 sn.root hW
   have hobt : ∃ up nm es, splitR d0 = (up, nm, es) := ⟨_, _, _, rfl⟩
   obtain ⟨up, nm, es, hsp⟩ := hobt
   rw [hd0e, hsp] at hfst
   have hblw : s.below up = s.kids up := by
    have hobt := Option.isSome_iff_exists.1 hfst
    obtain ⟨j, hj⟩ := hobt
    have hobt := dir_get hj
    obtain ⟨n, hn⟩ := hobt
    have := t.cn _ (List.mem_of_getElem? hn)
    unfold VS.below
    rw [hj]
    simp only [hn, Option.map_some, Option.getD_some]
    exact this
   simp only [hsp] at hspl
   have hkle : s.kids up ≤ 131072 := by
    rw [← cnt_kids t]
    exact Nat.le_trans (List.length_filter_le _ _) hn
   have hbel := fun {w} hw => rbelow_spec (w0 := w) (d := up) o sn t hw
   have hobt := hv10.some1 (by omega)
   obtain ⟨b10, cap10, more10, hq10, hL10, hc10⟩ := hobt
   have hq11 := hq10
   injection hq11 with hq11 _ _
   have hd0c : ∀ {w : World}, Step S (Lw ++ A) w0 w → w.cell? ⟨b10, 0 + 0 * 1, none⟩ = some (str d0) := fun {w} hs => by
    rw [cell_blk (hs.has (b10, blk 9 (strs ms ++ more10)) (by rw [hL10]; simp))]
    rw [List.getElem?_append_left (by rw [strs_len]; omega)]
    simp [strs, hd0]
   have hqfc : ∀ {w : World}, (∀ p ∈ A, w.heap[p.1]? = some p.2) → w.cell? ⟨bg, 0 + 2 + 1, none⟩ = some (.int .i64 s.qf) := fun hw => by
    rw [cell_blk (o.fs hw)]
    rfl
   have hqf := sn.ok.qf
   have hbe : s.below (splitR (firstL q M)).1 = s.kids up := by rw [hd0e, hsp]; exact hblw
   have hv11 : Value.slice a10 ms.length c10 = .slice (some ⟨b10, 0, none⟩) ms.length c10 := by rw [hq11]
   by_cases hbig : s.qf < (s.items : Int) + M.length + 1
   ·rw [show s.mayO q (s.file q) (m : Int) M = 97 by rw [hmay, if_pos ⟨hF, .inl hbig⟩], if_pos (by decide)] at hz2
    refine cQ <| cR <| wm rfl <| wV rfl (run_bT (run_lss rfl rfl) (by omega)) <| wZ ?_
    refine cC rfl (fun h => ?_) (fun h => ?_)
    ·refine cQ <| cR <| wm rfl <| wV rfl (run_ixSlN (i := 0) underlying88 ty9 hv11 rfl (by omega)) <| wV rfl (run_load1 ty9 rfl (hd0c hs)) ?_
     refine wE rfl (run_call en61 rfl rfl) (hspl _) ?_
     rintro e w ⟨rfl, hq⟩
     refine ⟨_, rfl, ?_⟩
     replace hs := hs.callE hq
     refine wm rfl <| wx rfl rfl rfl <| wx rfl rfl rfl <| wx rfl rfl rfl <| wa rfl <| wa rfl <| wa rfl <| wZ <| cQ ?_
     refine CW.quiet mixedP (by kernel_rfl) hs ?_
     refine qm rfl <| qn rfl rfl <| qV rfl (fun w hs => run_field (o' := 0) underlying34 rfl ty22 rfl rfl rfl) <| qV rfl (fun w hs => run_load1 ty22 rfl (hul hs.dropL.has)) <| qV rfl (fun w hs => run_lenSl underlying22 rfl) <| qm rfl <| qV rfl (fun w hs => run_lenSl underlying88 rfl) <| qV rfl (fun w hs => run_add (c := ((R.length + ms.length : Nat) : Int)) rfl rfl (by omega) (by omega)) <| qm rfl <| qn rfl rfl <| qV rfl (fun w hs => run_field (o' := 2) underlying34 rfl ty24 rfl rfl rfl) <| qV rfl (fun w hs => run_field (o' := 1) underlying24 rfl ty3 rfl rfl rfl) <| qV rfl (fun w hs => run_load1 ty3 rfl (hqfc hs.dropL.has)) <| qV rfl (fun w hs => run_bT (run_gtr rfl rfl) (by omega)) ?_
     refine qm rfl <| QL.no rfl rfl rfl (.inl rfl) <| QL.no rfl rfl rfl (.inl rfl) <| QL.no rfl rfl rfl (.inl rfl) <| QL.no rfl rfl rfl (.inl rfl) <| QL.no rfl rfl rfl (.inl rfl) <| qV rfl (fun w hs => run_pickT rfl) ?_
     refine QL.nil (fun w hs => ?_)
     refine cC rfl (fun h => ?_) (fun h => ?_)
     ·refine cQ <| cR <| wa rfl <| wa rfl <| wZ ?_
      refine CW.ret ?_
      refine fin_ret2 rfl ?_
      exact ⟨A, by rw [hz2]; rfl, by rw [hz2]; exact hR0, hs.dropL⟩
     ·cases h
    ·cases h
   ·by_cases hfan : 1024 ≤ s.kids up
    ·rw [show s.mayO q (s.file q) (m : Int) M = 97 by rw [hmay, if_pos ⟨hF, .inr (by rw [hbe]; exact hfan)⟩], if_pos (by decide)] at hz2
     refine cQ <| cR <| wm rfl <| wV rfl (run_bT (run_lss rfl rfl) (by omega)) <| wZ ?_
     refine cC rfl (fun h => ?_) (fun h => ?_)
     ·refine cQ <| cR <| wm rfl <| wV rfl (run_ixSlN (i := 0) underlying88 ty9 hv11 rfl (by omega)) <| wV rfl (run_load1 ty9 rfl (hd0c hs)) ?_
      refine wE rfl (run_call en61 rfl rfl) (hspl _) ?_
      rintro e w ⟨rfl, hq⟩
      refine ⟨_, rfl, ?_⟩
      replace hs := hs.callE hq
      refine wm rfl <| wx rfl rfl rfl <| wx rfl rfl rfl <| wx rfl rfl rfl <| wa rfl <| wa rfl <| wa rfl <| wZ <| cQ ?_
      refine CW.quiet mixedP (by kernel_rfl) hs ?_
      refine qm rfl <| qn rfl rfl <| qV rfl (fun w hs => run_field (o' := 0) underlying34 rfl ty22 rfl rfl rfl) <| qV rfl (fun w hs => run_load1 ty22 rfl (hul hs.dropL.has)) <| qV rfl (fun w hs => run_lenSl underlying22 rfl) <| qm rfl <| qV rfl (fun w hs => run_lenSl underlying88 rfl) <| qV rfl (fun w hs => run_add (c := ((R.length + ms.length : Nat) : Int)) rfl rfl (by omega) (by omega)) <| qm rfl <| qn rfl rfl <| qV rfl (fun w hs => run_field (o' := 2) underlying34 rfl ty24 rfl rfl rfl) <| qV rfl (fun w hs => run_field (o' := 1) underlying24 rfl ty3 rfl rfl rfl) <| qV rfl (fun w hs => run_load1 ty3 rfl (hqfc hs.dropL.has)) <| qV rfl (fun w hs => run_bF (run_gtr rfl rfl) (by omega)) ?_
      refine qm rfl <| QL.yes rfl rfl rfl <| qm rfl <| QL.yes rfl rfl rfl <| qm rfl <| QL.yes rfl rfl rfl ?_
      refine QL.enter rfl (fun w => run_call en62 rfl rfl) (fun w hs => hbel hs.dropL.has) ?_
      refine QL.yes rfl rfl rfl <| qV rfl (fun w hs => run_add (c := ((s.kids up + 1 : Nat) : Int)) rfl rfl (by omega) (by omega)) <| QL.yes rfl rfl rfl <| qV rfl (fun w hs => run_bT (run_gtr rfl rfl) (by omega)) <| qV rfl (fun w hs => run_pickF rfl) ?_
      refine QL.nil (fun w hs => ?_)
      refine cC rfl (fun h => ?_) (fun h => ?_)
      ·refine cQ <| cR <| wa rfl <| wa rfl <| wZ ?_
       refine CW.ret ?_
       refine fin_ret2 rfl ?_
       exact ⟨A, by rw [hz2]; rfl, by rw [hz2]; exact hR0, hs.dropL⟩
      ·cases h
     ·cases h
    ·refine cQ <| cR <| wm rfl <| wV rfl (run_bT (run_lss rfl rfl) (by omega)) <| wZ ?_
     refine cC rfl (fun h => ?_) (fun h => ?_)
     ·refine cQ <| cR <| wm rfl <| wV rfl (run_ixSlN (i := 0) underlying88 ty9 hv11 rfl (by omega)) <| wV rfl (run_load1 ty9 rfl (hd0c hs)) ?_
      refine wE rfl (run_call en61 rfl rfl) (hspl _) ?_
      rintro e w ⟨rfl, hq⟩
      refine ⟨_, rfl, ?_⟩
      replace hs := hs.callE hq
      refine wm rfl <| wx rfl rfl rfl <| wx rfl rfl rfl <| wx rfl rfl rfl <| wa rfl <| wa rfl <| wa rfl <| wZ <| cQ ?_
      refine CW.quiet mixedP (by kernel_rfl) hs ?_
      refine qm rfl <| qn rfl rfl <| qV rfl (fun w hs => run_field (o' := 0) underlying34 rfl ty22 rfl rfl rfl) <| qV rfl (fun w hs => run_load1 ty22 rfl (hul hs.dropL.has)) <| qV rfl (fun w hs => run_lenSl underlying22 rfl) <| qm rfl <| qV rfl (fun w hs => run_lenSl underlying88 rfl) <| qV rfl (fun w hs => run_add (c := ((R.length + ms.length : Nat) : Int)) rfl rfl (by omega) (by omega)) <| qm rfl <| qn rfl rfl <| qV rfl (fun w hs => run_field (o' := 2) underlying34 rfl ty24 rfl rfl rfl) <| qV rfl (fun w hs => run_field (o' := 1) underlying24 rfl ty3 rfl rfl rfl) <| qV rfl (fun w hs => run_load1 ty3 rfl (hqfc hs.dropL.has)) <| qV rfl (fun w hs => run_bF (run_gtr rfl rfl) (by omega)) ?_
      refine qm rfl <| QL.yes rfl rfl rfl <| qm rfl <| QL.yes rfl rfl rfl <| qm rfl <| QL.yes rfl rfl rfl ?_
      refine QL.enter rfl (fun w => run_call en62 rfl rfl) (fun w hs => hbel hs.dropL.has) ?_
      refine QL.yes rfl rfl rfl <| qV rfl (fun w hs => run_add (c := ((s.kids up + 1 : Nat) : Int)) rfl rfl (by omega) (by omega)) <| QL.yes rfl rfl rfl <| qV rfl (fun w hs => run_bF (run_gtr rfl rfl) (by omega)) <| qV rfl (fun w hs => run_pickF rfl) ?_
      refine QL.nil (fun w hs => ?_)
      refine cC rfl (fun h => ?_) (fun h => ?_)
      ·cases h
      refine cK ?_
      exact ⟨rfl, fun h => h.2.elim hbig (by rw [hbe]; exact hfan), hs, rfl, rfl, rfl, rfl, trivial⟩
     ·cases h
 clear hs
 rintro f w ⟨hn97, hs, hf⟩
 have hobt := hf.chain
 obtain ⟨g, rfl⟩ := hobt
 rw [if_neg hn97] at hmay
 by_cases hq98 : s.qo ≤ (s.op : Int)
 ·have e98 : s.mayO q (s.file q) (m : Int) M = 98 := by rw [hmay, if_pos hq98]
  rw [e98, if_pos (by decide)] at hz2
  have hopn := fun {w} hw => ropen2_spec (w0 := w) o sn hw
  have hqoc : ∀ {w : World}, (∀ p ∈ A, w.heap[p.1]? = some p.2) → w.cell? ⟨bg, 0 + 2 + 2, none⟩ = some (.int .i64 s.qo) := fun hw => by
   rw [cell_blk (o.fs hw)]
   rfl
  refine cQ <| cQ ?_
  refine CW.quiet mixedP (by kernel_rfl) hs ?_
  refine qm rfl ?_
  refine QL.enter rfl (fun w => run_call en26 rfl rfl) (fun w hs => hopn hs.dropL.has) ?_
  refine qm rfl <| qn rfl rfl <| qV rfl (fun w hs => run_field (o' := 2) underlying34 rfl ty24 rfl rfl rfl) <| qV rfl (fun w hs => run_field (o' := 2) underlying24 rfl ty3 rfl rfl rfl) <| qV rfl (fun w hs => run_load1 ty3 rfl (hqoc hs.dropL.has)) <| qV rfl (fun w hs => run_bT (run_geq rfl rfl) (by omega)) ?_
  refine QL.nil (fun w hs => ?_)
  refine cC rfl (fun h => ?_) (fun h => ?_)
  ·refine cQ <| cR <| wa rfl <| wa rfl <| wZ ?_
   refine CW.ret ?_
   refine fin_ret2 rfl ?_
   exact ⟨A, by rw [hz2]; rfl, by rw [hz2]; exact hR0, hs.dropL⟩
  ·cases h
 have e0 : s.mayO q (s.file q) (m : Int) M = 0 := by rw [hmay, if_neg hq98]
 rw [e0, if_neg (by decide)] at hz2
 have hW2 : s.way (decide (4 ≤ (m : Int))) (upsF [] q) [] = (M, 0) := by rw [hmb]; exact hW
 have hobt := put1_keeps sn t hcc hq0 hW2 e0
 obtain ⟨sn1, t1, hlt1, hop1⟩ := hobt
 have hobt := put1_at sn t hcc hq0 hW2 e0
 obtain ⟨hpm1, ⟨x1, hF1⟩, hH1, hhv1, hqb1, hqf1, hqo1⟩ := hobt
 have hobt : ∃ T, s.rowsO q M = T := ⟨_, rfl⟩
 obtain ⟨T, hT⟩ := hobt
 have hrw := miss_rows (s := s) (q := q) hM0
 rw [← hms9, hT] at hrw
 obtain ⟨hTl, hTk⟩ := hrw
 have hpm1 : (s.put1 q M (s.file q)).1.itemsU.Perm (T ++ s.itemsU) := by rw [← hT]; exact hpm1
 have hobt : ∃ a1, s.put1 q M (s.file q) = a1 := ⟨_, rfl⟩
 obtain ⟨a1, ha1⟩ := hobt
 rw [ha1] at sn1 t1 hlt1 hop1 hpm1 hF1 hH1 hhv1 hqb1 hqf1 hqo1 hz2
 obtain ⟨s1, i1⟩ := a1
 replace hz2 : z = ((((s1.cutI m i1).slotI : Nat) : Int), 0, (s1.cutI m i1).grab i1 (m % 4)) := hz2
 replace sn1 : s1.Sane := sn1
 replace t1 : s1.Tree := t1
 replace hlt1 : i1 < s1.F.length := hlt1
 replace hF1 : s1.F[i1]? = some (q, x1) := hF1
 replace hhv1 : hv s1 = hv s := hhv1
 have hpmL : s1.itemsL.Perm (T ++ s.itemsL) := (itemsL_perm _).trans (hpm1.trans ((itemsL_perm s.itemsU).symm.append_left T))
 have hnd : ((T ++ s.itemsL).map (·.1)).Nodup := ((hpmL.map (·.1)).nodup_iff).1 (itemsL_nodup t1)
 have hopn := fun {w} hw => ropen2_spec (w0 := w) o sn hw
 have hqoc : ∀ {w : World}, (∀ p ∈ A, w.heap[p.1]? = some p.2) → w.cell? ⟨bg, 0 + 2 + 2, none⟩ = some (.int .i64 s.qo) := fun hw => by
  rw [cell_blk (o.fs hw)]
  rfl
 refine cQ <| cQ ?_
 refine CW.quiet mixedP (by kernel_rfl) hs ?_
 refine qm rfl ?_
 refine QL.enter rfl (fun w => run_call en26 rfl rfl) (fun w hs => hopn hs.dropL.has) ?_
 refine qm rfl <| qn rfl rfl <| qV rfl (fun w hs => run_field (o' := 2) underlying34 rfl ty24 rfl rfl rfl) <| qV rfl (fun w hs => run_field (o' := 2) underlying24 rfl ty3 rfl rfl rfl) <| qV rfl (fun w hs => run_load1 ty3 rfl (hqoc hs.dropL.has)) <| qV rfl (fun w hs => run_bF (run_geq rfl rfl) (by omega)) ?_
 refine QL.nil (fun w hs => ?_)
 refine cC rfl (fun h => ?_) (fun h => ?_)
 ·cases h
 have hs0 : Step S (A ++ Lw) w0 w := hs.append_comm
 clear hs
 have hs := hs0
 clear hs0
 refine cK ?_
 refine CW.seqM (fun f w => ∃ A1 l u1 R1 Lu1, l.Perm (T ++ s.itemsL) ∧ SortT l ∧ LOpen bg l (hv s) s.qb s.qf s.qo A1 u1 uh R1 Lu1 Lh ∧ Step S A1 w0 w ∧ Holds f [(0, .pointer (some ⟨bg, 0, none⟩)), (2, .int .i64 (m : Nat)), (8, str q)]) ?_ ?_
 ·refine cQ <| cR <| wa rfl <| wZ <| CW.block ?_
  refine CW.loop (fun z f w => ∃ k A1 l u1 R1 Lu1, k ≤ ms.length ∧ z = ms.length - k ∧ l.Perm (T.take k ++ s.itemsL) ∧ SortT l ∧ LOpen bg l (hv s) s.qb s.qf s.qo A1 u1 uh R1 Lu1 Lh ∧ Step S (A1 ++ Lw) w0 w ∧ Holds f [(0, .pointer (some ⟨bg, 0, none⟩)), (2, .int .i64 (m : Nat)), (8, str q), (10, .slice a10 ms.length c10), (15, .int .i64 (k : Nat))]) (m := ms.length) ?_ ?_
  ·exact ⟨0, A, s.itemsL, u, R, Lu, by omega, by omega, List.Perm.refl _, itemsL_sorted (items_nodup t), o.toL, hs, rfl, rfl, rfl, rfl, rfl, trivial⟩
  clear hs
  rintro z9 f w ⟨k, A1, l, u1, R1, Lu1, hk, rfl, hlp, hlso, o1, hs, hf⟩
  have hobt := hf.chain
  obtain ⟨g, rfl⟩ := hobt
  by_cases hlt : k < ms.length
  ·have hobt : ∃ d, ms[k]? = some d := ⟨_, List.getElem?_eq_getElem hlt⟩
   obtain ⟨d, hd⟩ := hobt
   have hdl := hmse d (List.mem_of_getElem? hd)
   have hTd := hTk k d hd
   have hobt : ∃ dk, decide (k < ms.length - 1) = dk := ⟨_, rfl⟩
   obtain ⟨dk, hdk⟩ := hobt
   rw [hdk] at hTd
   have hdk2 : decide ((k : Int) < ((ms.length - 1 : Nat) : Int)) = dk := by
    rw [← hdk]
    exact decide_eq_decide.2 (by omega)
   have hne : ∀ y ∈ l, y.1 ≠ d := fun y hy => nodup_new hnd hTd y (hlp.mem_iff.1 hy)
   have hR1l : R1.length ≤ 200000 := by
    have h1 : l.length = R1.length := by rw [← o1.abs, absR, List.length_map]
    have h2 := hlp.length_eq
    rw [List.length_append, List.length_take] at h2
    omega
   have hobt := hv10.some1 (by omega)
   obtain ⟨b10, cap10, more10, hq10, hL10, hc10⟩ := hobt
   have hv11 : Value.slice a10 ms.length c10 = .slice (some ⟨b10, 0, none⟩) ms.length c10 := by
    have hq11 := hq10
    injection hq11 with hq11 _ _
    rw [hq11]
   have hdc : ∀ {w : World}, Step S (A1 ++ Lw) w0 w → w.cell? ⟨b10, 0 + k * 1, none⟩ = some (str d) := fun {w} hs => by
    rw [cell_blk (hs.has (b10, blk 9 (strs ms ++ more10)) (by rw [hL10]; simp))]
    rw [Nat.zero_add, Nat.mul_one, List.getElem?_append_left (by rw [strs_len]; omega)]
    simp [strs, hd]
   have htk : T.take (k + 1) = T.take k ++ [(d, dk, [])] := by
    have hobt := List.getElem?_eq_some_iff.1 hTd
    obtain ⟨g1, g2⟩ := hobt
    rw [← List.take_append_getElem g1, g2]
   refine cQ <| cQ <| cR <| wm rfl <| wm rfl <| wV rfl (run_lenSl underlying88 rfl) <| wV rfl (run_bT (run_lss rfl rfl) (by omega)) <| wZ ?_
   refine cC rfl (fun h => ?_) (fun h => ?_)
   ·repeat (first | refine cQ ?_ | refine CW.block ?_ | refine cK ?_)
    refine cR <| wm rfl <| wm rfl <| wm rfl <| wV rfl (run_ixSlN (i := k) underlying88 ty9 hv11 rfl (by omega)) <| wV rfl (run_load1 ty9 rfl (hdc hs)) <| wm rfl <| wm rfl <| wV rfl (run_lenSl underlying88 rfl) <| wV rfl (run_sub (c := ((ms.length - 1 : Nat) : Int)) rfl rfl (by omega) (by omega)) <| wV rfl (run_bE (run_lss rfl rfl) hdk2) <| wV rfl (run_build rfl (bld_itB d dk _)) ?_
    refine wE rfl (run_call en63 rfl rfl) (rput_spec o1 hlso hne hdl hR1l hs.own) ?_
    rintro e w ⟨rfl, A2, l2, u2, R2, Lu2, hp2, hso2, o2, hqq⟩
    refine ⟨_, rfl, ?_⟩
    replace hs := hs.call hqq
    refine wZ <| cR <| wm rfl <| wV rfl (run_add (c := ((k + 1 : Nat) : Int)) rfl rfl (by omega) (by omega)) <| wa rfl <| wZ ?_
    refine (show _ ∧ _ from ⟨rfl, _, ?_, k + 1, A2, l2, u2, R2, Lu2, by omega, rfl, ?_, hso2, o2, hs, rfl, rfl, rfl, rfl, rfl, trivial⟩)
    ·omega
    ·rw [htk, List.append_assoc]
     exact hp2.trans ((hlp.cons _).trans List.perm_middle.symm)
   ·cases h
  ·have hkT : T.take k = T := List.take_of_length_le (by omega)
   rw [hkT] at hlp
   refine cQ <| cQ <| cR <| wm rfl <| wm rfl <| wV rfl (run_lenSl underlying88 rfl) <| wV rfl (run_bF (run_lss rfl rfl) (by omega)) <| wZ ?_
   refine cC rfl (fun h => ?_) (fun h => ?_)
   ·cases h
   refine CW.exit ?_
   exact ⟨rfl, A1, l, u1, R1, Lu1, hlp, hlso, o1, hs.dropR, rfl, rfl, rfl, trivial⟩
 clear hs
 rintro f w ⟨A1, l, u1, R1, Lu1, hlp, hlso, o1L, hs, hf⟩
 have hobt := hf.chain
 obtain ⟨g, rfl⟩ := hobt
 have hlE : l = s1.itemsL := sorted_eq hlso (itemsL_sorted (items_nodup t1)) (hlp.trans hpmL.symm)
 have o1 : ROpen bg s1 A1 u1 uh R1 Lu1 Lh := ⟨o1L.own, o1L.data, o1L.abs.trans hlE, by rw [hhv1]; exact o1L.oh, by rw [o1L.A, show s1.qb = s.qb from hqb1, show s1.qf = s.qf from hqf1, show s1.qo = s.qo from hqo1]⟩
 clear o1L hlp hlso
 have hmod : (m : Int).tmod 4 = ((m % 4 : Nat) : Int) := by
  rw [show (4 : Int) = ((4 : Nat) : Int) from rfl, Int.ofNat_tmod]
 have hpth1 : s1.pth i1 = q := by
  unfold VS.pth
  rw [hF1]
  rfl
 have hobt : ∃ s2, s1.cutI m i1 = s2 := ⟨_, rfl⟩
 obtain ⟨s2, hs2e⟩ := hobt
 rw [hs2e] at hz2
 have hcut : (m % 4 = 2 → s2 = { s1 with F := s1.F.set i1 (q, []), by_ := s1.by_ - s1.len i1 }) ∧ (¬ m % 4 = 2 → s2 = s1) := by
  rw [← hs2e]
  unfold VS.cutI
  refine ⟨fun h => ?_, fun h => if_neg h⟩
  rw [if_pos h]
  unfold VS.trunc
  rw [hpth1]
 have hpth2 : s2.pth i1 = q := by
  by_cases h : m % 4 = 2
  ·rw [hcut.1 h, pth_set hF1, hpth1]
  ·rw [hcut.2 h, hpth1]
 have hH2l : s2.H.length ≤ 64 := by
  have h1 := sn1.hl
  by_cases h : m % 4 = 2
  ·rw [hcut.1 h]; exact h1
  ·rw [hcut.2 h]; exact h1
 refine CW.seqM (fun f w => ∃ A2 u2 R2 Lu2, ROpen bg s2 A2 u2 uh R2 Lu2 Lh ∧ Step S A2 w0 w ∧ Holds f [(0, .pointer (some ⟨bg, 0, none⟩)), (2, .int .i64 (m : Nat)), (8, str q)]) ?_ ?_
 ·by_cases hm2 : m % 4 = 2
  ·have hex := atL_mem (itemsL_nodup t1) (itemsL_mem.2 (itemsU_file.2 (List.mem_of_getElem? hF1)))
   obtain ⟨k, hk, hkx⟩ := hex
   have hobt := o1.row hkx
   obtain ⟨r, hr, hrp, hrd, hrx⟩ := hobt
   have hrp : r.p = q := hrp
   have hrd : r.d = false := hrd
   have hobt := o1.openR hr
   obtain ⟨bu, cu, mu, Q, huu, hpm, hmk⟩ := hobt
   have hkl := (List.getElem?_eq_some_iff.1 hr).1
   have hex2 : ∃ r' : RowI, r' = ⟨r.p, r.d, .slice none 0 0, [], [], rfl, r.hp⟩ := ⟨_, rfl⟩
   obtain ⟨r', hr'⟩ := hex2
   have hp' : r'.p = r.p := by rw [hr']
   have hd' : r'.d = r.d := by rw [hr']
   have hx' : r'.x = [] := by rw [hr']
   have hv' : r'.v = .slice none 0 0 := by rw [hr']
   have hL' : r'.Lv = [] := by rw [hr']
   have hobt := hmk (s' := s2) (r' := r') hp' hd' (by rw [hx', hv', hL']; exact OwnSl.nil _ _) (by rw [hcut.1 hm2]; exact hv_F hF1 _) (by rw [hcut.1 hm2, hp', hd', hx', hrd, hrp]; exact items_setF t1 hF1 hkx _) (by rw [hcut.1 hm2]) (by rw [hcut.1 hm2]) (by rw [hcut.1 hm2])
   obtain ⟨A2, o2, hpm2⟩ := hobt
   have hat3 := fun {w} hw => rat_spec (w0 := w) (p := q) o1 sn1 hw
   simp only [atI_some hk] at hat3
   have hrows := rowsI_cell (X := mu) hr hp' hd'
   rw [hv'] at hrows
   have hrlen : (rowsI R1 ++ mu).length = R1.length * 3 + mu.length := by rw [List.length_append, rowsI_len]
   have hbgc : (u1 :: [uh, .int .i64 s1.qb, .int .i64 s1.qf, .int .i64 s1.qo])[0]? = some (.slice (some ⟨bu, 0, none⟩) R1.length cu) := by rw [← huu]; rfl
   replace hs := hs.perm hpm
   refine cQ <| cR <| wm rfl <| wV rfl (run_remE rfl rfl (by decide) hmod) <| wV rfl (run_bT (run_eql rfl rfl) (by omega)) <| wZ ?_
   refine cC rfl (fun h => ?_) (fun h => ?_)
   ·skip
    refine CW.quietT (l1 := [_, _, _, _, _, _, _, _, _]) (l2 := [_]) 9 rfl mixedP rfl (by kernel_rfl) hs ?_
    refine qm rfl <| qn rfl rfl <| qV rfl (fun w hs => run_field (o' := 0) underlying34 rfl ty22 rfl rfl rfl) <| qV rfl (fun w hs => run_load1 ty22 rfl (hs.c1 hbgc)) <| qm rfl <| qm rfl ?_
    refine QL.enter rfl (fun w => run_call en60 rfl rfl) (fun w hs => hat3 (hs.perm hpm.symm).has) ?_
    refine qV rfl (fun w hs => run_ixSlN underlying22 ty56 rfl rfl (by omega)) <| qV rfl (fun w hs => run_field (o' := 2) underlying56 rfl ty38 rfl rfl rfl) ?_
    refine QL.nil (fun w hs => ?_)
    refine WL.store1 ty38 rfl rfl (rfl) hs (by first | (simp; done) | omega | (simp only [List.length_append, List.length_replicate, List.length_cons, List.length_nil, List.length_set]; omega) | (simp [Ent.cells, u8s]; done) | exact Nat.le_of_ble_eq_true rfl) (fun w hs => ?_)
    refine wZ ?_
    have hs2 : Step S A2 w0 w := by
     refine Step.perm ?_ hpm2.symm
     rw [hL', ← hrows]
     refine Step.perm (Step.dropMidQ hs) ?_
     exact List.Perm.refl _
    exact ⟨rfl, A2, u1, _, _, o2, hs2, rfl, rfl, rfl, trivial⟩
   ·cases h
  ·rw [← hcut.2 hm2] at o1
   refine cQ <| cR <| wm rfl <| wV rfl (run_remE rfl rfl (by decide) hmod) <| wV rfl (run_bF (run_eql rfl rfl) (by omega)) <| wZ ?_
   refine cC rfl (fun h => ?_) (fun h => ?_)
   ·cases h
   refine cK ?_
   exact ⟨rfl, A1, u1, R1, Lu1, o1, hs, rfl, rfl, rfl, trivial⟩
 clear hs o1
 rintro f w ⟨A2, u2, R2, Lu2, o2, hs, hf⟩
 have hobt := hf.chain
 obtain ⟨g, rfl⟩ := hobt
 have hobt := slot_first (s := s2)
 obtain ⟨hsl1, hsl2, hsl3⟩ := hobt
 have hobt := hv_grab (s := s2) (i := i1) (m := m % 4) hpth2
 obtain ⟨hgr1, hgr2⟩ := hobt
 have hvl2 := hv_len (s := s2)
 have hobt : ∃ sl, s2.slotI = sl := ⟨_, rfl⟩
 obtain ⟨sl, hsle⟩ := hobt
 rw [hsle] at hz2 hsl1 hsl2 hsl3 hgr1 hgr2
 have hobt : ∃ s4, s2.grab i1 (m % 4) = s4 := ⟨_, rfl⟩
 obtain ⟨s4, hs4⟩ := hobt
 have hs4f : s4.itemsL = s2.itemsL ∧ s4.qb = s2.qb ∧ s4.qf = s2.qf ∧ s4.qo = s2.qo := by
  rw [← hs4]
  exact ⟨rfl, rfl, rfl, rfl⟩
 rw [hs4] at hz2 hgr1 hgr2
 have hof2 := o2.oh.form
 obtain ⟨ah2, ch2, huh2⟩ := hof2
 have hhl : ∀ {w : World}, (∀ p ∈ A2, w.heap[p.1]? = some p.2) → w.cell? ⟨bg, 0 + 1, none⟩ = some (.slice ah2 (hv s2).length ch2) := fun hw => by
  rw [cell_blk (o2.fs hw), ← huh2]
  rfl
 refine cQ <| cR <| wa rfl <| wZ ?_
 refine CW.seqM (fun f w => Step S A2 w0 w ∧ Holds f [(0, .pointer (some ⟨bg, 0, none⟩)), (2, .int .i64 (m : Nat)), (8, str q), (16, .int .i64 (sl : Nat))]) ?_ ?_
 ·refine CW.block ?_
  refine CW.loop (fun z f w => ∃ k, k ≤ sl ∧ z = sl - k ∧ Step S A2 w0 w ∧ Holds f [(0, .pointer (some ⟨bg, 0, none⟩)), (2, .int .i64 (m : Nat)), (8, str q), (16, .int .i64 (k : Nat))]) (m := sl) ?_ ?_
  ·exact ⟨0, by omega, by omega, hs, rfl, rfl, rfl, rfl, trivial⟩
  clear hs
  rintro z9 f w ⟨k, hk, rfl, hs, hf⟩
  have hobt := hf.chain
  obtain ⟨g, rfl⟩ := hobt
  by_cases hlt : k < sl
  ·have hobt := hsl2 k hlt
   obtain ⟨x, hx⟩ := hobt
   have hobt := o2.hcells hx
   obtain ⟨b, c, huq, hcell⟩ := hobt
   have hhl2 : ∀ {w : World}, (∀ p ∈ A2, w.heap[p.1]? = some p.2) → w.cell? ⟨bg, 0 + 1, none⟩ = some (.slice (some ⟨b, 0, none⟩) (hv s2).length c) := fun hw => by
    rw [cell_blk (o2.fs hw), ← huq]
    rfl
   refine cQ <| cQ <| cR <| wm rfl <| wm rfl <| wn rfl rfl <| wV rfl (run_field (o' := 1) underlying34 rfl ty32 rfl rfl rfl) <| wV rfl (run_load1 ty32 rfl (hhl hs.has)) <| wV rfl (run_lenSl underlying32 rfl) <| wV rfl (run_bT (run_lss rfl rfl) (by omega)) <| wm rfl <| WL.yes rfl rfl rfl <| wm rfl <| WL.yes rfl rfl rfl <| wn rfl rfl <| WL.yes rfl rfl rfl <| wV rfl (run_field (o' := 1) underlying34 rfl ty32 rfl rfl rfl) <| WL.yes rfl rfl rfl <| wV rfl (run_load1 ty32 rfl (hhl2 hs.has)) <| WL.yes rfl rfl rfl <| wm rfl ?_
   refine WL.yes rfl rfl rfl ?_; (first | refine wV rfl (run_ixSlN underlying32 ty115 rfl rfl (by omega)) ?_ | refine wV rfl (run_ixSl underlying32 ty115 rfl rfl (by omega)) ?_)
   refine WL.yes rfl rfl rfl <| wV rfl (run_field (o' := 0) underlying115 rfl ty4 rfl rfl rfl) <| WL.yes rfl rfl rfl <| wV rfl (run_load1 ty4 rfl ((hcell (j := 0) hs.has (by omega) rfl))) <| wV rfl (run_pickT rfl) <| wZ ?_
   refine cC rfl (fun h => ?_) (fun h => ?_)
   ·repeat (first | refine CW.block ?_ | refine cK ?_)
    refine cR <| wm rfl <| wV rfl (run_add (c := ((k + 1 : Nat) : Int)) rfl rfl (by omega) (by omega)) <| wa rfl <| wZ ?_
    refine (show _ ∧ _ from ⟨rfl, _, ?_, k + 1, by omega, rfl, hs, rfl, rfl, rfl, rfl, trivial⟩)
    omega
   ·cases h
  ·obtain rfl : k = sl := by omega
   by_cases hlen : k < s2.H.length
   ·have hx := hsl3 hlen
    have hobt := o2.hcells hx
    obtain ⟨b, c, huq, hcell⟩ := hobt
    have hhl2 : ∀ {w : World}, (∀ p ∈ A2, w.heap[p.1]? = some p.2) → w.cell? ⟨bg, 0 + 1, none⟩ = some (.slice (some ⟨b, 0, none⟩) (hv s2).length c) := fun hw => by
     rw [cell_blk (o2.fs hw), ← huq]
     rfl
    refine cQ <| cQ <| cR <| wm rfl <| wm rfl <| wn rfl rfl <| wV rfl (run_field (o' := 1) underlying34 rfl ty32 rfl rfl rfl) <| wV rfl (run_load1 ty32 rfl (hhl hs.has)) <| wV rfl (run_lenSl underlying32 rfl) <| wV rfl (run_bT (run_lss rfl rfl) (by omega)) <| wm rfl <| WL.yes rfl rfl rfl <| wm rfl <| WL.yes rfl rfl rfl <| wn rfl rfl <| WL.yes rfl rfl rfl <| wV rfl (run_field (o' := 1) underlying34 rfl ty32 rfl rfl rfl) <| WL.yes rfl rfl rfl <| wV rfl (run_load1 ty32 rfl (hhl2 hs.has)) <| WL.yes rfl rfl rfl <| wm rfl ?_
    refine WL.yes rfl rfl rfl ?_; (first | refine wV rfl (run_ixSlN underlying32 ty115 rfl rfl (by omega)) ?_ | refine wV rfl (run_ixSl underlying32 ty115 rfl rfl (by omega)) ?_)
    refine WL.yes rfl rfl rfl <| wV rfl (run_field (o' := 0) underlying115 rfl ty4 rfl rfl rfl) <| WL.yes rfl rfl rfl <| wV rfl (run_load1 ty4 rfl ((hcell (j := 0) hs.has (by omega) rfl))) <| wV rfl (run_pickT rfl) <| wZ ?_
    refine cC rfl (fun h => ?_) (fun h => ?_)
    ·cases h
    refine CW.exit ?_
    exact ⟨rfl, hs, rfl, rfl, rfl, rfl, trivial⟩
   ·refine cQ <| cQ <| cR <| wm rfl <| wm rfl <| wn rfl rfl <| wV rfl (run_field (o' := 1) underlying34 rfl ty32 rfl rfl rfl) <| wV rfl (run_load1 ty32 rfl (hhl hs.has)) <| wV rfl (run_lenSl underlying32 rfl) <| wV rfl (run_bF (run_lss rfl rfl) (by omega)) <| wm rfl <| WL.no rfl rfl rfl (.inl rfl) <| WL.no rfl rfl rfl (.inl rfl) <| WL.no rfl rfl rfl (.inl rfl) <| WL.no rfl rfl rfl (.inl rfl) <| WL.no rfl rfl rfl (.inl rfl) <| WL.no rfl rfl rfl (.inl rfl) <| WL.no rfl rfl rfl (.inl rfl) <| WL.no rfl rfl rfl (.inl rfl) <| wV rfl (run_pickF rfl) <| wZ ?_
    refine cC rfl (fun h => ?_) (fun h => ?_)
    ·cases h
    refine CW.exit ?_
    exact ⟨rfl, hs, rfl, rfl, rfl, rfl, trivial⟩
 clear hs
 rintro f w ⟨hs, hf⟩
 have hobt := hf.chain
 obtain ⟨g, rfl⟩ := hobt
 refine CW.seqM (fun f w => ∃ s3 A3 uh3 Lh3, ROpen bg s3 A3 u2 uh3 R2 Lu2 Lh3 ∧ (hv s3)[sl]? = some none ∧ hv s4 = (hv s3).set sl (some (q, 0, m % 4)) ∧ (s4.itemsL = s3.itemsL ∧ s4.qb = s3.qb ∧ s4.qf = s3.qf ∧ s4.qo = s3.qo) ∧ Step S A3 w0 w ∧ Holds f [(0, .pointer (some ⟨bg, 0, none⟩)), (2, .int .i64 (m : Nat)), (8, str q), (16, .int .i64 (sl : Nat))]) ?_ ?_
 ·by_cases hlen : sl < s2.H.length
  ·refine cQ <| cR <| wm rfl <| wm rfl <| wn rfl rfl <| wV rfl (run_field (o' := 1) underlying34 rfl ty32 rfl rfl rfl) <| wV rfl (run_load1 ty32 rfl (hhl hs.has)) <| wV rfl (run_lenSl underlying32 rfl) <| wV rfl (run_bF (run_eql rfl rfl) (by omega)) <| wZ ?_
   refine cC rfl (fun h => ?_) (fun h => ?_)
   ·cases h
   refine cK ?_
   exact ⟨rfl, s2, A2, uh, Lh, o2, hsl3 hlen, hgr1 hlen, hs4f, hs, rfl, rfl, rfl, rfl, trivial⟩
  ·have hsE : sl = (hv s2).length := by omega
   have hh0 := hhl hs.has
   have hoh := o2.oh
   rw [huh2] at hoh
   have hA2 := o2.A
   have hbgc : (u2 :: [uh, .int .i64 s2.qb, .int .i64 s2.qf, .int .i64 s2.qo])[1]? = some (.slice ah2 (hv s2).length ch2) := by rw [← huh2]; rfl
   rw [hA2] at hs
   refine cQ <| cR <| wm rfl <| wm rfl <| wn rfl rfl <| wV rfl (run_field (o' := 1) underlying34 rfl ty32 rfl rfl rfl) <| wV rfl (run_load1 ty32 rfl (hh0)) <| wV rfl (run_lenSl underlying32 rfl) <| wV rfl (run_bT (run_eql rfl rfl) (by omega)) <| wZ ?_
   refine cC rfl (fun h => ?_) (fun h => ?_)
   ·skip
    refine cR <| wm rfl <| wm rfl <| wn rfl rfl <| wV rfl (run_field (o' := 1) underlying34 rfl ty32 rfl rfl rfl) <| wV rfl (run_load1 ty32 rfl (hs.c0 hbgc)) <| wV rfl (run_build rfl ((bld_hnd _))) ?_
    refine WL.buildSlice (cs := (hC none)) underlying32 ty115 rfl (by decide) rfl (filled1 rfl rfl) rfl hs (fun b170 w hs => ?_)
    have hsl9 : Sl w 4 (.slice (some ⟨b170, 0, none⟩) 1 1) 1 (hC none) := .own1 hs rfl
    refine WL.append underlying32 underlying32 ty115 rfl (by decide) rfl rfl (hoh) ((hs.perm perm_qo1)) (hsl9) (Cells1.of_all rfl) (by first | omega | (simp only [List.length_append, List.length_cons, List.length_nil]; omega)) rfl (fun v171 Lv171 w hv171 hs => ?_)
    refine wn rfl rfl <| wV rfl (run_field (o' := 1) underlying34 rfl ty32 rfl rfl rfl) ?_
    refine WL.store1 ty32 rfl rfl (hv171.one) ((hs.perm perm_qo2)) (by first | (simp; done) | omega | (simp only [List.length_append, List.length_replicate, List.length_cons, List.length_nil, List.length_set]; omega) | (simp [Ent.cells, u8s]; done) | exact Nat.le_of_ble_eq_true rfl) (fun w hs => ?_)
    refine wZ ?_
    have hs9 : Step S ((bg, rO u2 v171 s2.qb s2.qf s2.qo) :: (Lv171 ++ ((b170, blk 115 (hC none)) :: (Lu2 ++ R2.flatMap (·.Lv))))) w0 w := hs
    have hs8 : Step S ((bg, rO u2 v171 s2.qb s2.qf s2.qo) :: (Lu2 ++ (Lv171 ++ R2.flatMap (·.Lv)))) w0 w := (hs9.perm perm_qo3).tail
    have hv3 : hv { s2 with H := s2.H ++ [none] } = hv s2 ++ [none] := hv_none
    have hl3 : (hv s2 ++ [none]).length = (hv s2).length + 1 := by simp
    refine ⟨rfl, { s2 with H := s2.H ++ [none] }, _, v171, Lv171, ⟨o2.own, o2.data, o2.abs, ?_, rfl⟩, ?_, ?_, hs4f, hs8, rfl, rfl, rfl, rfl, trivial⟩
    ·rw [hv3, hl3, hsC_snoc]
     exact hv171
    ·rw [hv3, hsE, List.getElem?_append_right (Nat.le_refl _), Nat.sub_self]
     rfl
    ·rw [hgr2 hlen, hv3, hsE, List.set_append_right _ _ (Nat.le_refl _), Nat.sub_self]
     rfl
   ·cases h
 clear hs o2
 rintro f w ⟨s3, A3, uh3, Lh3, o3, hx3, hv4, ⟨g1, g2, g3, g4⟩, hs, hf⟩
 have hobt := hf.chain
 obtain ⟨g, rfl⟩ := hobt
 have hsl3l := (List.getElem?_eq_some_iff.1 hx3).1
 have hobt := o3.openH hx3
 obtain ⟨b, c, more, huq, hpm, hmk⟩ := hobt
 have hobt := hmk (s' := s4) (h' := some (q, 0, m % 4)) hv4 g1 g2 g3 g4
 obtain ⟨A4, o4, hpm4⟩ := hobt
 have hset := hsC_splice (X := more) (h' := some (q, 0, m % 4)) hx3
 have hbl : (hsC (hv s3) ++ more).length = (hv s3).length * 4 + more.length := by rw [List.length_append, hsC_len]
 have hlo : w.cell? ⟨bg, 0 + 1, none⟩ = some (.slice (some ⟨b, 0, none⟩) (hv s3).length c) := by
  rw [cell_blk (o3.fs hs.has), ← huq]
  rfl
 replace hs := hs.perm hpm
 refine cQ <| cR <| wm rfl <| wn rfl rfl <| wV rfl (run_field (o' := 1) underlying34 rfl ty32 rfl rfl rfl) <| wV rfl (run_load1 ty32 rfl (hlo)) <| wm rfl <| wm rfl <| wm rfl <| wV rfl (run_remE rfl rfl (by decide) hmod) <| wV rfl (run_build rfl ((bld_hop q ((m % 4 : Nat) : Int) _))) <| wV rfl (run_ixSlN underlying32 ty115 rfl rfl (by omega)) ?_
 refine WL.storeN ty115 rfl rfl (rfl) (Cells1.of_all rfl) (hs) (by first | (simp; done) | omega | (simp only [List.length_append, List.length_replicate, List.length_cons, List.length_nil, List.length_set]; omega) | (simp [Ent.cells, u8s]; done) | exact Nat.le_of_ble_eq_true rfl) (fun w hs => ?_)
 refine wZ ?_
 replace hs : Step S ((b, blk 115 (hsC ((hv s3).set sl (some (q, 0, m % 4))) ++ more)) :: (bg, rO u2 uh3 s3.qb s3.qf s3.qo) :: (Lu2 ++ R2.flatMap (·.Lv))) w0 w := by
  rw [← hset]
  exact hs
 refine cQ <| cR <| wm rfl <| wa rfl <| wa rfl <| wZ ?_
 refine CW.ret ?_
 refine fin_ret2 rfl ?_
 exact ⟨A4, by rw [hz2]; rfl, by rw [hz2]; exact ⟨_, _, _, _, _, o4⟩, hs.perm hpm4.symm⟩
end
end Go.Gx
