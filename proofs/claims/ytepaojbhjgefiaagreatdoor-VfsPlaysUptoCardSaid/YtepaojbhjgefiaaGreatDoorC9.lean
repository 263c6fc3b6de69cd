/- slices.SortFunc at items: any length. Files in memory: Items, the walk. Files in memory: Items, the walk. Files in memory: List, the walk. Files in memory: List, the walk. -/
import Derived.Test.YtepaojbhjgefiaaGreatDoorYSort
import Derived.Test.YtepaojbhjgefiaaGreatDoorC5
import Derived.Test.YtepaojbhjgefiaaGreatDoorC1
import Derived.Test.YtepaojbhjgefiaaGreatDoorC8
set_option linter.unusedVariables false
set_option linter.unusedSimpArgs false
/-! Vt9 -/
namespace Go.Gx
open Go.Proofs Go.Proofs.Tryz
set_option maxRecDepth 100000
theorem flatK_rowsI (R : List RowI) : Go.Sort.flatK RowI.enc 3 R.toArray = (rowsI R).toArray := by
 apply Array.ext_getElem?
 intro t
 by_cases ht : t < R.length * 3
 ·have hi : t / 3 < R.length := by omega
  have hj : t % 3 < 3 := Nat.mod_lt _ (by decide)
  have h := rowsI_at R (t / 3) (t % 3) hi hj
  rw [show t / 3 * 3 + t % 3 = t by omega] at h
  have hr : (rowsI R).toArray[t]? = R[t / 3].enc[t % 3]? := by rw [← h]; simp
  rw [hr]
  have h1 : t < (Go.Sort.flatK RowI.enc 3 R.toArray).size := by simpa using ht
  rw [Array.getElem?_eq_getElem h1, ← getElem!_pos (Go.Sort.flatK RowI.enc 3 R.toArray) t h1, Go.Sort.get_flatK _ _ _ _ (by simpa using ht)]
  have e : (R.toArray)[t / 3]! = R[t / 3] := by simp [hi]
  rw [e]
  have hl : t % 3 < (R[t / 3].enc).length := by rw [RowI.enc_len]; exact hj
  rw [getElem!_pos (R[t / 3].enc) (t % 3) hl, List.getElem?_eq_getElem hl]
 ·rw [Array.getElem?_eq_none (by simp; omega), Array.getElem?_eq_none (by simp [rowsI_len]; omega)]
theorem putCells_row (F : List Value) (cs : List Value) (h : F.length ≤ cs.length) : Go.Sort.putCells id 0 F.toArray cs.toArray = (F ++ cs.drop F.length).toArray := by
 apply Array.ext_getElem?
 intro i
 simp only [Go.Sort.putCells, Array.getElem?_mapIdx, List.getElem?_toArray]
 by_cases hi : i < F.length
 ·rw [List.getElem?_append_left hi, List.getElem?_eq_getElem hi, List.getElem?_eq_getElem (by omega)]
  simp [hi]
 ·rw [List.getElem?_append_right (by omega), List.getElem?_drop, show F.length + (i - F.length) = i by omega]
  cases hc : cs[i]? with
  | none => rfl
  | some v => simp [hi]
theorem perm_of_permIn {d d' : Array RowI} (h : Sort.PermIn 0 d.size d d') : d'.toList.Perm d.toList := by
 have h1 := h.2.2
 have e1 : (d.extract 0 d.size).toList = d.toList := by simp
 have e2 : (d'.extract 0 d.size).toList = d'.toList := by rw [← h.1]; simp
 rwa [e1, e2] at h1
theorem sorted_of {d' : Array RowI} (h : Sort.SortedIn (ltOf RowI.cf) 0 d'.size d') : d'.toList.Pairwise (fun a b => lessP b.p a.p = false) := by
 rw [List.pairwise_iff_getElem]
 intro i j hi hj hij
 have hi' : i < d'.size := by simpa using hi
 have hj' : j < d'.size := by simpa using hj
 have h1 := h i j (Nat.zero_le _) hij hj'
 rw [RowI.cf_lt, getElem!_pos d' i hi', getElem!_pos d' j hj'] at h1
 simpa using h1
theorem Step.grow {S : List Nat} {L : List (Nat × Obj)} {w0 w : World} (hs : Step S L w0 w) (os : Array Obj) : Step S L w0 (Go.Sort.grow w os) := by
 have hc : Step [] [] w (Go.Sort.grow w os) := by
  refine ⟨⟨rfl, rfl, rfl, ?_, fun k hk _ => ?_, Nat.le_refl _⟩, by simp, by simp, by simp⟩
  ·show w.heap.size ≤ (w.heap ++ os).size
   simp
  ·show (w.heap ++ os)[k]? = _
   rw [Array.getElem?_append_left hk]
 exact hs.call0 hc
theorem mapBlock_blk {w : World} {b : Nat} {T : TypeId} {cs cs' : List Value} {f : Array Value → Array Value} (h : w.heap[b]? = some (blk T cs)) (hf : f cs.toArray = cs'.toArray) : Go.Sort.mapBlock w b f = { w with heap := w.heap.setIfInBounds b (blk T cs') } := by
 unfold Go.Sort.mapBlock
 congr 1
 apply Array.ext_getElem?
 intro i
 rw [Array.getElem?_modify, Array.getElem?_setIfInBounds]
 have hb := lt_of_get h
 by_cases hi : b = i
 ·subst hi
  rw [if_pos rfl, if_pos rfl, if_pos hb, h]
  simp [Go.Sort.onCells, blk, hf]
 ·rw [if_neg hi, if_neg hi]
theorem sortI_spec {u : Value} {R : List RowI} {Lu : List (Nat × Obj)} (hu : OwnSl 56 3 u R.length (rowsI R) Lu) (w0 : World) (hg : Gl w0) (hz0 : 0 ∉ Lu.map (·.1)) (hO : Step (Lu.map (·.1)) Lu w0 w0) (hsz : R.length < 4611686018427387904) :
  Calls Tryz.prog 21 #[u, .func (.func 22) #[] #[]] w0 (fun e w' => ∃ R' Lu', e = .returned (.tuple #[]) ∧ R'.Perm R ∧ R'.Pairwise (fun a b => lessP b.p a.p = false) ∧ OwnSl 56 3 u R'.length (rowsI R') Lu' ∧ Step (Lu.map (·.1)) Lu' w0 w') := by
 obtain ⟨hl, ⟨rfl, h0, rfl⟩ | ⟨b, cap, more, rfl, rfl, hcap⟩⟩ := hu
 ·obtain rfl : R = [] := List.eq_nil_of_length_eq_zero h0
  refine (AnyF.slices_SortFunc_none Tryz.sortRow none 0 (.func (.func 22) #[] #[]) w0).mono fun e w' ⟨h1, h2⟩ => ?_
  subst h2
  exact ⟨[], [], h1, List.Perm.refl _, List.Pairwise.nil, OwnSl.nil _ _, hO⟩
 ·have hb0 : b ≠ 0 := fun h => hz0 (by rw [h]; simp)
  have hb : w0.heap[b]? = some (blk 56 (rowsI R ++ more)) := hO.hd
  have eg : ∀ args w, (callFunc 22 args).run Tryz.prog w = .ok (.enter 22 args) w := enters_of Tryz.func22 (by kernel_rfl) rfl
  have hH : Go.Sort.HoldsK RowI.enc 3 w0 b 0 R.toArray := by
   unfold Go.Sort.HoldsK
   rw [flatK_rowsI]
   intro j hj
   have hj' : j < (rowsI R).length := by simpa using hj
   rw [Nat.zero_add, cell_blk hb, List.getElem?_append_left hj', frozen_blk hb]
   refine ⟨?_, rfl⟩
   rw [List.getElem?_eq_getElem hj']
   simp [hj']
  have hcon := AnyQ.slices_SortFunc Tryz.sortRow 3 Tryz.isAgg56 Tryz.sizeOf56 RowI.enc RowI.enc_len RowI.enc1 RowI.cf RowI.swo 22 #[] b 0 cap R.toArray w0 eg (Gy.cmpLaysI b 0 _ w0 hg hb0) hH (lt_of_get hb) (by simpa using hsz)
  rw [List.size_toArray] at hcon
  refine hcon.mono fun e w' ⟨h1, d', n, os, hp, hso, hw⟩ => ?_
  have hp1 := perm_of_permIn (d := R.toArray) (by simpa using hp)
  have hsz' : d'.size = R.length := by have := hp.1; simpa using this
  rw [← hsz'] at hso
  have hlen : (rowsI d'.toList).length = (rowsI R).length := by rw [rowsI_len, rowsI_len, hp1.length_eq]
  refine ⟨d'.toList, [(b, blk 56 (rowsI d'.toList ++ more))], h1, hp1, sorted_of hso, ⟨rowsI_len _, .inr ⟨b, cap, more, ?_, rfl, ?_⟩⟩, ?_⟩
  ·rw [hp1.length_eq]
  ·rw [List.length_append, hlen, ← List.length_append]; exact hcap
  ·subst hw
   have hf : Go.Sort.flatK RowI.enc 3 d' = (rowsI d'.toList).toArray := by rw [← flatK_rowsI]
   have hput : Go.Sort.putCells id 0 (rowsI d'.toList).toArray (rowsI R ++ more).toArray = (rowsI d'.toList ++ more).toArray := by
    rw [putCells_row _ _ (by rw [hlen, List.length_append]; omega), hlen, List.drop_left]
   have hs1 : Step [b] [(b, blk 56 (rowsI R ++ more))] w0 (Go.Sort.ahead w0 n) := Step.drewN hO n
   show Step [b] _ w0 (Go.Sort.grow (Go.Sort.mapBlock (Go.Sort.ahead w0 n) b (Go.Sort.putCells id 0 (Go.Sort.flatK RowI.enc 3 d'))) os)
   rw [hf, mapBlock_blk hs1.hd hput]
   exact (hs1.setOS _).grow os
end Go.Gx
/-! Vt10 -/
namespace Go.Gx
open Go.Proofs Go.Proofs.Tryz
set_option maxRecDepth 100000
abbrev Tri := List UInt8 × Bool × List UInt8
def absR (R : List RowI) : List Tri := R.map fun r => (r.p, r.d, r.x)
/-- All files and directories, as they stand. -/
def VS.itemsU (s : VS) : List Tri := ((s.D.map (·.1)).filter (fun p => decide (p ≠ []))).map (fun p => (p, true, [])) ++ s.F.map (fun e => (e.1, false, e.2))
def insT (t : Tri) : List Tri → List Tri
 | [] => [t]
 | a :: l => if lessP t.1 a.1 then t :: a :: l else a :: insT t l
def VS.itemsL (s : VS) : List Tri := s.itemsU.foldr insT []
theorem insT_perm (t : Tri) : ∀ l, (insT t l).Perm (t :: l)
 | [] => List.Perm.refl _
 | a :: l => by
  rw [insT]
  split
  ·exact List.Perm.refl _
  ·exact ((insT_perm t l).cons a).trans (List.Perm.swap _ _ _)
theorem itemsL_perm (l : List Tri) : (l.foldr insT []).Perm l := by
 induction l with
 | nil => exact List.Perm.refl _
 | cons t l ih => exact (insT_perm t _).trans (ih.cons t)
def SortT (l : List Tri) : Prop := l.Pairwise fun a b => lessP a.1 b.1 = true
theorem insT_sorted {t : Tri} : ∀ {l : List Tri}, SortT l → (∀ a ∈ l, a.1 ≠ t.1) → SortT (insT t l)
 | [], _, _ => by simp [insT, SortT]
 | a :: l, h, hn => by
  have hobt := List.pairwise_cons.1 h
  obtain ⟨h1, h2⟩ := hobt
  rw [insT]
  split
  ·rename_i hlt
   refine List.pairwise_cons.2 ⟨fun b hb => ?_, h⟩
   rcases List.mem_cons.1 hb with e | e
   ·rw [e]; exact hlt
   ·exact lessP_trans hlt (h1 b e)
  ·rename_i hlt
   refine List.pairwise_cons.2 ⟨fun b hb => ?_, insT_sorted h2 fun a ha => hn a (by simp [ha])⟩
   rcases List.mem_cons.1 ((insT_perm t l).mem_iff.1 hb) with e | e
   ·rw [e]
    exact lessP_tri (fun h => hn a (by simp) h.symm) (by simpa using hlt)
   ·exact h1 b e
theorem itemsL_sorted : ∀ {l : List Tri}, (l.map (·.1)).Nodup → SortT (l.foldr insT [])
 | [], _ => List.Pairwise.nil
 | t :: l, h => by
  rw [List.map_cons, List.nodup_cons] at h
  refine insT_sorted (itemsL_sorted h.2) fun a ha e => h.1 ?_
  rw [← e]
  exact List.mem_map_of_mem ((itemsL_perm l).mem_iff.1 ha)
theorem sorted_eq : ∀ {a b : List Tri}, SortT a → SortT b → a.Perm b → a = b
 | [], b, _, _, h => by simpa using h.symm.eq_nil
 | x :: a, [], _, _, h => by simpa using h.eq_nil
 | x :: a, y :: b, ha, hb, h => by
  have hobt := List.pairwise_cons.1 ha
  obtain ⟨h1, h2⟩ := hobt
  have hobt := List.pairwise_cons.1 hb
  obtain ⟨h3, h4⟩ := hobt
  have hxy : x = y := by
   rcases List.mem_cons.1 (h.mem_iff.1 (by simp : x ∈ x :: a)) with e | e
   ·exact e
   ·rcases List.mem_cons.1 (h.mem_iff.2 (by simp : y ∈ y :: b)) with e2 | e2
    ·exact e2.symm
    ·have := lessP_trans (h1 y e2) (h3 x e)
     rw [lessP_irrefl] at this
     cases this
  subst hxy
  rw [sorted_eq h2 h4 (List.Perm.cons_inv h)]
theorem items_nodup {s : VS} (t : s.Tree) : (s.itemsU.map (·.1)).Nodup := by
 unfold VS.itemsU
 rw [List.map_append, List.map_map, List.map_map, List.nodup_append]
 have e1 : List.map ((fun t : Tri => t.1) ∘ fun p => (p, true, [])) ((s.D.map (·.1)).filter (fun p => decide (p ≠ []))) = (s.D.map (·.1)).filter (fun p => decide (p ≠ [])) := by
  rw [show ((fun t : Tri => t.1) ∘ fun p => (p, true, [])) = id from rfl, List.map_id]
 have e2 : List.map ((fun t : Tri => t.1) ∘ fun e => (e.1, false, e.2)) s.F = s.F.map (·.1) := rfl
 rw [e1, e2]
 refine ⟨t.ndD.filter _, t.ndF, fun a ha b hb e => ?_⟩
 have hobt := List.mem_map.1 hb
 obtain ⟨y, hy, h2⟩ := hobt
 have h3 := t.dj y hy
 rw [h2, ← e] at h3
 exact dir_not h3 (List.mem_filter.1 ha).1
/-- What the program's sort leaves is the files' list. -/
theorem abs_items {s : VS} (t : s.Tree) {R : List RowI} (hp : (absR R).Perm s.itemsU) (hs : R.Pairwise (fun a b => lessP b.p a.p = false)) : absR R = s.itemsL := by
 refine sorted_eq ?_ (itemsL_sorted (items_nodup t)) (hp.trans (itemsL_perm _).symm)
 have hn : ((absR R).map (·.1)).Nodup := (hp.map _).nodup_iff.2 (items_nodup t)
 have e : (absR R).map (·.1) = R.map (·.p) := by simp [absR, Function.comp_def]
 rw [e] at hn
 unfold SortT absR
 rw [List.pairwise_map]
 have hn2 : R.Pairwise fun a b => a.p ≠ b.p := List.pairwise_map.1 hn
 refine (hs.and hn2).imp fun h => ?_
 exact lessP_tri (fun e => h.2 e.symm) h.1
def trD (p : SEnt) : Tri := (p.1, true, [])
def trF (Fs : List FB) (p : SEnt) : Tri := (p.1, false, ((Fs[p.2.2]?).map (·.x)).getD [])
theorem mapDi_tr : ∀ (Ds : List DB) (k : Nat), ((mapDi Ds k).filter fun p => decide (p.1 ≠ [])).map trD = ((Ds.map (·.p)).filter fun p => decide (p ≠ [])).map fun p => (p, true, [])
 | [], _ => rfl
 | r :: Ds, k => by
  have ih := mapDi_tr Ds (k + 1)
  rw [mapDi, List.map_cons, List.filter_cons, List.filter_cons]
  by_cases h : r.p = []
  ·rw [if_neg (by simp [h]), if_neg (by simp [h])]
   exact ih
  ·rw [if_pos (by simp [h]), if_pos (by simp [h]), List.map_cons, List.map_cons, ih]
   rfl
theorem mapF_tr : ∀ (Fs : List FB) (A : List FB), (mapF Fs A.length).map (trF (A ++ Fs)) = Fs.map fun r => (r.p, false, r.x)
 | [], _ => rfl
 | r :: Fs, A => by
  have ih := mapF_tr Fs (A ++ [r])
  rw [List.append_assoc, List.singleton_append, List.length_append] at ih
  rw [mapF, List.map_cons, List.map_cons]
  have h0 : (A ++ r :: Fs)[A.length]? = some r := by rw [List.getElem?_append_right (Nat.le_refl _), Nat.sub_self]; rfl
  congr 1
  ·unfold trF
   simp only [h0]
   rfl
theorem mapF_mem : ∀ {Fs : List FB} {k : Nat} {p : SEnt}, p ∈ mapF Fs k → ∃ i r, Fs[i]? = some r ∧ p = (r.p, .pointer (some ⟨r.b, 0, none⟩), k + i)
 | r :: Fs, k, p, h => by
  rw [mapF] at h
  rcases List.mem_cons.1 h with e | e
  ·exact ⟨0, r, rfl, e⟩
  ·have hobt := mapF_mem e
   obtain ⟨i, r', h1, h2⟩ := hobt
   exact ⟨i + 1, r', h1, by rw [h2]; congr 2; omega⟩
theorem mapDi_mem : ∀ {Ds : List DB} {k : Nat} {p : SEnt}, p ∈ mapDi Ds k → ∃ i r, Ds[i]? = some r ∧ p = (r.p, .pointer (some ⟨r.b, 0, none⟩), k + i)
 | r :: Ds, k, p, h => by
  rw [mapDi] at h
  rcases List.mem_cons.1 h with e | e
  ·exact ⟨0, r, rfl, e⟩
  ·have hobt := mapDi_mem e
   obtain ⟨i, r', h1, h2⟩ := hobt
   exact ⟨i + 1, r', h1, by rw [h2]; congr 2; omega⟩
theorem mapF_born : ∀ (Fs : List FB) (k : Nat), (mapF Fs k).map (·.2.2) = List.range' k Fs.length
 | [], _ => rfl
 | r :: Fs, k => by rw [mapF, List.map_cons, mapF_born Fs (k + 1), List.length_cons, List.range'_succ]
theorem mapDi_born : ∀ (Ds : List DB) (k : Nat), (mapDi Ds k).map (·.2.2) = List.range' k Ds.length
 | [], _ => rfl
 | r :: Ds, k => by rw [mapDi, List.map_cons, mapDi_born Ds (k + 1), List.length_cons, List.range'_succ]
theorem bornF (Fs : List FB) : BornS (mapF Fs 0) Fs.length := by
 have h := mapF_born Fs 0
 refine ⟨fun p hp => ?_, by rw [h]; exact List.nodup_range'⟩
 have h2 : p.2.2 ∈ (mapF Fs 0).map (·.2.2) := List.mem_map_of_mem hp
 rw [h] at h2
 have := List.mem_range'.1 h2
 omega
theorem bornD (Ds : List DB) : BornS (mapDi Ds 0) Ds.length := by
 have h := mapDi_born Ds 0
 refine ⟨fun p hp => ?_, by rw [h]; exact List.nodup_range'⟩
 have h2 : p.2.2 ∈ (mapDi Ds 0).map (·.2.2) := List.mem_map_of_mem hp
 rw [h] at h2
 have := List.mem_range'.1 h2
 omega
end Go.Gx
/-! Vt11 -/
namespace Go.Gx
open Go.Proofs Go.Proofs.Tryz
set_option maxRecDepth 100000
theorem bld_itS (d : List UInt8) (a : Option Addr) (n c : Nat) (w : World) : (Instr.build 56 #[(0, str d), (2, .slice a n c)]).run Tryz.prog w = .ok (.agg (itC d false (.slice a n c)).toArray) w := by kernel_rfl
section
variable {α : Type}
theorem perm_i1 {x y : α} {l a b : List α} : (x :: (l ++ (y :: (a ++ b)))).Perm (a ++ (x :: y :: (b ++ l))) := by
 classical
 exact List.perm_iff_count.2 fun z => by
  simp only [List.count_append, List.count_cons]
  omega
theorem perm_i2 {x y : α} {a b : List α} : (a ++ (x :: y :: b)).Perm (x :: y :: (a ++ b)) := by
 classical
 exact List.perm_iff_count.2 fun z => by
  simp only [List.count_append, List.count_cons]
  omega
end
section
variable {bf mf md : Nat} {s : VS} {L Lh : List (Nat × Obj)} {vh : Value} {Fs : List FB} {Ds : List DB} {Hs : List (Option HB)} {w0 : World}
theorem Tree_len {s : VS} (t : s.Tree) {r : List UInt8} (h : r ∈ s.D.map (·.1) ∨ r ∈ s.F.map (·.1)) : r.length ≤ 2080 := by
 by_cases h0 : r = []
 ·rw [h0]; exact Nat.zero_le _
 ·exact clean_len (t.cl r h h0).1
set_option maxHeartbeats 4000000 in
theorem allItems_spec (o : VOpen bf s L mf md vh Lh Fs Ds Hs) (ok : s.Ok) (t : s.Tree) (hg : Gl w0) (hw : ∀ p ∈ L, w0.heap[p.1]? = some p.2) : Calls Tryz.prog 8 #[.pointer (some ⟨bf, 0, none⟩)] w0 fun e w' => ∃ u Lu R, e = .returned u ∧ absR R = s.itemsL ∧ OwnSl 56 3 u R.length (rowsI R) Lu ∧ (∀ r ∈ R, OwnSl 5 1 r.v r.x.length (u8s r.x) r.Lv) ∧ Step [] (Lu ++ R.flatMap (·.Lv)) w0 w' := by
 have hs : Step [] [] w0 w0 := Step.refl w0
 have hlw : ∀ {L' w}, Step [] L' w0 w → ∀ p ∈ L, w.heap[p.1]? = some p.2 := fun hs p hp => hs.old (hw p hp) (by simp)
 have hat := fun {w} hw => o.at (w := w) hw
 have hmd := fun {L' w} (hs : Step [] L' w0 w) => o.md_ (hlw hs)
 have hmf := fun {L' w} (hs : Step [] L' w0 w) => o.mf_ (hlw hs)
 have hdl : Ds.length ≤ 65536 := by have := ok.d; rw [← o.D, List.length_map] at this; exact this
 have hfl : Fs.length ≤ 65536 := by have := ok.f; rw [← o.F, List.length_map] at this; exact this
 have hDp : Ds.map (·.p) = s.D.map (·.1) := by rw [← o.D, List.map_map]; rfl
 have hFp : Fs.map (·.p) = s.F.map (·.1) := by rw [← o.F, List.map_map]; rfl
 refine calls (n := 46) Tryz.func8 rfl rfl rfl ?_
 refine cQ <| cR <| wa rfl <| wZ <| cQ <| cR <| wa rfl <| wZ ?_
 refine CW.seqM (fun f w => ∃ u Lu R, (absR R).Perm (((s.D.map (·.1)).filter (fun p => decide (p ≠ []))).map fun p => (p, true, [])) ∧ (∀ r ∈ R, r.v = .slice none 0 0 ∧ r.x = [] ∧ r.Lv = []) ∧ OwnSl 56 3 u R.length (rowsI R) Lu ∧ Step [] Lu w0 w ∧ Holds f [(0, .pointer (some ⟨bf, 0, none⟩)), (3, u)]) ?_ ?_
 ·refine cQ <| cR <| wm rfl <| wn rfl rfl <| wV rfl (run_field (o' := 1) underlying61 rfl ty58 rfl rfl rfl) <| wV rfl (run_load1 ty58 rfl ((hat (hlw hs)).cell (j := 1) rfl)) ?_
  refine WL.rangeS2 underlying58 rfl (hmd hs) rfl hs (fun b11 w hs => ?_)
  refine wZ <| CW.block ?_
  refine CW.loop (fun z f w => ∃ done left u Lu R, z = left.length ∧ (done ++ left).Perm (mapDi Ds 0) ∧ absR R = ((done.filter fun p => decide (p.1 ≠ [])).map trD) ∧ (∀ r ∈ R, r.v = .slice none 0 0 ∧ r.x = [] ∧ r.Lv = []) ∧ OwnSl 56 3 u R.length (rowsI R) Lu ∧ Step [] ((b11, iterS md Ds.length done) :: Lu) w0 w ∧ Holds f [(0, .pointer (some ⟨bf, 0, none⟩)), (3, u), (11, .pointer (some ⟨b11, 0, none⟩))]) (m := Ds.length) ?_ ?_
  ·exact ⟨[], mapDi Ds 0, _, [], [], (mapDi_len Ds 0).symm, List.Perm.refl _, rfl, fun r hr => (by cases hr), OwnSl.nil _ _, hs, rfl, rfl, rfl, trivial⟩
  ·clear hs
   rintro z f w ⟨done, left, u, Lu, R, rfl, hperm, hR, hRv, hu, hs, hf⟩
   have hobt := hf.chain
   obtain ⟨g, rfl⟩ := hobt
   have hobt := hu.form
   obtain ⟨au, cu, rfl⟩ := hobt
   have hlen := hperm.length_eq
   rw [List.length_append, mapDi_len] at hlen
   have hRl : R.length ≤ done.length := by
    have h1 := congrArg List.length hR
    have h2 := List.length_filter_le (fun p : SEnt => decide (p.1 ≠ [])) done
    simp only [absR, List.length_map] at h1
    omega
   by_cases hne : left = []
   ·subst hne
    refine cQ <| cR <| wV rfl (run_nextSEnd rfl hs.hd (hmd hs) (bornD Ds) hperm) <| wx rfl rfl rfl <| wZ <| cQ ?_
    refine cC rfl (fun h => ?_) (fun h => ?_)
    ·cases h
    refine CW.exit ?_
    refine ⟨rfl, .slice au R.length cu, Lu, R, ?_, hRv, hu, hs.tail, rfl, rfl, trivial⟩
    rw [hR, ← hDp, ← mapDi_tr Ds 0]
    rw [List.append_nil] at hperm
    exact (hperm.filter _).map _
   ·refine cQ <| cR ?_
    refine WL.nextS2 rfl rfl hs (hmd hs) (bornD Ds) hperm hne (fun p left' w hleft hperm hs => ?_)
    refine wx rfl rfl rfl <| wZ <| cQ ?_
    refine cC rfl (fun h => ?_) (fun h => ?_)
    ·repeat (first | refine cQ ?_ | refine CW.block ?_ | refine cK ?_)
     refine cR <| wV rfl (run_entryS rfl hs.hd (hmd hs) (bornD Ds) (hperm.mem_iff.1 (by simp))) <| wx rfl rfl rfl <| wa rfl <| wZ ?_
     have hleft := hleft.length_eq
     rw [List.length_cons] at hleft
     have hpm : p ∈ mapDi Ds 0 := hperm.mem_iff.1 (by simp)
     have hpl : p.1.length ≤ 4096 := by
      have hobt := mapDi_mem hpm
      obtain ⟨i, r, h1, h2⟩ := hobt
      have h3 : p.1 ∈ s.D.map (·.1) := by rw [← hDp, h2]; exact List.mem_map.2 ⟨r, List.mem_of_getElem? h1, rfl⟩
      have := Tree_len t (.inl h3)
      omega
     by_cases hp0 : p.1 = []
     ·refine cQ <| cR <| wm rfl <| wV rfl (run_bF (run_strNe rfl rfl) (by exact fun h => h hp0)) <| wZ ?_
      refine cC rfl (fun h => ?_) (fun h => ?_)
      ·cases h
      refine cK ?_
      refine (show _ ∧ _ from ⟨rfl, _, ?_, done ++ [p], left', .slice au R.length cu, Lu, R, rfl, hperm, (by rw [hR, List.filter_append, List.filter_cons, if_neg (by simp [hp0])]; simp), hRv, hu, hs, rfl, rfl, rfl, trivial⟩)
      omega
     ·refine cQ <| cR <| wm rfl <| wV rfl (run_bT (run_strNe rfl rfl) (by exact hp0)) <| wZ ?_
      refine cC rfl (fun h => ?_) (fun h => ?_)
      ·skip
       refine cR <| wm rfl <| wm rfl <| wV rfl (run_build rfl (bld_itD p.1 _)) ?_
       refine WL.buildSlice (cs := (itC p.1 true (.slice none 0 0))) underlying22 ty56 rfl (by decide) rfl (filled1 rfl rfl) rfl hs (fun b21 w hs => ?_)
       have hsl1 : Sl w 3 (.slice (some ⟨b21, 0, none⟩) 1 1) 1 (itC p.1 true (.slice none 0 0)) := .own1 hs rfl
       refine WL.append underlying22 underlying22 ty56 rfl (by decide) rfl rfl (hu) ((hs.perm perm_app)) (hsl1) (Cells1.of_all rfl) (by first | omega | (simp only [List.length_append, List.length_cons, List.length_nil]; omega)) rfl (fun v22 Lv22 w hv22 hs => ?_)
       refine wa rfl <| wZ ?_
       replace hs := (hs.perm perm_app.symm).tail
       refine (show _ ∧ _ from ⟨rfl, _, ?_, done ++ [p], left', v22, Lv22, R ++ [⟨p.1, true, .slice none 0 0, [], [], rfl, hpl⟩], rfl, hperm, (by rw [absR, List.map_append, ← absR, hR, List.filter_append, List.map_append, List.filter_cons, if_pos (by simp [hp0])]; rfl), (fun r hr => (List.mem_append.1 hr).elim (hRv r) fun h => by rw [List.mem_singleton.1 h]; exact ⟨rfl, rfl, rfl⟩), (by rw [List.length_append, rowsI_snoc]; exact hv22), hs, rfl, rfl, rfl, trivial⟩)
       omega
      ·cases h
    ·cases h
 clear hs
 rintro f w ⟨u, Lu, R, hR, hRv, hu, hs, hf⟩
 have hobt := hf.chain
 obtain ⟨g, rfl⟩ := hobt
 have hRe : ∀ R : List RowI, (∀ r ∈ R, r.v = .slice none 0 0 ∧ r.x = [] ∧ r.Lv = []) → R.flatMap (·.Lv) = [] := fun R h => by
  rw [List.flatMap_eq_nil_iff]
  exact fun r hr => (h r hr).2.2
 have hRl : R.length ≤ Ds.length := by
  have h1 := hR.length_eq
  have h2 := List.length_filter_le (fun p : List UInt8 => decide (p ≠ [])) (s.D.map (·.1))
  simp only [absR, List.length_map] at h1 h2
  rw [← o.D, List.length_map] at h2
  rw [← o.D] at h1
  omega
 refine cQ <| cQ <| cR <| wm rfl <| wn rfl rfl <| wV rfl (run_field (o' := 0) underlying61 rfl ty57 rfl rfl rfl) <| wV rfl (run_load1 ty57 rfl ((hat (hlw hs)).cell (j := 0) rfl)) ?_
 refine WL.rangeS2 underlying57 rfl (hmf hs) rfl hs (fun b27 w hs => ?_)
 refine wZ ?_
 have hR0 := hRe R hRv
 have hRo : ∀ r ∈ R, OwnSl 5 1 r.v r.x.length (u8s r.x) r.Lv := fun r hr => by
  have hobt := hRv r hr
  obtain ⟨h1, h2, h3⟩ := hobt
  rw [h1, h2, h3]
  exact OwnSl.nil _ _
 clear hRv
 refine CW.block ?_
 refine CW.loop (fun z f w => ∃ done left u Lu R2, z = left.length ∧ (done ++ left).Perm (mapF Fs 0) ∧ absR R2 = absR R ++ done.map (trF Fs) ∧ (∀ r ∈ R2, OwnSl 5 1 r.v r.x.length (u8s r.x) r.Lv) ∧ OwnSl 56 3 u R2.length (rowsI R2) Lu ∧ Step [] ((b27, iterS mf Fs.length done) :: (Lu ++ R2.flatMap (·.Lv))) w0 w ∧ Holds f [(0, .pointer (some ⟨bf, 0, none⟩)), (3, u), (27, .pointer (some ⟨b27, 0, none⟩))]) (m := Fs.length) ?_ ?_
 ·exact ⟨[], mapF Fs 0, u, Lu, R, (mapF_len Fs 0).symm, List.Perm.refl _, (List.append_nil _).symm, hRo, hu, by rw [hR0, List.append_nil]; exact hs, rfl, rfl, rfl, trivial⟩
 clear hs hu
 rintro z f w ⟨done, left, u, Lu, R2, rfl, hperm, hR2, hRo2, hu, hs, hf⟩
 have hobt := hf.chain
 obtain ⟨g, rfl⟩ := hobt
 have hobt := hu.form
 obtain ⟨au, cu, rfl⟩ := hobt
 have hlen := hperm.length_eq
 rw [List.length_append, mapF_len] at hlen
 have hRl2 : R2.length ≤ 65536 + 65536 := by
  have h1 := congrArg List.length hR2
  simp only [absR, List.length_append, List.length_map] at h1
  omega
 by_cases hne : left = []
 ·subst hne
  refine cQ <| cR <| wV rfl (run_nextSEnd rfl hs.hd (hmf hs) (bornF Fs) hperm) <| wx rfl rfl rfl <| wZ <| cQ ?_
  refine cC rfl (fun h => ?_) (fun h => ?_)
  ·cases h
  repeat (first | refine cQ ?_ | refine CW.exit ?_)
  replace hs := hs.tail
  refine cR <| wm rfl ?_
  refine wE rfl (run_call en21 rfl rfl) (sortI_spec hu w (hg.step hs) (hs.dropR.zero (by simp) hg) hs.own (by omega)) ?_
  rintro e w ⟨R3, Lu3, rfl, hp3, hso, hu3, hq⟩
  refine ⟨_, rfl, ?_⟩
  replace hs := hs.call hq
  refine wZ <| cQ <| cR <| wm rfl <| wa rfl <| wZ ?_
  refine CW.ret ?_
  refine fin_ret1 rfl ?_
  rw [List.append_nil] at hperm
  have habs : (absR R3).Perm s.itemsU := by
   refine (hp3.map _).trans ?_
   show (absR R2).Perm _
   rw [hR2]
   unfold VS.itemsU
   refine hR.append ?_
   have h1 := mapF_tr Fs []
   rw [List.length_nil, List.nil_append] at h1
   refine ((hperm.map (trF Fs)).trans (List.Perm.of_eq h1)).trans (List.Perm.of_eq ?_)
   rw [← o.F, List.map_map]
   rfl
  refine ⟨.slice au R2.length cu, Lu3, R3, rfl, abs_items t habs hso, by rw [hp3.length_eq] at hu3 ⊢; exact hu3, fun r hr => hRo2 r (hp3.mem_iff.1 hr), hs.perm ?_⟩
  exact (hp3.symm.flatMap_right _).append_left Lu3
 ·refine cQ <| cR ?_
  refine WL.nextS2 rfl rfl hs (hmf hs) (bornF Fs) hperm hne (fun p left' w hleft hperm hs => ?_)
  refine wx rfl rfl rfl <| wZ <| cQ ?_
  refine cC rfl (fun h => ?_) (fun h => ?_)
  ·repeat (first | refine cQ ?_ | refine CW.block ?_ | refine cK ?_)
   refine cR <| wV rfl (run_entryS rfl hs.hd (hmf hs) (bornF Fs) (hperm.mem_iff.1 (by simp))) <| wx rfl rfl rfl <| wx rfl rfl rfl <| wa rfl <| wa rfl <| wZ ?_
   have hleft := hleft.length_eq
   rw [List.length_cons] at hleft
   have hpm : p ∈ mapF Fs 0 := hperm.mem_iff.1 (by simp)
   have hobt := mapF_mem hpm
   obtain ⟨i, r, hi, hpe⟩ := hobt
   have hpl : r.p.length ≤ 4096 := by
    have h3 : r.p ∈ s.F.map (·.1) := by rw [← hFp]; exact List.mem_map.2 ⟨r, List.mem_of_getElem? hi, rfl⟩
    have := Tree_len t (.inr h3)
    omega
   have hxl : r.x.length ≤ 1048576 := ok.x (r.p, r.x) (by rw [← o.F]; exact List.mem_map.2 ⟨r, List.mem_of_getElem? hi, rfl⟩)
   have htr : trF Fs p = (r.p, false, r.x) := by
    rw [hpe]
    unfold trF
    simp only [Nat.zero_add, hi]
    rfl
   have hfat := fun {L' w} (hs : Step [] L' w0 w) => o.fat (hlw hs) hi
   subst hpe
   refine cR <| wm rfl <| wm rfl <| wm rfl <| wn rfl rfl <| wV rfl (run_field (o' := 1) underlying67 rfl ty38 rfl rfl rfl) <| wV rfl (run_load1 ty38 rfl ((hfat hs).1.cell (j := 1) (v := r.v) rfl)) ?_
   refine wE rfl (run_call en20 rfl rfl) (clone_spec _ (hfat hs).2 (by omega)) ?_
   rintro e w ⟨v', Lv, rfl, hv', hq⟩
   refine ⟨_, rfl, ?_⟩
   replace hs := hs.call0 hq
   have hvf := hv'.form
   obtain ⟨av, cv, hve⟩ := hvf
   subst hve
   refine wV rfl (run_build rfl (bld_itS r.p av r.x.length cv _)) ?_
   refine WL.buildSlice (cs := (itC r.p false (.slice av r.x.length cv))) underlying22 ty56 rfl (by decide) rfl (filled1 rfl rfl) rfl hs (fun b41 w hs => ?_)
   have hsl1 : Sl w 3 (.slice (some ⟨b41, 0, none⟩) 1 1) 1 (itC r.p false (.slice av r.x.length cv)) := .own1 hs rfl
   refine WL.append underlying22 underlying22 ty56 rfl (by decide) rfl rfl (hu) ((hs.perm perm_i1)) (hsl1) (Cells1.of_all rfl) (by first | omega | (simp only [List.length_append, List.length_cons, List.length_nil]; omega)) rfl (fun v42 Lv42 w hv42 hs => ?_)
   refine wa rfl <| wZ ?_
   replace hs := (hs.perm perm_i2).tail
   have hfm : (R2 ++ [⟨r.p, false, .slice av r.x.length cv, r.x, Lv, rfl, hpl⟩] : List RowI).flatMap (·.Lv) = R2.flatMap (·.Lv) ++ Lv := by simp
   refine (show _ ∧ _ from ⟨rfl, _, ?_, done ++ [(r.p, .pointer (some ⟨r.b, 0, none⟩), 0 + i)], left', v42, Lv42, R2 ++ [⟨r.p, false, .slice av r.x.length cv, r.x, Lv, rfl, hpl⟩], rfl, hperm, (by rw [absR, List.map_append, ← absR, hR2, List.map_append, List.append_assoc, List.map_cons, List.map_nil, List.map_cons, List.map_nil, htr]), (fun q hq => (List.mem_append.1 hq).elim (hRo2 q) fun h => by rw [List.mem_singleton.1 h]; exact hv'), (by rw [List.length_append, rowsI_snoc]; exact hv42), (by rw [hfm]; exact hs), rfl, rfl, rfl, trivial⟩)
   omega
  ·cases h
end
end Go.Gx
/-! Vt12 -/
namespace Go.Gx
open Go.Proofs Go.Proofs.Tryz Go.RowKit
set_option maxRecDepth 100000
theorem keepCell {b o : Nat} {v : Value} {L : List (Nat × Obj)} {w w' : World} (h : w.cell? ⟨b, o, none⟩ = some v) (hs : Step [] L w w') : w'.cell? ⟨b, o, none⟩ = some v := by
 have hlx : b < w.heap.size := Nat.lt_of_not_le fun hge => by
  simp [World.cell?, Array.getElem?_eq_none hge] at h
 rw [cell_of_heap (hs.chg.block b hlx (by simp))]
 exact h
def nameL (p : List UInt8) : List UInt8 := (splitR p).2.1
theorem nameL_len {p : List UInt8} (hcl : isCleanL p = true) (hp0 : p ≠ []) : (nameL p).length ≤ 64 := by
 have h0 : partsL p ≠ [] := fun h => hp0 (partsL_nil h)
 have hobt := clean_named hcl
 obtain ⟨hnm, _⟩ := hobt
 unfold nameL
 rw [splitR, if_neg (by rw [hcl]; simp), if_neg h0]
 show ((partsL p).getLastD []).length ≤ 64
 have hdl : partsL p = (partsL p).dropLast ++ [(partsL p).getLast h0] := (List.dropLast_concat_getLast h0).symm
 have hn := hnm _ (List.getLast_mem h0)
 have hobt : ∃ n, (partsL p).getLast h0 = n := ⟨_, rfl⟩
 obtain ⟨n, hn2⟩ := hobt
 rw [hn2] at hdl hn
 have e : (partsL p).getLastD [] = n := by rw [hdl]; simp
 rw [e]
 exact isName_le hn
theorem name_spec {b : Nat} {p : List UInt8} (w0 : World) (hc : w0.cell? ⟨b, 0, none⟩ = some (str p)) (hcl : isCleanL p = true) (hp0 : p ≠ []) : Calls Tryz.prog 69 #[.pointer (some ⟨b, 0, none⟩)] w0 (Ret0 (str (nameL p)) w0) := by
 have hs : Step [] [] w0 w0 := Step.refl w0
 have hkc := fun {L w} (hs : Step [] L w0 w) => keepCell hc hs
 have hpl := clean_len hcl
 have h0 : partsL p ≠ [] := fun h => hp0 (partsL_nil h)
 have hobt := clean_named hcl
 obtain ⟨hnm, _⟩ := hobt
 have hobt : ∃ n, (partsL p).getLast h0 = n := ⟨_, rfl⟩
 obtain ⟨n, hn⟩ := hobt
 have hdl : partsL p = (partsL p).dropLast ++ [n] := by rw [← hn]; exact (List.dropLast_concat_getLast h0).symm
 have hobt : ∃ r, (partsL p).dropLast = r := ⟨_, rfl⟩
 obtain ⟨r, hr⟩ := hobt
 rw [hr] at hdl
 have e : nameL p = n := by
  unfold nameL
  rw [splitR, if_neg (by rw [hcl]; simp), if_neg h0]
  show (partsL p).getLastD [] = n
  rw [hdl]; simp
 have hnn := hnm n (by rw [hdl]; simp)
 have hns := isName_slash hnn
 have hpj : p = joinL (r ++ [n]) := by rw [← hdl, joinL_partsL]
 by_cases hr0 : r = []
 ·have hpn : p = n := by rw [hpj, hr0]; exact joinL_one n
  have hla : Lib.lastIndexByte ⟨⟨p⟩⟩ 47 = -1 := last_none (by rw [hpn]; exact hns)
  have hres : (p.take p.length).drop 0 = nameL p := by rw [e, List.take_length, hpn]; rfl
  refine calls (n := 14) Tryz.func69 rfl rfl rfl ?_
  refine cQ <| cR <| wa rfl <| wZ <| cQ ?_
  refine CW.quiet mixedP (by kernel_rfl) hs ?_
  refine qm rfl <| qn rfl rfl <| qV rfl (fun w hs => run_field (o' := 0) underlying65 rfl ty9 rfl rfl rfl) <| qV rfl (fun w hs => run_load1 ty9 rfl (hkc hs)) <| qm rfl <| qn rfl rfl <| qV rfl (fun w hs => run_field (o' := 0) underlying65 rfl ty9 rfl rfl rfl) <| qV rfl (fun w hs => run_load1 ty9 rfl (hkc hs)) ?_
  refine QL.enter rfl (fun w => run_call en92 rfl rfl) (fun w hs => lastB_spec _ (by omega) hla) ?_
  refine qV rfl (fun w hs => run_add (c := 0) rfl rfl (by omega) (by omega)) <| qV rfl (fun w hs => run_sliceStr (lo := 0) (hi := p.length) underlying9 rfl rfl rfl (Nat.zero_le _) (Nat.le_refl _)) <| qV rfl (fun w hs => run_assign) ?_
  refine QL.nil (fun w hs => ?_)
  refine CW.ret ?_
  refine fin_ret1 rfl ?_
  exact ⟨congrArg (fun b => Ending.returned (str b)) hres, hs⟩
 ·have hpa : p = joinL r ++ 47 :: n := by
   rw [hpj, joinL_snoc, if_pos (List.length_pos_iff.2 hr0), List.append_assoc]
   rfl
  have hla : Lib.lastIndexByte ⟨⟨p⟩⟩ 47 = ((joinL r).length : Nat) := by rw [hpa]; exact last_some hns
  have hpl2 : p.length = (joinL r).length + 1 + n.length := by rw [hpa, List.length_append, List.length_cons]; omega
  have hres : (p.take p.length).drop ((joinL r).length + 1) = nameL p := by
   rw [e, List.take_length, hpa, show joinL r ++ 47 :: n = (joinL r ++ [47]) ++ n by simp]
   exact List.drop_left' (by simp)
  refine calls (n := 14) Tryz.func69 rfl rfl rfl ?_
  refine cQ <| cR <| wa rfl <| wZ <| cQ ?_
  refine CW.quiet mixedP (by kernel_rfl) hs ?_
  refine qm rfl <| qn rfl rfl <| qV rfl (fun w hs => run_field (o' := 0) underlying65 rfl ty9 rfl rfl rfl) <| qV rfl (fun w hs => run_load1 ty9 rfl (hkc hs)) <| qm rfl <| qn rfl rfl <| qV rfl (fun w hs => run_field (o' := 0) underlying65 rfl ty9 rfl rfl rfl) <| qV rfl (fun w hs => run_load1 ty9 rfl (hkc hs)) ?_
  refine QL.enter rfl (fun w => run_call en92 rfl rfl) (fun w hs => lastB_spec _ (by omega) hla) ?_
  refine qV rfl (fun w hs => run_add (c := (((joinL r).length + 1 : Nat) : Int)) rfl rfl (by omega) (by omega)) <| qV rfl (fun w hs => run_sliceStr (lo := (joinL r).length + 1) (hi := p.length) underlying9 rfl rfl rfl (by omega) (Nat.le_refl _)) <| qV rfl (fun w hs => run_assign) ?_
  refine QL.nil (fun w hs => ?_)
  refine CW.ret ?_
  refine fin_ret1 rfl ?_
  exact ⟨congrArg (fun b => Ending.returned (str b)) hres, hs⟩
def inL (p dir : List UInt8) : Bool := decide ((splitR p).2.2 = 0 ∧ (splitR p).1 = dir)
theorem in_spec {b : Nat} {p dir : List UInt8} (w0 : World) (hg : Gl w0) (hc : w0.cell? ⟨b, 0, none⟩ = some (str p)) (hp : p.length ≤ 9223372036854775807) : Calls Tryz.prog 68 #[.pointer (some ⟨b, 0, none⟩), str dir] w0 (Ret0 (.bool (inL p dir)) w0) := by
 have hs : Step [] [] w0 w0 := Step.refl w0
 have hkc := fun {L w} (hs : Step [] L w0 w) => keepCell hc hs
 have hsp := fun {w} hg => splitP_spec (p := p) w hg hp
 have hobt : ∃ u nm e, splitR p = (u, nm, e) := ⟨_, _, _, rfl⟩
 obtain ⟨u, nm, e, he⟩ := hobt
 have hin : inL p dir = decide (e = 0 ∧ u = dir) := by unfold inL; rw [he]
 simp only [he] at hsp
 rw [hin]
 by_cases h0 : e = 0
 ·have hb : decide (u = dir) = decide (e = 0 ∧ u = dir) := by simp [h0]
  refine calls (n := 24) Tryz.func68 rfl rfl rfl ?_
  refine cQ <| cR <| wa rfl <| wZ <| cQ <| cR <| wm rfl <| wn rfl rfl <| wV rfl (run_field (o' := 0) underlying65 rfl ty9 rfl rfl rfl) <| wV rfl (run_load1 ty9 rfl (hkc hs)) ?_
  refine wE rfl (run_call en70 rfl rfl) (hsp (hg.step hs)) ?_
  rintro e w ⟨rfl, hq⟩
  refine ⟨_, rfl, ?_⟩
  replace hs := hs.callE hq
  refine wm rfl <| wx rfl rfl rfl <| wx rfl rfl rfl <| wx rfl rfl rfl <| wa rfl <| wa rfl <| wa rfl <| wZ <| cQ <| cR <| wm rfl <| wV rfl (run_bT (run_eql rfl rfl) (by exact h0)) <| wm rfl <| WL.yes rfl rfl rfl <| wm rfl <| WL.yes rfl rfl rfl <| wm rfl <| WL.yes rfl rfl rfl <| wV rfl (run_strEq rfl rfl) <| wV rfl (run_pickT rfl) <| wa rfl <| wZ ?_
  refine CW.ret ?_
  refine fin_ret1 rfl ?_
  exact ⟨congrArg (fun b => Ending.returned (.bool b)) hb, hs⟩
 ·have hb : false = decide (e = 0 ∧ u = dir) := by simp [h0]
  refine calls (n := 24) Tryz.func68 rfl rfl rfl ?_
  refine cQ <| cR <| wa rfl <| wZ <| cQ <| cR <| wm rfl <| wn rfl rfl <| wV rfl (run_field (o' := 0) underlying65 rfl ty9 rfl rfl rfl) <| wV rfl (run_load1 ty9 rfl (hkc hs)) ?_
  refine wE rfl (run_call en70 rfl rfl) (hsp (hg.step hs)) ?_
  rintro e w ⟨rfl, hq⟩
  refine ⟨_, rfl, ?_⟩
  replace hs := hs.callE hq
  refine wm rfl <| wx rfl rfl rfl <| wx rfl rfl rfl <| wx rfl rfl rfl <| wa rfl <| wa rfl <| wa rfl <| wZ <| cQ <| cR <| wm rfl <| wV rfl (run_bF (run_eql rfl rfl) (by exact h0)) <| wm rfl <| WL.no rfl rfl rfl (.inl rfl) <| WL.no rfl rfl rfl (.inl rfl) <| WL.no rfl rfl rfl (.inl rfl) <| wV rfl (run_pickF rfl) <| wa rfl <| wZ ?_
  refine CW.ret ?_
  refine fin_ret1 rfl ?_
  exact ⟨congrArg (fun b => Ending.returned (.bool b)) hb, hs⟩
/-- How a directory's list names an item. -/
def VS.nameE (s : VS) (t : Tri) : List UInt8 := if (s.dir t.1).isSome then nameL t.1 ++ [47] else nameL t.1
def VS.listN (s : VS) (q : List UInt8) : List (List UInt8) := (s.itemsL.filter fun t => inL t.1 q).map s.nameE
def VS.list (s : VS) (p : List UInt8) : List (List UInt8) × Int :=
 if cleanE p ≠ 0 then ([], cleanE p) else
 if (s.way false (upsF [] (cleanS p)) []).2 ≠ 0 then ([], (s.way false (upsF [] (cleanS p)) []).2) else
 if (s.file (cleanS p)).isSome then ([], 93) else
 if s.dir (cleanS p) = none then ([], 91) else (s.listN (cleanS p), 0)
end Go.Gx
/-! Vt13 -/
namespace Go.Gx
open Go.Proofs Go.Proofs.Tryz Go.RowKit
set_option maxRecDepth 100000
section
variable {α : Type}
theorem perm_l2 {x y : α} {a b : List α} : (x :: y :: (a ++ b)).Perm (a ++ (x :: y :: b)) := by
 classical
 exact List.perm_iff_count.2 fun z => by
  simp only [List.count_append, List.count_cons]
  omega
theorem perm_l1 {x y z : α} {a b : List α} : (x :: y :: z :: (a ++ b)).Perm (a ++ (x :: y :: z :: b)) := by
 classical
 exact List.perm_iff_count.2 fun z => by
  simp only [List.count_append, List.count_cons]
  omega
end
theorem strs_app (a b : List (List UInt8)) : strs (a ++ b) = strs a ++ strs b := by simp [strs]
theorem item_mem {s : VS} (t : s.Tree) {x : Tri} (h : x ∈ s.itemsU) : (x.1 ∈ s.D.map (·.1) ∨ x.1 ∈ s.F.map (·.1)) ∧ x.1 ≠ [] := by
 unfold VS.itemsU at h
 rcases List.mem_append.1 h with h | h
 ·have hobt := List.mem_map.1 h
  obtain ⟨p, hp, rfl⟩ := hobt
  have hobt := List.mem_filter.1 hp
  obtain ⟨h1, h2⟩ := hobt
  exact ⟨.inl h1, of_decide_eq_true h2⟩
 ·have hobt := List.mem_map.1 h
  obtain ⟨e, he, rfl⟩ := hobt
  exact ⟨.inr (List.mem_map_of_mem he), t.nz e he⟩
theorem file_some {s : VS} {u : List UInt8} (h : u ∈ s.F.map (·.1)) : (s.file u).isSome := by
 unfold VS.file
 rw [List.findIdx?_isSome, List.any_eq_true]
 have hobt := List.mem_map.1 h
 obtain ⟨e, he, h2⟩ := hobt
 exact ⟨e, he, by simpa using h2⟩
theorem rowsI_blk {S : List Nat} {A : List (Nat × Obj)} {w0 w : World} {b T : Nat} {R : List RowI} {more : List Value} (hs : Step S A w0 w) (hm : (b, blk T (rowsI R ++ more)) ∈ A) {i : Nat} {r : RowI} (hi : R[i]? = some r) : At w b (0 + i * 3) r.enc := by
 have hobt := List.getElem?_eq_some_iff.1 hi
 obtain ⟨hlt, he⟩ := hobt
 intro j v hj
 have hj3 : j < 3 := by have := (List.getElem?_eq_some_iff.1 hj).1; rwa [RowI.enc_len] at this
 have h1 := rowsI_at R i j hlt hj3
 rw [he, hj] at h1
 have h2 := (At.of_blk (hs.has _ hm)).cell (j := i * 3 + j) (v := v) (by rw [List.getElem?_append_left (by rw [rowsI_len]; omega)]; exact h1)
 rw [← Nat.add_assoc] at h2
 exact h2
section
variable {bf mf md : Nat} {s : VS} {L Lh : List (Nat × Obj)} {vh : Value} {Fs : List FB} {Ds : List DB} {Hs : List (Option HB)} {w0 : World}
set_option maxHeartbeats 8000000 in
theorem list_spec (o : VOpen bf s L mf md vh Lh Fs Ds Hs) (ok : s.Ok) (t : s.Tree) (hg : Gl w0) (hw : ∀ p ∈ L, w0.heap[p.1]? = some p.2) {p : List UInt8} (hp : p.length ≤ 9223372036854775807) : Calls Tryz.prog 36 #[.pointer (some ⟨bf, 0, none⟩), str p] w0 fun e w' => ∃ u Lu, e = .returned (.tuple #[u, .int .i64 (s.list p).2]) ∧ OwnSl 9 1 u (s.list p).1.length (strs (s.list p).1) Lu ∧ Step [] Lu w0 w' := by
 have hs : Step [] [] w0 w0 := Step.refl w0
 have hlw : ∀ {L' w}, Step [] L' w0 w → ∀ p ∈ L, w.heap[p.1]? = some p.2 := fun hs p hp => hs.old (hw p hp) (by simp)
 have hat := fun {w} hw => o.at (w := w) hw
 have hcl := fun {w} hg => clean_spec (s := p) w hg hp
 have hcc := clean_isClean (s := p)
 have hli : s.list p = if cleanE p ≠ 0 then ([], cleanE p) else if (s.way false (upsF [] (cleanS p)) []).2 ≠ 0 then ([], (s.way false (upsF [] (cleanS p)) []).2) else if (s.file (cleanS p)).isSome then ([], 93) else if s.dir (cleanS p) = none then ([], 91) else (s.listN (cleanS p), 0) := rfl
 rw [hli]
 clear hli
 have hobt : ∃ q, cleanS p = q := ⟨_, rfl⟩
 obtain ⟨q, hq⟩ := hobt
 have hobt : ∃ ce, cleanE p = ce := ⟨_, rfl⟩
 obtain ⟨ce, hce⟩ := hobt
 rw [hq, hce] at hcc
 simp only [hq, hce] at hcl ⊢
 by_cases hce0 : ce ≠ 0
 ·rw [if_pos hce0]
  refine calls (n := 94) Tryz.func36 rfl rfl rfl ?_
  refine cQ <| cR <| wa rfl <| wa rfl <| wZ <| cQ <| cR <| wm rfl ?_
  refine wE rfl (run_call en45 rfl rfl) (hcl (hg.step hs)) ?_
  rintro e w ⟨rfl, hq⟩
  refine ⟨_, rfl, ?_⟩
  replace hs := hs.callE hq
  refine wm rfl <| wx rfl rfl rfl <| wx rfl rfl rfl <| wa rfl <| wa rfl <| wZ <| cQ <| cQ <| cR <| wm rfl <| wV rfl (run_bT (run_neq rfl rfl) (by exact hce0)) <| wZ ?_
  refine cC rfl (fun h => ?_) (fun h => ?_)
  ·refine cQ <| cR <| wm rfl <| wa rfl <| wa rfl <| wZ ?_
   refine CW.ret ?_
   refine fin_ret2 rfl ?_
   exact ⟨_, [], rfl, OwnSl.nil _ _, hs⟩
  ·cases h
 rw [if_neg hce0]
 replace hcc := hcc (by omega)
 have hql := clean_len hcc
 have hwy := fun {w} hw => way_spec (w0 := w) (p := q) (mend := false) o hw (by omega)
 have hobt : ∃ M ew, s.way false (upsF [] q) [] = (M, ew) := ⟨_, _, rfl⟩
 obtain ⟨M, ew, hW⟩ := hobt
 simp only [hW] at hwy ⊢
 by_cases hew : ew ≠ 0
 ·rw [if_pos hew]
  refine calls (n := 94) Tryz.func36 rfl rfl rfl ?_
  refine cQ <| cR <| wa rfl <| wa rfl <| wZ <| cQ <| cR <| wm rfl ?_
  refine wE rfl (run_call en45 rfl rfl) (hcl (hg.step hs)) ?_
  rintro e w ⟨rfl, hq⟩
  refine ⟨_, rfl, ?_⟩
  replace hs := hs.callE hq
  refine wm rfl <| wx rfl rfl rfl <| wx rfl rfl rfl <| wa rfl <| wa rfl <| wZ <| cQ <| cQ <| cR <| wm rfl <| wV rfl (run_bF (run_neq rfl rfl) (by exact hce0)) <| wZ ?_
  refine cC rfl (fun h => ?_) (fun h => ?_)
  ·cases h
  repeat (first | refine cQ ?_ | refine cK ?_)
  refine cR <| wm rfl <| wm rfl ?_
  refine wE rfl (run_call en46 rfl rfl) (hwy (hlw hs)) ?_
  rintro e w ⟨u, Lu, rfl, hu, hqq⟩
  refine ⟨_, rfl, ?_⟩
  have hobt := hu.form
  obtain ⟨au, cu, rfl⟩ := hobt
  replace hs := (hs.call0 hqq).clear
  refine wm rfl <| wx rfl rfl rfl <| wx rfl rfl rfl <| wa rfl <| wa rfl <| wZ <| cQ <| cR <| wm rfl <| wV rfl (run_bT (run_neq rfl rfl) (by exact hew)) <| wZ ?_
  refine cC rfl (fun h => ?_) (fun h => ?_)
  ·refine cQ <| cR <| wm rfl <| wa rfl <| wa rfl <| wZ ?_
   refine CW.ret ?_
   refine fin_ret2 rfl ?_
   exact ⟨_, [], rfl, OwnSl.nil _ _, hs⟩
  ·cases h
 rw [if_neg hew]
 have hlF := o.lookF q
 have hlD := o.lookD q
 cases hf : s.file q with
 | some i =>
  have hobt := o.file_at hf
  obtain ⟨r, _, _, hv⟩ := hobt
  rw [hv] at hlF
  rw [if_pos (show (some i).isSome = true from rfl)]
  refine calls (n := 94) Tryz.func36 rfl rfl rfl ?_
  refine cQ <| cR <| wa rfl <| wa rfl <| wZ <| cQ <| cR <| wm rfl ?_
  refine wE rfl (run_call en45 rfl rfl) (hcl (hg.step hs)) ?_
  rintro e w ⟨rfl, hq⟩
  refine ⟨_, rfl, ?_⟩
  replace hs := hs.callE hq
  refine wm rfl <| wx rfl rfl rfl <| wx rfl rfl rfl <| wa rfl <| wa rfl <| wZ <| cQ <| cQ <| cR <| wm rfl <| wV rfl (run_bF (run_neq rfl rfl) (by exact hce0)) <| wZ ?_
  refine cC rfl (fun h => ?_) (fun h => ?_)
  ·cases h
  repeat (first | refine cQ ?_ | refine cK ?_)
  refine cR <| wm rfl <| wm rfl ?_
  refine wE rfl (run_call en46 rfl rfl) (hwy (hlw hs)) ?_
  rintro e w ⟨u, Lu, rfl, hu, hqq⟩
  refine ⟨_, rfl, ?_⟩
  have hobt := hu.form
  obtain ⟨au, cu, rfl⟩ := hobt
  replace hs := (hs.call0 hqq).clear
  refine wm rfl <| wx rfl rfl rfl <| wx rfl rfl rfl <| wa rfl <| wa rfl <| wZ <| cQ <| cR <| wm rfl <| wV rfl (run_bF (run_neq rfl rfl) (by exact hew)) <| wZ ?_
  refine cC rfl (fun h => ?_) (fun h => ?_)
  ·cases h
  repeat (first | refine cQ ?_ | refine CW.block ?_ | refine cK ?_)
  refine cR <| wm rfl <| wn rfl rfl <| wV rfl (run_field (o' := 0) underlying61 rfl ty57 rfl rfl rfl) <| wV rfl (run_load1 ty57 rfl ((hat (hlw hs)).cell (j := 0) rfl)) <| wm rfl <| wV rfl (run_lookupSE underlying57 underlying9 (zFile _) (hlF) rfl rfl (o.mf_ (hlw hs))) <| wV rfl (run_ptrNilNe underlying62 rfl rfl) <| wa rfl <| wZ ?_
  refine cC rfl (fun h => ?_) (fun h => ?_)
  ·refine cQ <| cR <| wa rfl <| wa rfl <| wZ ?_
   refine CW.ret ?_
   refine fin_ret2 rfl ?_
   exact ⟨_, [], rfl, OwnSl.nil _ _, hs⟩
  ·cases h
 | none =>
  rw [hf] at hlF
  rw [if_neg (by simp)]
  cases hd : s.dir q with
  | none =>
   rw [hd] at hlD
   rw [if_pos rfl]
   refine calls (n := 94) Tryz.func36 rfl rfl rfl ?_
   refine cQ <| cR <| wa rfl <| wa rfl <| wZ <| cQ <| cR <| wm rfl ?_
   refine wE rfl (run_call en45 rfl rfl) (hcl (hg.step hs)) ?_
   rintro e w ⟨rfl, hq⟩
   refine ⟨_, rfl, ?_⟩
   replace hs := hs.callE hq
   refine wm rfl <| wx rfl rfl rfl <| wx rfl rfl rfl <| wa rfl <| wa rfl <| wZ <| cQ <| cQ <| cR <| wm rfl <| wV rfl (run_bF (run_neq rfl rfl) (by exact hce0)) <| wZ ?_
   refine cC rfl (fun h => ?_) (fun h => ?_)
   ·cases h
   repeat (first | refine cQ ?_ | refine cK ?_)
   refine cR <| wm rfl <| wm rfl ?_
   refine wE rfl (run_call en46 rfl rfl) (hwy (hlw hs)) ?_
   rintro e w ⟨u, Lu, rfl, hu, hqq⟩
   refine ⟨_, rfl, ?_⟩
   have hobt := hu.form
   obtain ⟨au, cu, rfl⟩ := hobt
   replace hs := (hs.call0 hqq).clear
   refine wm rfl <| wx rfl rfl rfl <| wx rfl rfl rfl <| wa rfl <| wa rfl <| wZ <| cQ <| cR <| wm rfl <| wV rfl (run_bF (run_neq rfl rfl) (by exact hew)) <| wZ ?_
   refine cC rfl (fun h => ?_) (fun h => ?_)
   ·cases h
   repeat (first | refine cQ ?_ | refine CW.block ?_ | refine cK ?_)
   refine cR <| wm rfl <| wn rfl rfl <| wV rfl (run_field (o' := 0) underlying61 rfl ty57 rfl rfl rfl) <| wV rfl (run_load1 ty57 rfl ((hat (hlw hs)).cell (j := 0) rfl)) <| wm rfl <| wV rfl (run_lookupSE underlying57 underlying9 (zFile _) (hlF) rfl rfl (o.mf_ (hlw hs))) <| wV rfl (run_nilNe underlying62 rfl rfl) <| wa rfl <| wZ ?_
   refine cC rfl (fun h => ?_) (fun h => ?_)
   ·cases h
   refine cQ <| cR <| wm rfl <| wn rfl rfl <| wV rfl (run_field (o' := 1) underlying61 rfl ty58 rfl rfl rfl) <| wV rfl (run_load1 ty58 rfl ((hat (hlw hs)).cell (j := 1) rfl)) <| wm rfl <| wV rfl (run_lookupSE underlying58 underlying9 (zDir _) (hlD) rfl rfl (o.md_ (hlw hs))) <| wV rfl (run_nilNil underlying72 rfl rfl) <| wa rfl <| wZ ?_
   refine cC rfl (fun h => ?_) (fun h => ?_)
   ·refine cQ <| cR <| wa rfl <| wa rfl <| wZ ?_
    refine CW.ret ?_
    refine fin_ret2 rfl ?_
    exact ⟨_, [], rfl, OwnSl.nil _ _, hs⟩
   ·cases h
  | some j =>
   have hobt := o.dir_at hd
   obtain ⟨r, _, _, hv⟩ := hobt
   rw [hv] at hlD
   rw [if_neg (by simp)]
   have hit := fun {w} hg hw => allItems_spec (w0 := w) o ok t hg hw
   have hobt : ∃ N, s.listN q = N := ⟨_, rfl⟩
   obtain ⟨N, hN⟩ := hobt
   rw [hN]
   refine calls (n := 94) Tryz.func36 rfl rfl rfl ?_
   refine cQ <| cR <| wa rfl <| wa rfl <| wZ <| cQ <| cR <| wm rfl ?_
   refine wE rfl (run_call en45 rfl rfl) (hcl (hg.step hs)) ?_
   rintro e w ⟨rfl, hq⟩
   refine ⟨_, rfl, ?_⟩
   replace hs := hs.callE hq
   refine wm rfl <| wx rfl rfl rfl <| wx rfl rfl rfl <| wa rfl <| wa rfl <| wZ <| cQ <| cQ <| cR <| wm rfl <| wV rfl (run_bF (run_neq rfl rfl) (by exact hce0)) <| wZ ?_
   refine cC rfl (fun h => ?_) (fun h => ?_)
   ·cases h
   repeat (first | refine cQ ?_ | refine cK ?_)
   refine cR <| wm rfl <| wm rfl ?_
   refine wE rfl (run_call en46 rfl rfl) (hwy (hlw hs)) ?_
   rintro e w ⟨u, Lu, rfl, hu, hqq⟩
   refine ⟨_, rfl, ?_⟩
   have hobt := hu.form
   obtain ⟨au, cu, rfl⟩ := hobt
   replace hs := (hs.call0 hqq).clear
   refine wm rfl <| wx rfl rfl rfl <| wx rfl rfl rfl <| wa rfl <| wa rfl <| wZ <| cQ <| cR <| wm rfl <| wV rfl (run_bF (run_neq rfl rfl) (by exact hew)) <| wZ ?_
   refine cC rfl (fun h => ?_) (fun h => ?_)
   ·cases h
   repeat (first | refine cQ ?_ | refine CW.block ?_ | refine cK ?_)
   refine cR <| wm rfl <| wn rfl rfl <| wV rfl (run_field (o' := 0) underlying61 rfl ty57 rfl rfl rfl) <| wV rfl (run_load1 ty57 rfl ((hat (hlw hs)).cell (j := 0) rfl)) <| wm rfl <| wV rfl (run_lookupSE underlying57 underlying9 (zFile _) (hlF) rfl rfl (o.mf_ (hlw hs))) <| wV rfl (run_nilNe underlying62 rfl rfl) <| wa rfl <| wZ ?_
   refine cC rfl (fun h => ?_) (fun h => ?_)
   ·cases h
   refine cQ <| cR <| wm rfl <| wn rfl rfl <| wV rfl (run_field (o' := 1) underlying61 rfl ty58 rfl rfl rfl) <| wV rfl (run_load1 ty58 rfl ((hat (hlw hs)).cell (j := 1) rfl)) <| wm rfl <| wV rfl (run_lookupSE underlying58 underlying9 (zDir _) (hlD) rfl rfl (o.md_ (hlw hs))) <| wV rfl (run_ptrNil underlying72 rfl rfl) <| wa rfl <| wZ ?_
   refine cC rfl (fun h => ?_) (fun h => ?_)
   ·cases h
   repeat (first | refine cQ ?_ | refine cK ?_)
   refine cR <| wa rfl <| wZ <| cQ <| cQ <| cR <| wm rfl ?_
   refine wE rfl (run_call en8 rfl rfl) (hit (hg.step hs) (hlw hs)) ?_
   rintro e w ⟨u, Lu, R, rfl, habs, hu, hRo, hqq⟩
   refine ⟨_, rfl, ?_⟩
   have hfu := hu.form
   obtain ⟨au, cu, hfe⟩ := hfu
   subst hfe
   replace hs := ((hs.call0 hqq).dropR).dropR
   refine wV rfl (run_lenSl underlying22 rfl) <| wm rfl <| wZ ?_
   have hmemR : ∀ (i : Nat) (r : RowI), R[i]? = some r → isCleanL r.p = true ∧ r.p ≠ [] ∧ ((s.dir r.p).isSome ∨ s.dir r.p = none ∧ (s.file r.p).isSome) := fun i r hi => by
    have h1 : (r.p, r.d, r.x) ∈ s.itemsU := by
     refine (itemsL_perm s.itemsU).mem_iff.1 ?_
     show _ ∈ s.itemsL
     rw [← habs]
     exact List.mem_map.2 ⟨r, List.mem_of_getElem? hi, rfl⟩
    have hobt := item_mem t h1
    obtain ⟨h2, h3⟩ := hobt
    refine ⟨(t.cl r.p h2 h3).1, h3, ?_⟩
    cases hd : s.dir r.p with
    | some j => exact .inl rfl
    | none =>
     refine .inr ⟨rfl, file_some ?_⟩
     rcases h2 with h | h
     ·have := dir_mem.2 h
      have hd : s.dir r.p = none := hd
      simp only at this
      rw [hd] at this
      cases this
     ·exact h
   have hNe : N = (R.filter fun r => inL r.p q).map fun r => s.nameE (r.p, r.d, r.x) := by
    rw [← hN]
    unfold VS.listN
    rw [← habs, absR, List.filter_map, List.map_map]
    rfl
   have hRl : R.length ≤ 131072 := by
    have h1 : R.length = s.itemsL.length := by rw [← habs]; simp [absR]
    have h2 : s.itemsL.length = s.itemsU.length := (itemsL_perm s.itemsU).length_eq
    have h3 : s.itemsU.length ≤ s.D.length + s.F.length := by
     unfold VS.itemsU
     have := List.length_filter_le (fun p : List UInt8 => decide (p ≠ [])) (s.D.map (·.1))
     simp only [List.length_append, List.length_map] at this ⊢
     omega
    have := ok.d
    have := ok.f
    omega
   clear hlF hlD hwy hcl habs hRo
   have hobt : ∃ n, R.length = n := ⟨_, rfl⟩
   obtain ⟨n, hn⟩ := hobt
   rw [hn] at hu
   refine CW.block ?_
   refine CW.loop (fun z f w => ∃ i v Lv, i ≤ n ∧ z = n - i ∧ OwnSl 9 1 v (((R.take i).filter fun r => inL r.p q).map fun r => s.nameE (r.p, r.d, r.x)).length (strs (((R.take i).filter fun r => inL r.p q).map fun r => s.nameE (r.p, r.d, r.x))) Lv ∧ Step [] (Lv ++ Lu) w0 w ∧ Holds f [(0, .pointer (some ⟨bf, 0, none⟩)), (1, str q), (9, v), (48, .slice au n cu), (49, .int .i64 n), (50, .int .i64 i)]) (m := n) ?_ ?_
   ·exact ⟨0, _, [], by omega, by omega, OwnSl.nil _ _, hs, rfl, rfl, rfl, by rw [hn]; rfl, by rw [hn]; rfl, rfl, trivial⟩
   clear hs hqq
   rintro z f w ⟨i, v, Lv, hi, rfl, hv, hs, hfh⟩
   by_cases hlt : i < n
   ·have hobt : ∃ r, R[i]? = some r := ⟨_, List.getElem?_eq_getElem (by omega)⟩
    obtain ⟨r, hr⟩ := hobt
    have hobt := hmemR i r hr
    obtain ⟨hrc, hrn, hrd⟩ := hobt
    have hrl := clean_len hrc
    have hnl := nameL_len hrc hrn
    have hobt := hu.some1 (by omega)
    obtain ⟨bu, capu, mu, hqu, hLu, hcu⟩ := hobt
    injection hqu with e1 e2 e3
    have e1' := congrArg (fun a => Value.slice a n cu) e1.symm
    rw [← e1'] at hfh
    have hobt := hfh.chain
    obtain ⟨g, rfl⟩ := hobt
    rw [hLu] at hs
    have ht1 : R.take (i + 1) = R.take i ++ [r] := by
     have hobt := List.getElem?_eq_some_iff.1 hr
     obtain ⟨h1, h2⟩ := hobt
     rw [← List.take_append_getElem h1, h2]
    have hal : (((R.take i).filter fun r => inL r.p q).map fun r => s.nameE (r.p, r.d, r.x)).length ≤ i := by
     have h1 := List.length_filter_le (fun r : RowI => inL r.p q) (R.take i)
     rw [List.length_map]
     rw [List.length_take] at h1
     omega
    have hobt : ∃ acc, ((R.take i).filter fun r => inL r.p q).map (fun r => s.nameE (r.p, r.d, r.x)) = acc := ⟨_, rfl⟩
    obtain ⟨acc, hacc⟩ := hobt
    rw [hacc] at hv hal
    have hin := fun {w b} hg hc => in_spec (b := b) (p := r.p) (dir := q) w hg hc (by omega)
    have hnm := fun {w b} hc => name_spec (b := b) (p := r.p) w hc hrc hrn
    have hobt := hv.form
    obtain ⟨av, cv, rfl⟩ := hobt
    have hobt : ∃ bi, inL r.p q = bi := ⟨_, rfl⟩
    obtain ⟨bi, hbi⟩ := hobt
    simp only [hbi] at hin
    have hbb : bi = true ∨ bi = false := by cases bi <;> simp
    have hrD := o.lookD r.p
    have hrF := o.lookF r.p
    rcases hbb with rfl | rfl
    ·rcases hrd with hdir | ⟨hdn, hfil⟩
     ·have hobt := Option.isSome_iff_exists.1 hdir
      obtain ⟨k, hk⟩ := hobt
      have hobt := o.dir_at hk
      obtain ⟨y, hy, hyp, hyv⟩ := hobt
      rw [hyv] at hrD
      have hnE : s.nameE (r.p, r.d, r.x) = nameL r.p ++ [47] := if_pos hdir
      have hacc1 : ((R.take (i + 1)).filter fun r => inL r.p q).map (fun r => s.nameE (r.p, r.d, r.x)) = acc ++ [nameL r.p ++ [47]] := by
       rw [ht1, List.filter_append, List.map_append, hacc, List.filter_cons, if_pos hbi]
       simp [hnE]
      have hyc := fun {L' w} (hs : Step [] L' w0 w) => (o.dat (hlw hs) hy).cell (j := 0) (v := str r.p) (by rw [hyp]; rfl)
      refine cQ <| cR <| wV rfl (run_bT (run_lss rfl rfl) (by omega)) <| wZ <| cQ ?_
      refine cC rfl (fun h => ?_) (fun h => ?_)
      ·repeat (first | refine cQ ?_ | refine CW.block ?_ | refine cK ?_)
       refine cR <| wV rfl (run_ixSlN underlying22 ty56 rfl rfl (by omega)) <| wV rfl (run_loadN ty56 rfl rfl (rowsI_blk (T := 56) (more := mu) hs (by simp) hr)) ?_
       refine WL.alloc ty56 rfl hs (fun b11 w hs => ?_)
       refine WL.storeAll ty56 rfl rfl ((rfl)) (r.enc1) hs (by first | rfl | assumption) (fun w hs => ?_)
       refine wZ <| cQ <| cR <| wV rfl (run_field (o' := 0) underlying56 rfl ty9 rfl rfl rfl) <| wV rfl (run_load1 ty9 rfl (hs.c0 (v := str r.p) rfl)) <| wV rfl (run_build rfl (bld_com r.p _)) ?_
       refine WL.box (cs := [str r.p]) rfl rfl rfl hs (fun b57 w hs => ?_)
       refine wa rfl <| wZ <| cQ <| cQ <| cR <| wm rfl <| wm rfl ?_
       refine wE rfl (run_call en68 rfl rfl) (hin (hg.step hs) (hs.c0 (v := str r.p) rfl)) ?_
       rintro e w ⟨rfl, hq⟩
       refine ⟨_, rfl, ?_⟩
       replace hs := hs.callE hq
       refine wV rfl (run_not rfl) <| wZ ?_
       refine cC rfl (fun h2 => ?_) (fun h2 => ?_)
       ·cases h2
       repeat (first | refine cQ ?_ | refine cK ?_)
       refine CW.quiet mixedP (by kernel_rfl) hs ?_
       refine qm rfl <| qn rfl rfl <| qV rfl (fun w hs => run_field (o' := 1) underlying61 rfl ty58 rfl rfl rfl) <| qV rfl (fun w hs => run_load1 ty58 rfl ((hat (hlw hs)).cell (j := 1) rfl)) <| qV rfl (fun w hs => run_field (o' := 0) underlying56 rfl ty9 rfl rfl rfl) <| qV rfl (fun w hs => run_load1 ty9 rfl (hs.c1 (v := str r.p) rfl)) <| qV rfl (fun w hs => run_lookupSE underlying58 underlying9 (zDir _) (hrD) rfl rfl (o.md_ (hlw hs))) <| qV rfl (fun w hs => run_assign) ?_
       refine QL.nil (fun w hs => ?_)
       refine cQ <| cR <| wm rfl <| wV rfl (run_ptrNilNe underlying72 rfl rfl) <| wZ ?_
       refine cC rfl (fun h3 => ?_) (fun h3 => ?_)
       ·skip
        refine cR <| wm rfl <| wm rfl <| wn rfl rfl <| wV rfl (run_field (o' := 0) underlying74 rfl ty65 rfl rfl rfl) ?_
        refine wE rfl (run_call en69 rfl rfl) (hnm (hyc hs)) ?_
        rintro e w ⟨rfl, hq⟩
        refine ⟨_, rfl, ?_⟩
        replace hs := hs.callE hq
        refine wV rfl (run_strAdd rfl rfl (by first | omega | (simp; omega) | simp)) ?_
        refine WL.buildSlice (cs := [str (nameL r.p ++ [47])]) (vs := [(0, str (nameL r.p ++ [47]))]) underlying88 ty9 rfl (by decide) rfl (filled_s _ _ rfl) rfl hs (fun b77 w hs => ?_)
        have hsl1 : Sl w 1 (.slice (some ⟨b77, 0, none⟩) 1 1) 1 [str (nameL r.p ++ [47])] := .own1 hs rfl
        refine WL.append underlying88 underlying88 ty9 rfl (by decide) rfl rfl (hv) ((hs.perm perm_l1)) (hsl1) (Cells1.of_all rfl) (by first | omega | (simp only [List.length_append, List.length_cons, List.length_nil]; omega)) rfl (fun v78 Lv78 w hv78 hs => ?_)
        refine wa rfl <| wZ ?_
        replace hs := (hs.perm perm_l1.symm).tail.tail.tail
        refine cR <| wV rfl (run_add (c := ((i + 1 : Nat) : Int)) rfl rfl (by omega) (by omega)) <| wm rfl <| wZ ?_
        refine (show _ ∧ _ from ⟨rfl, _, ?_, i + 1, v78, Lv78, by omega, rfl, (by rw [hacc1, List.length_append, strs_app]; exact hv78), (by rw [hLu]; exact hs), rfl, rfl, rfl, e1', rfl, rfl, trivial⟩)
        omega
       ·cases h3
      ·cases h
     ·have hobt := Option.isSome_iff_exists.1 hfil
      obtain ⟨k, hk⟩ := hobt
      have hobt := o.file_at hk
      obtain ⟨y, hy, hyp, hyv⟩ := hobt
      rw [hyv] at hrF
      rw [hdn] at hrD
      have hnE : s.nameE (r.p, r.d, r.x) = nameL r.p := if_neg (by rw [hdn]; simp)
      have hacc1 : ((R.take (i + 1)).filter fun r => inL r.p q).map (fun r => s.nameE (r.p, r.d, r.x)) = acc ++ [nameL r.p] := by
       rw [ht1, List.filter_append, List.map_append, hacc, List.filter_cons, if_pos hbi]
       simp [hnE]
      have hyc := fun {L' w} (hs : Step [] L' w0 w) => (o.fat (hlw hs) hy).1.cell (j := 0) (v := str r.p) (by rw [hyp]; rfl)
      refine cQ <| cR <| wV rfl (run_bT (run_lss rfl rfl) (by omega)) <| wZ <| cQ ?_
      refine cC rfl (fun h => ?_) (fun h => ?_)
      ·repeat (first | refine cQ ?_ | refine CW.block ?_ | refine cK ?_)
       refine cR <| wV rfl (run_ixSlN underlying22 ty56 rfl rfl (by omega)) <| wV rfl (run_loadN ty56 rfl rfl (rowsI_blk (T := 56) (more := mu) hs (by simp) hr)) ?_
       refine WL.alloc ty56 rfl hs (fun b11 w hs => ?_)
       refine WL.storeAll ty56 rfl rfl ((rfl)) (r.enc1) hs (by first | rfl | assumption) (fun w hs => ?_)
       refine wZ <| cQ <| cR <| wV rfl (run_field (o' := 0) underlying56 rfl ty9 rfl rfl rfl) <| wV rfl (run_load1 ty9 rfl (hs.c0 (v := str r.p) rfl)) <| wV rfl (run_build rfl (bld_com r.p _)) ?_
       refine WL.box (cs := [str r.p]) rfl rfl rfl hs (fun b57 w hs => ?_)
       refine wa rfl <| wZ <| cQ <| cQ <| cR <| wm rfl <| wm rfl ?_
       refine wE rfl (run_call en68 rfl rfl) (hin (hg.step hs) (hs.c0 (v := str r.p) rfl)) ?_
       rintro e w ⟨rfl, hq⟩
       refine ⟨_, rfl, ?_⟩
       replace hs := hs.callE hq
       refine wV rfl (run_not rfl) <| wZ ?_
       refine cC rfl (fun h2 => ?_) (fun h2 => ?_)
       ·cases h2
       repeat (first | refine cQ ?_ | refine cK ?_)
       refine CW.quiet mixedP (by kernel_rfl) hs ?_
       refine qm rfl <| qn rfl rfl <| qV rfl (fun w hs => run_field (o' := 1) underlying61 rfl ty58 rfl rfl rfl) <| qV rfl (fun w hs => run_load1 ty58 rfl ((hat (hlw hs)).cell (j := 1) rfl)) <| qV rfl (fun w hs => run_field (o' := 0) underlying56 rfl ty9 rfl rfl rfl) <| qV rfl (fun w hs => run_load1 ty9 rfl (hs.c1 (v := str r.p) rfl)) <| qV rfl (fun w hs => run_lookupSE underlying58 underlying9 (zDir _) (hrD) rfl rfl (o.md_ (hlw hs))) <| qV rfl (fun w hs => run_assign) ?_
       refine QL.nil (fun w hs => ?_)
       refine cQ <| cR <| wm rfl <| wV rfl (run_nilNe underlying72 rfl rfl) <| wZ ?_
       refine cC rfl (fun h3 => ?_) (fun h3 => ?_)
       ·cases h3
       refine CW.any (A := fun w => Step [] ((b57, blk 65 [str r.p]) :: (b11, blk 56 r.enc) :: [(bu, blk 56 (rowsI R ++ mu))]) w0 w) (C := fun w => Step [] ((b57, blk 65 [str r.p]) :: (b11, blk 56 r.enc) :: [(bu, blk 56 (rowsI R ++ mu))]) w0 w) 1000000 14 mixedP rfl ?_
       replace hs := hs.drew
       refine AL.val 0 rfl (by kernel_rfl) rfl (fun w hs => run_move) ?_
       refine AL.val 1 rfl (by kernel_rfl) rfl (fun w hs => run_move) ?_
       refine AL.val 2 rfl (by kernel_rfl) rfl (fun w hs => run_nilCheck rfl) ?_
       refine AL.val 3 rfl (by kernel_rfl) rfl (fun w hs => run_field (o' := 0) underlying61 rfl ty57 rfl rfl rfl) ?_
       refine AL.val 4 rfl (by kernel_rfl) rfl (fun w hs => run_load1 ty57 rfl ((hat (hlw hs)).cell (j := 0) rfl)) ?_
       refine AL.val 5 rfl (by kernel_rfl) rfl (fun w hs => run_field (o' := 0) underlying56 rfl ty9 rfl rfl rfl) ?_
       refine AL.val 6 rfl (by kernel_rfl) rfl (fun w hs => run_load1 ty9 rfl (hs.c1 (v := str r.p) rfl)) ?_
       refine AL.val 7 rfl (by kernel_rfl) rfl (fun w hs => run_lookupSE underlying57 underlying9 (zFile _) (hrF) rfl rfl (o.mf_ (hlw hs))) ?_
       refine AL.val 8 rfl (by kernel_rfl) rfl (fun w hs => run_nilCheck rfl) ?_
       refine AL.val 9 rfl (by kernel_rfl) rfl (fun w hs => run_field (o' := 0) underlying67 rfl ty65 rfl rfl rfl) ?_
       refine AL.one 10 (by kernel_rfl) rfl (by first | exact (hs.perm perm_l2).dropL | exact (hs.tail.perm perm_l2).dropL | exact hs.dropL.tail) (by first | exact (hs.perm perm_l2).dropL | exact (hs.tail.perm perm_l2).dropL | exact hs.dropL.tail) ?_
       refine wE rfl (run_call en69 rfl rfl) (hnm (hyc hs)) ?_
       rintro e w ⟨rfl, hq⟩
       refine ⟨_, rfl, ?_⟩
       replace hs := hs.callE hq
       refine wZ ?_
       refine ⟨rfl, ?_⟩
       refine AL.one 11 (by kernel_rfl) rfl (by first | exact (hs.perm perm_l2).dropL | exact (hs.tail.perm perm_l2).dropL | exact hs.dropL.tail) (by first | exact (hs.perm perm_l2).dropL | exact (hs.tail.perm perm_l2).dropL | exact hs.dropL.tail) ?_
       refine WL.buildSlice (cs := [str (nameL r.p)]) (vs := [(0, str (nameL r.p))]) underlying88 ty9 rfl (by decide) rfl (filled_s _ _ rfl) rfl hs (fun b90 w hs => ?_)
       have hsl1 : Sl w 1 (.slice (some ⟨b90, 0, none⟩) 1 1) 1 [str (nameL r.p)] := .own1 hs rfl
       refine wZ ?_
       refine ⟨rfl, ?_⟩
       refine AL.one 12 (by kernel_rfl) rfl (by first | exact (hs.perm perm_l2).dropL | exact (hs.tail.perm perm_l2).dropL | exact hs.dropL.tail) (by first | exact (hs.perm perm_l2).dropL | exact (hs.tail.perm perm_l2).dropL | exact hs.dropL.tail) ?_
       refine WL.append underlying88 underlying88 ty9 rfl (by decide) rfl rfl (hv) ((hs.perm perm_l1)) (hsl1) (Cells1.of_all rfl) (by first | omega | (simp only [List.length_append, List.length_cons, List.length_nil]; omega)) rfl (fun v91 Lv91 w hv91 hs => ?_)
       refine wZ ?_
       refine ⟨rfl, ?_⟩
       refine AL.val 13 rfl (by kernel_rfl) rfl (fun w hs => run_assign) ?_
       refine AL.end (by kernel_rfl) (by first | exact (hs.perm perm_l2).dropL | exact (hs.tail.perm perm_l2).dropL | exact hs.dropL.tail) (by first | exact (hs.perm perm_l2).dropL | exact (hs.tail.perm perm_l2).dropL | exact hs.dropL.tail) ?_
       replace hs := (hs.perm perm_l1.symm).tail.tail.tail
       refine cR <| wV rfl (run_add (c := ((i + 1 : Nat) : Int)) rfl rfl (by omega) (by omega)) <| wm rfl <| wZ ?_
       refine (show _ ∧ _ from ⟨rfl, _, ?_, i + 1, v91, Lv91, by omega, rfl, (by rw [hacc1, List.length_append, strs_app]; exact hv91), (by rw [hLu]; exact hs), rfl, rfl, rfl, e1', rfl, rfl, trivial⟩)
       omega
      ·cases h
    ·have hacc1 : ((R.take (i + 1)).filter fun r => inL r.p q).map (fun r => s.nameE (r.p, r.d, r.x)) = acc := by
      rw [ht1, List.filter_append, List.map_append, hacc, List.filter_cons, if_neg (by rw [hbi]; simp)]
      simp
     refine cQ <| cR <| wV rfl (run_bT (run_lss rfl rfl) (by omega)) <| wZ <| cQ ?_
     refine cC rfl (fun h => ?_) (fun h => ?_)
     ·repeat (first | refine cQ ?_ | refine CW.block ?_ | refine cK ?_)
      refine cR <| wV rfl (run_ixSlN underlying22 ty56 rfl rfl (by omega)) <| wV rfl (run_loadN ty56 rfl rfl (rowsI_blk (T := 56) (more := mu) hs (by simp) hr)) ?_
      refine WL.alloc ty56 rfl hs (fun b11 w hs => ?_)
      refine WL.storeAll ty56 rfl rfl ((rfl)) (r.enc1) hs (by first | rfl | assumption) (fun w hs => ?_)
      refine wZ <| cQ <| cR <| wV rfl (run_field (o' := 0) underlying56 rfl ty9 rfl rfl rfl) <| wV rfl (run_load1 ty9 rfl (hs.c0 (v := str r.p) rfl)) <| wV rfl (run_build rfl (bld_com r.p _)) ?_
      refine WL.box (cs := [str r.p]) rfl rfl rfl hs (fun b57 w hs => ?_)
      refine wa rfl <| wZ <| cQ <| cQ <| cR <| wm rfl <| wm rfl ?_
      refine wE rfl (run_call en68 rfl rfl) (hin (hg.step hs) (hs.c0 (v := str r.p) rfl)) ?_
      rintro e w ⟨rfl, hq⟩
      refine ⟨_, rfl, ?_⟩
      replace hs := hs.callE hq
      refine wV rfl (run_not rfl) <| wZ ?_
      refine cC rfl (fun h2 => ?_) (fun h2 => ?_)
      ·replace hs := hs.tail.tail
       refine CW.exit <| cR <| wV rfl (run_add (c := ((i + 1 : Nat) : Int)) rfl rfl (by omega) (by omega)) <| wm rfl <| wZ ?_
       refine (show _ ∧ _ from ⟨rfl, _, ?_, i + 1, .slice av acc.length cv, Lv, by omega, rfl, (by rw [hacc1]; exact hv), (by rw [hLu]; exact hs), rfl, rfl, rfl, e1', rfl, rfl, trivial⟩)
       omega
      ·cases h2
     ·cases h
   ·have hobt := hfh.chain
    obtain ⟨g, rfl⟩ := hobt
    obtain rfl : i = n := by omega
    rw [List.take_of_length_le (by omega), ← hNe] at hv
    refine cQ <| cR <| wV rfl (run_bF (run_lss rfl rfl) (by omega)) <| wZ <| cQ ?_
    refine cC rfl (fun h => ?_) (fun h => ?_)
    ·cases h
    repeat (first | refine cQ ?_ | refine CW.exit ?_)
    refine cR <| wm rfl <| wa rfl <| wa rfl <| wZ ?_
    refine CW.ret ?_
    refine fin_ret2 rfl ?_
    exact ⟨v, Lv, rfl, hv, hs.dropR⟩
end
end Go.Gx
