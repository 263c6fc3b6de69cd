/- Files in memory: one step of a script, whatever is answered. Two states of files alike but for the order of files and directories. No program in sight. Two states of files alike: Open. No program in sight. Two states of files alike: all that is done. No program in sight. Two states of files alike: handles; one step. No program in sight. Files in memory: what the laws ask of file systems that stand side by side. Files in memory: never above the quota. No program in sight. VfsBounds in plain words: which handles are open. -/
import Derived.Test.YtepaojbhjgefiaaGreatDoorC9
import Derived.Test.YtepaojbhjgefiaaGreatDoorVtA
import Derived.Test.YtepaojbhjgefiaaGreatDoorC1
import Derived.Test.YtepaojbhjgefiaaGreatDoorD2
set_option linter.unusedVariables false
set_option linter.unusedSimpArgs false
/-! Vt14 -/
namespace Go.Gx
open Go.Proofs Go.Proofs.Tryz
set_option maxRecDepth 100000
def VS.doS (s : VS) (x : Stv) : VS × Int :=
 if x.k = 1 then ((s.open x.p x.n).2.2, if (s.open x.p x.n).2.1 = 0 then (s.open x.p x.n).1 else -1) else
 if x.k = 2 then ((s.read x.h x.n).2.2, -1) else
 if x.k = 4 then ((s.write x.h x.b).2, -1) else
 if x.k = 7 then ((s.close x.h).2, -1) else (s, -1)
theorem read_tree {s : VS} (t : s.Tree) (h n : Int) : (s.read h n).2.2.Tree := by
 unfold VS.read
 split
 ·exact t
 ·split
  ·exact t
  ·exact t.of rfl rfl
theorem close_tree {s : VS} (t : s.Tree) (h : Int) : (s.close h).2.Tree := by
 unfold VS.close
 split
 ·exact t
 ·exact t.of rfl rfl
theorem set_fst {F : List (List UInt8 × List UInt8)} {i : Nat} {x : List UInt8} : (F.set i (((F[i]?).map (·.1)).getD [], x)).map (·.1) = F.map (·.1) := by
 rw [List.map_set]
 apply List.ext_getElem?
 intro k
 by_cases hk : i = k
 ·subst hk
  by_cases hi : i < F.length
  ·rw [List.getElem?_set_self (by simpa using hi), List.getElem?_map, List.getElem?_eq_getElem hi]
   rfl
  ·rw [List.getElem?_eq_none (by simpa using hi), List.getElem?_eq_none (by simpa using hi)]
 ·rw [List.getElem?_set_ne hk]
theorem write_tree {s : VS} (t : s.Tree) (h : Int) (b : List UInt8) : (s.write h b).2.Tree := by
 unfold VS.write
 split
 ·exact t
 ·split
  ·exact t
  ·exact t.of rfl set_fst
theorem do_keeps {s : VS} (sn : s.Sane) (t : s.Tree) (x : Stv) : (s.doS x).1.Sane ∧ (s.doS x).1.Tree := by
 unfold VS.doS
 split
 ·exact open_keeps sn t x.p x.n
 ·split
  ·exact ⟨sn.read x.h x.n, read_tree t x.h x.n⟩
  ·split
   ·exact ⟨sn.write x.h x.b, write_tree t x.h x.b⟩
   ·split
    ·exact ⟨sn.close x.h, close_tree t x.h⟩
    ·exact ⟨sn, t⟩
theorem is_op {s : VS} (sn : s.Sane) {h : Int} (hi : (s.is h).isSome) : 1 ≤ s.op := by
 have hobt := Option.isSome_iff_exists.1 hi
 obtain ⟨a, ha⟩ := hobt
 have hobt := is_at ha
 obtain ⟨k, _, hk⟩ := hobt
 have := count_none hk
 have := sn.op
 omega
theorem Stv.cells1 {w : World} {x : Stv} (h : x.Ok w) : Cells1 x.cells := by
 intro v hv
 simp only [Stv.cells, List.mem_cons, List.not_mem_nil, or_false] at hv
 have hobt := h.hb.form
 obtain ⟨a, c, he⟩ := hobt
 rcases hv with rfl | rfl | rfl | rfl | rfl
 ·rfl
 ·rfl
 ·rfl
 ·rfl
 ·rw [he]; rfl
end Go.Gx
/-! Vw1 -/
namespace Go.Gx
open Go.Proofs Go.Proofs.Tryz
/-- The handles, with their files' paths. -/
def hv (s : VS) : List (Option (List UInt8 × Nat × Nat)) := s.H.map (Option.map fun h => (s.pth h.1, h.2.1, h.2.2))
structure Eqv (s s' : VS) : Prop where
 F : s.F.Perm s'.F
 D : s.D.Perm s'.D
 H : hv s = hv s'
 qb : s.qb = s'.qb
 qf : s.qf = s'.qf
 qo : s.qo = s'.qo
 by_ : s.by_ = s'.by_
 op : s.op = s'.op
section
variable {α β : Type} [DecidableEq α]
/-- The entry of a key, once only. -/
theorem find_nodup {l : List (α × β)} {p : α} {i : Nat} (hn : (l.map (·.1)).Nodup) : l.findIdx? (fun e => decide (e.1 = p)) = some i ↔ ∃ e, l[i]? = some e ∧ e.1 = p := by
 rw [List.findIdx?_eq_some_iff_getElem]
 constructor
 ·rintro ⟨h1, h2, _⟩
  exact ⟨l[i], List.getElem?_eq_getElem h1, of_decide_eq_true h2⟩
 ·rintro ⟨e, he, hp⟩
  have hobt := List.getElem?_eq_some_iff.1 he
  obtain ⟨h1, h2⟩ := hobt
  refine ⟨h1, by rw [h2]; simpa using hp, fun j hj => ?_⟩
  intro h
  have h3 : l[j].1 = p := by simpa using h
  have h4 := List.pairwise_iff_getElem.1 hn j i (by simpa using Nat.lt_trans hj h1) (by simpa using h1) hj
  simp only [List.getElem_map] at h4
  exact h4 (h3.trans (by rw [h2, hp]))
end
section
variable {s s' : VS}
theorem Eqv.items (e : Eqv s s') : s.items = s'.items := by unfold VS.items; rw [e.F.length_eq, e.D.length_eq]
/-- The same items. -/
theorem Eqv.itemsU (e : Eqv s s') : s.itemsU.Perm s'.itemsU := by
 unfold VS.itemsU
 exact (((e.D.map _).filter _).map _).append (e.F.map _)
theorem Eqv.itemsL (e : Eqv s s') (t : s.Tree) (t' : s'.Tree) : s.itemsL = s'.itemsL :=
 sorted_eq (itemsL_sorted (items_nodup t)) (itemsL_sorted (items_nodup t')) (((itemsL_perm _).trans e.itemsU).trans (itemsL_perm _).symm)
theorem Eqv.isH (e : Eqv s s') (k : Nat) : (s.H[k]?).map (Option.map fun h => (s.pth h.1, h.2.1, h.2.2)) = (s'.H[k]?).map (Option.map fun h => (s'.pth h.1, h.2.1, h.2.2)) := by
 have := congrArg (·[k]?) e.H
 simpa [hv, List.getElem?_map] using this
theorem Eqv.len (e : Eqv s s') : s.H.length = s'.H.length := by
 have := congrArg List.length e.H
 simpa [hv] using this
theorem Eqv.noneH (e : Eqv s s') : s.H.map Option.isNone = s'.H.map Option.isNone := by
 have h := congrArg (List.map Option.isNone) e.H
 unfold hv at h
 rw [List.map_map, List.map_map] at h
 have h2 : ∀ (g : Nat × Nat × Nat → List UInt8 × Nat × Nat) (l : List HT), l.map (Option.isNone ∘ Option.map g) = l.map Option.isNone := fun g l => List.map_congr_left fun x _ => by cases x <;> rfl
 rwa [h2, h2] at h
end
end Go.Gx
/-! Vw2 -/
namespace Go.Gx
open Go.Proofs Go.Proofs.Tryz
def incr (u : List UInt8) (e : List UInt8 × Nat) : List UInt8 × Nat := if e.1 = u then (e.1, e.2 + 1) else e
def NdD (s : VS) : Prop := (s.D.map (·.1)).Nodup
section
variable {s s' : VS}
theorem Eqv.dirN (e : Eqv s s') (n : NdD s) (n' : NdD s') (p : List UInt8) : (s.dir p).isSome = (s'.dir p).isSome := by
 have hgo : ∀ {a b : VS}, a.D.Perm b.D → (a.dir p).isSome → (b.dir p).isSome := fun {a b} h h1 => by
  have h2 := dir_mem.1 h1
  exact dir_mem.2 ((h.map _).mem_iff.1 h2)
 cases h : (s.dir p).isSome with
 | true => exact (hgo e.D h).symm
 | false =>
  cases h2 : (s'.dir p).isSome with
  | true => rw [hgo e.D.symm h2] at h; cases h
  | false => rfl
end
end Go.Gx
/-! Vw3 -/
namespace Go.Gx
open Go.Proofs Go.Proofs.Tryz
section
variable {s s' : VS}
end
end Go.Gx
/-! Vw4 -/
namespace Go.Gx
open Go.Proofs Go.Proofs.Tryz
section
variable {s s' : VS}
end
end Go.Gx
/-! VwC -/
namespace Go.Gx
open Go.Proofs Go.Proofs.Tryz Go.RowKit
set_option maxRecDepth 100000
/-- A script's steps, one after the other. -/
def VS.goS (s : VS) (l : List Stv) : VS := l.foldl (fun s x => (s.doS x).1) s
theorem itemsL_x {s : VS} (ok : s.Ok) : ∀ t ∈ s.itemsL, t.2.2.length ≤ 1048576 := fun t ht => by
 have h1 : t ∈ s.itemsU := (itemsL_perm s.itemsU).mem_iff.1 ht
 unfold VS.itemsU at h1
 rcases List.mem_append.1 h1 with h | h
 ·have hobt := List.mem_map.1 h
  obtain ⟨p, _, rfl⟩ := hobt
  exact Nat.zero_le _
 ·have hobt := List.mem_map.1 h
  obtain ⟨e, he, rfl⟩ := hobt
  exact ok.x e he
theorem itemsL_n {s : VS} (sn : s.Sane) : s.itemsL.length ≤ 131072 := by
 have h1 : s.itemsL.length = s.itemsU.length := (itemsL_perm s.itemsU).length_eq
 rw [h1]
 unfold VS.itemsU
 rw [List.length_append, List.length_map, List.length_map]
 have h2 := List.length_filter_le (fun p : List UInt8 => decide (p ≠ [])) (s.D.map (·.1))
 rw [List.length_map] at h2
 have := sn.lim
 omega
section
variable {bf bf' : Nat} {s s' : VS} {L L' R : List (Nat × Obj)} {w0 w : World}
end
end Go.Gx
/-! Vb5 -/
namespace Go.Gx
open Go.Proofs Go.Proofs.Tryz
def putH (H : List HT) (k : Nat) (a : Nat × Nat × Nat) : List HT := if k < H.length then H.set k (some a) else H ++ [some a]
/-- What an Open does to what is taken. -/
def OpenQ (s : VS) (r : Int × Int × VS) : Prop := r.2.2.qb = s.qb ∧ r.2.2.qf = s.qf ∧ r.2.2.qo = s.qo ∧ r.2.2.by_ ≤ s.by_ ∧ (r.2.2.items = s.items ∨ (r.2.2.items : Int) ≤ s.qf) ∧ (r.2.1 ≠ 0 ∧ r.2.2 = s ∨ r.2.1 = 0 ∧ r.1 = (s.slotI : Nat) ∧ r.2.2.op = s.op + 1 ∧ (s.op : Int) < s.qo ∧ ∃ a, r.2.2.H = putH s.H s.slotI a)
theorem OpenQ.same {s : VS} {e z : Int} (h : e ≠ 0) : OpenQ s (z, e, s) := ⟨rfl, rfl, rfl, Nat.le_refl _, .inl rfl, .inl ⟨h, rfl⟩⟩
section
variable {s : VS}
theorem open_more (sn : s.Sane) (t : s.Tree) (p : List UInt8) (mode : Int) : OpenQ s (s.open p mode) := by
 unfold VS.open
 split
 ·exact OpenQ.same (by decide)
 rename_i hmode
 split
 ·rename_i h; exact OpenQ.same h
 rename_i hce
 split
 ·exact OpenQ.same (by decide)
 rename_i hq0
 split
 ·rename_i h; exact OpenQ.same h
 rename_i hw0
 split
 ·rename_i h; exact OpenQ.same h
 rename_i hmay
 have hobt : ∃ q, cleanS p = q := ⟨_, rfl⟩
 obtain ⟨q, hq⟩ := hobt
 have hcl : isCleanL q = true := by rw [← hq]; exact clean_isClean (Classical.byContradiction hce)
 rw [hq] at hq0 hw0 hmay
 rw [hq]
 have hobt : ∃ M ew, s.way (decide (4 ≤ mode)) (upsF [] q) [] = (M, ew) := ⟨_, _, rfl⟩
 obtain ⟨M, ew, hW⟩ := hobt
 rw [hW] at hw0 hmay
 rw [hW]
 obtain rfl : ew = 0 := Classical.byContradiction hw0
 have hmay : s.mayO q (s.file q) mode M = 0 := Classical.byContradiction hmay
 have hobt := clean_named hcl
 obtain ⟨h1, h2⟩ := hobt
 have hrow : partsL q ≠ [] := fun e => hq0 (partsL_nil e)
 have e1 : upsF [] q = upsR [] (partsL q) := by
  have := ups_join (partsL q) [] [] (fun x hx => isName_slash (h1 x hx)) (fun x => by simp [joinL_one])
  rw [joinL_partsL] at this
  exact this
 have hch := ups_chain (partsL q) [] (by simpa using h1) (by simpa using h2)
 have hlast := ups_last (partsL q) [] hrow
 have hucl := ups_clean (partsL q) [] (by simpa using h1) (by simpa using h2)
 rw [← e1] at hch hlast hucl
 have hj0 : joinL [] = [] := rfl
 rw [hj0] at hch hlast
 rw [List.nil_append] at hlast
 have epar : (splitR q).1 = joinL (partsL q).dropLast := by
  unfold splitR
  rw [hcl, if_neg (by simp), if_neg hrow]
 rw [← epar] at hlast
 have hMf := way_ok hW
 rw [List.nil_append] at hMf
 have hnof := way_nofile hW
 have hobt := miss_chain t hch fun u hu => (hucl u hu).2
 obtain ⟨prev', hc', hml, _⟩ := hobt
 rw [← hMf] at hc' hml
 have hobt := way_made hcl hq0 sn.root hW
 obtain ⟨hmade, hpar⟩ := hobt
 have hfst := way_first hcl hq0 sn.root hW
 have hobt : ∃ x, s.file q = x := ⟨_, rfl⟩
 obtain ⟨x, hx⟩ := hobt
 rw [hx] at hmay ⊢
 have ok := sn.ok
 have hqf := ok.qf
 have hqo := ok.qo
 have hdq : s.dir q = none := by
  unfold VS.mayO at hmay
  split at hmay
  ·cases hmay
  ·rename_i h
   cases hd : s.dir q with
   | none => rfl
   | some j => rw [hd] at h; exact absurd rfl h
 have hop : s.op < 64 ∧ (s.op : Int) < s.qo := by
  unfold VS.mayO at hmay
  rw [hdq] at hmay
  split at hmay
  ·cases hmay
  ·split at hmay
   ·cases hmay
   ·split at hmay
    ·cases hmay
    ·split at hmay
     ·cases hmay
     ·exact ⟨by omega, by omega⟩
 have hm4 : mode.toNat % 4 ≤ 3 := by omega
 -- what put1 leaves
 have hput : (s.put1 q M x).2 < (s.put1 q M x).1.F.length ∧ (s.put1 q M x).1.op = s.op ∧ (s.put1 q M x).1.H = s.H ∧ (s.put1 q M x).1.by_ = s.by_ ∧ ((s.put1 q M x).1.qb = s.qb ∧ (s.put1 q M x).1.qf = s.qf ∧ (s.put1 q M x).1.qo = s.qo) ∧ ((s.put1 q M x).1.items = s.items ∨ ((s.put1 q M x).1.items : Int) ≤ s.qf) := by
  cases x with
  | some i =>
   have hqm : q ∈ s.F.map (·.1) := by
    unfold VS.file at hx
    have hobt := List.findIdx?_eq_some_iff_getElem.1 hx
    obtain ⟨g1, g2, _⟩ := hobt
    exact List.mem_map.2 ⟨s.F[i], List.getElem_mem g1, by simpa using g2⟩
   have hM0 : M = [] := by
    rcases hml with h | h
    ·exact h
    ·by_cases hM : M = []
     ·exact hM
     exfalso
     have hp := (t.cl q (.inr hqm) hq0).2
     rw [← hlast, ← h] at hp
     have hne : M.getLast? ≠ none := by simpa using hM
     have hobt := Option.ne_none_iff_exists'.1 hne
     obtain ⟨u, hu⟩ := hobt
     rw [hu, Option.getD_some] at hp
     have hum : u ∈ M := List.mem_of_getLast? hu
     rw [hMf] at hum
     have := (List.mem_filter.1 hum).2
     cases hd : s.dir u <;> simp_all
   subst hM0
   have hil : i < s.F.length := by
    unfold VS.file at hx
    exact (List.findIdx?_eq_some_iff_getElem.1 hx).1
   exact ⟨hil, rfl, rfl, rfl, ⟨rfl, rfl, rfl⟩, .inl rfl⟩
  | none =>
   obtain ⟨m1, m2⟩ : (s.items : Int) + M.length + 1 ≤ s.qf ∧ ¬ 1024 ≤ s.below (splitR (firstL q M)).1 := by
    unfold VS.mayO at hmay
    rw [hdq] at hmay
    split at hmay
    ·cases hmay
    ·split at hmay
     ·cases hmay
     ·split at hmay
      ·cases hmay
      ·rename_i h
       exact ⟨Int.not_lt.1 fun h2 => h ⟨rfl, .inl h2⟩, fun h2 => h ⟨rfl, .inr h2⟩⟩
   have hroom := room_below hfst m2
   have hMall : ∀ u ∈ M, s.dir u = none ∧ s.file u = none ∧ isCleanL u = true ∧ u ≠ [] := fun u hu => by
    rw [hMf] at hu
    have hobt := List.mem_filter.1 hu
    obtain ⟨a1, a2⟩ := hobt
    refine ⟨?_, hnof u a1, (hucl u a1).1, (hucl u a1).2⟩
    cases hd : s.dir u <;> simp_all
   have hT : (M.foldl VS.addDir s).Tree ∧ (M.foldl VS.addDir s).room (splitR q).1 := by
    cases M with
    | nil => exact ⟨t, hroom⟩
    | cons d M =>
     have hpr : s.room prev' := by
      have : (splitR d).1 = prev' := hc'.1
      rw [← this]
      exact hroom
     have hobt := made_tree hc' t hpr hMall
     obtain ⟨g1, g2⟩ := hobt
     refine ⟨g1, ?_⟩
     rcases hml with h | h
     ·cases h
     ·rw [← hlast, ← h]
      rw [List.getLast?_cons, Option.getD_some] at g2 ⊢
      exact g2
   obtain ⟨hT1, j, n, hj, hjn, hn⟩ := hT
   have hqM : q ∉ M := fun h => by
    have h4 : q ∈ upsF [] q := by rw [hMf] at h; exact (List.mem_filter.1 h).1
    have h5 := ups_lt q [] q h4
    have h6 : ([] : List UInt8).length = 0 := rfl
    omega
   have hdq1 := fold_dir_none M s q hmade hdq hqM
   have hfq1 : (M.foldl VS.addDir s).file q = none := by rw [file_foldDir]; exact hx
   have hTF := hT1.addFile (x := []) hcl hq0 hj hjn hn hdq1 hfq1
   have hobt := file_addFile (x := []) (by rw [hj]; rfl) hfq1
   obtain ⟨n1, n2, n3⟩ := hobt
   have hobt := made_fold M s hmade sn.cnt
   obtain ⟨c1, c2, _, _⟩ := hobt
   have hobt := foldDir_F M s
   obtain ⟨f1, f2, f3, f4, f5, f6, f7⟩ := hobt
   have e : (M.foldl VS.addDir s).addFile q [] = { (M.foldl VS.addDir s).bump j with F := (M.foldl VS.addDir s).F ++ [(q, [])], by_ := (M.foldl VS.addDir s).by_ + ([] : List UInt8).length } := by unfold VS.addFile; rw [hj]
   have hDl : ((M.foldl VS.addDir s).addFile q []).D.length = s.D.length + M.length := by rw [e]; show ((M.foldl VS.addDir s).bump j).D.length = _; rw [bump_len, c2]
   have hFl : ((M.foldl VS.addDir s).addFile q []).F.length = s.F.length + 1 := by rw [n2, f1]; simp
   have hitm : s.items + 1 = s.F.length + s.D.length := by
    have hD1 : 0 < s.D.length := by
     have hobt := Option.isSome_iff_exists.1 sn.root
     obtain ⟨j, hj⟩ := hobt
     unfold VS.dir at hj
     have := (List.findIdx?_eq_some_iff_getElem.1 hj).1
     omega
    unfold VS.items
    omega
   have hlim : ((M.foldl VS.addDir s).addFile q []).F.length + ((M.foldl VS.addDir s).addFile q []).D.length ≤ 65536 := by omega
   have hHe : ((M.foldl VS.addDir s).addFile q []).H = s.H := by rw [e]; exact f3
   have hope : ((M.foldl VS.addDir s).addFile q []).op = s.op := by rw [e]; exact f4
   show (M.foldl VS.addDir s).F.length < ((M.foldl VS.addDir s).addFile q []).F.length ∧ ((M.foldl VS.addDir s).addFile q []).op = s.op ∧ ((M.foldl VS.addDir s).addFile q []).H = s.H ∧ ((M.foldl VS.addDir s).addFile q []).by_ = s.by_ ∧ (((M.foldl VS.addDir s).addFile q []).qb = s.qb ∧ ((M.foldl VS.addDir s).addFile q []).qf = s.qf ∧ ((M.foldl VS.addDir s).addFile q []).qo = s.qo) ∧ (((M.foldl VS.addDir s).addFile q []).items = s.items ∨ ((((M.foldl VS.addDir s).addFile q []).items : Nat) : Int) ≤ s.qf)
   refine ⟨by rw [hFl, f1]; omega, hope, hHe, by rw [n3, f2]; rfl, ⟨by rw [e]; exact f5, by rw [e]; exact f6, by rw [e]; exact f7⟩, .inr ?_⟩
   unfold VS.items
   omega
 have hobt : ∃ a, s.put1 q M x = a := ⟨_, rfl⟩
 obtain ⟨a, ha⟩ := hobt
 rw [ha] at hput ⊢
 obtain ⟨p3, p4, p5, p6, ⟨p7, p8, p9⟩, p10⟩ := hput
 have hcut : (a.1.cutI mode.toNat a.2).op = s.op ∧ (a.1.cutI mode.toNat a.2).H = s.H ∧ (a.1.cutI mode.toNat a.2).by_ ≤ s.by_ ∧ ((a.1.cutI mode.toNat a.2).qb = s.qb ∧ (a.1.cutI mode.toNat a.2).qf = s.qf ∧ (a.1.cutI mode.toNat a.2).qo = s.qo) ∧ (a.1.cutI mode.toNat a.2).items = a.1.items := by
  unfold VS.cutI
  split
  ·exact ⟨p4, p5, by show a.1.by_ - _ ≤ _; omega, ⟨p7, p8, p9⟩, by unfold VS.items; show (a.1.F.set a.2 _).length + a.1.D.length - 1 = _; rw [List.length_set]⟩
  ·exact ⟨p4, p5, by omega, ⟨p7, p8, p9⟩, rfl⟩
 obtain ⟨c1, c2, c3, ⟨c4, c5, c6⟩, c7⟩ := hcut
 have hslot : (a.1.cutI mode.toNat a.2).slotI = s.slotI := by unfold VS.slotI; rw [c2]
 refine ⟨c4, c5, c6, c3, ?_, .inr ⟨rfl, congrArg (fun z : Nat => (z : Int)) hslot, congrArg (· + 1) c1, hop.2, (a.2, 0, mode.toNat % 4), ?_⟩⟩
 ·show (a.1.cutI mode.toNat a.2).items = _ ∨ _
  rw [c7]
  rcases p10 with h | h
  ·exact .inl h
  ·exact .inr (by show (((a.1.cutI mode.toNat a.2).items : Nat) : Int) ≤ _; rw [c7]; exact h)
 ·show (if (a.1.cutI mode.toNat a.2).slotI < (a.1.cutI mode.toNat a.2).H.length then _ else _) = _
  rw [hslot, c2]
  rfl
end
/-- What is taken is never above the quota. -/
structure VS.Quo (s : VS) : Prop where
 b : (s.by_ : Int) ≤ s.qb
 f : (s.items : Int) ≤ s.qf
 o : s.op = 0 ∨ (s.op : Int) ≤ s.qo
theorem do_quo {s : VS} (sn : s.Sane) (t : s.Tree) (q : s.Quo) (x : Stv) : (s.doS x).1.Quo ∧ (s.doS x).1.qb = s.qb ∧ (s.doS x).1.qf = s.qf ∧ (s.doS x).1.qo = s.qo := by
 unfold VS.doS
 split
 ·have hobt := open_more sn t x.p x.n
  obtain ⟨h1, h2, h3, h4, h5, h6⟩ := hobt
  refine ⟨⟨by show ((s.open x.p x.n).2.2.by_ : Int) ≤ (s.open x.p x.n).2.2.qb; rw [h1]; have := q.b; omega, ?_, ?_⟩, h1, h2, h3⟩
  ·show ((s.open x.p x.n).2.2.items : Int) ≤ (s.open x.p x.n).2.2.qf
   rw [h2]
   rcases h5 with h | h
   ·rw [h]; exact q.f
   ·exact h
  ·show (s.open x.p x.n).2.2.op = 0 ∨ ((s.open x.p x.n).2.2.op : Int) ≤ (s.open x.p x.n).2.2.qo
   rw [h3]
   rcases h6 with ⟨_, h⟩ | ⟨_, _, h, h7, _⟩
   ·rw [h]; exact q.o
   ·rw [h]; exact .inr (by omega)
 ·split
  ·unfold VS.read
   split
   ·exact ⟨q, rfl, rfl, rfl⟩
   ·split
    ·exact ⟨q, rfl, rfl, rfl⟩
    ·exact ⟨⟨q.b, q.f, q.o⟩, rfl, rfl, rfl⟩
  ·split
   ·unfold VS.write
    split
    ·exact ⟨q, rfl, rfl, rfl⟩
    ·rename_i hbad
     split
     ·exact ⟨q, rfl, rfl, rfl⟩
     ·rename_i i pl mo ha
      have hmay : s.may x.h x.b.length = 0 := Classical.byContradiction fun h => hbad (.inl h)
      have hb : x.b ≠ [] := fun h => hbad (.inr h)
      have hbl : 0 < x.b.length := List.length_pos_iff.2 hb
      unfold VS.may at hmay
      rw [ha] at hmay
      simp only at hmay
      split at hmay
      ·cases hmay
      ·split at hmay
       ·omega
       ·split at hmay
        ·omega
        ·split at hmay
         ·cases hmay
         ·split at hmay
          ·cases hmay
          ·have hqb := q.b
           refine ⟨⟨by show ((s.by_ + (s.from_ i pl mo + x.b.length - s.len i) : Nat) : Int) ≤ s.qb; omega, by have := q.f; unfold VS.items at this ⊢; show (((s.F.set i _).length + s.D.length - 1 : Nat) : Int) ≤ s.qf; rw [List.length_set]; exact this, q.o⟩, rfl, rfl, rfl⟩
   ·split
    ·unfold VS.close
     split
     ·exact ⟨q, rfl, rfl, rfl⟩
     ·exact ⟨⟨q.b, q.f, by have := q.o; show s.op - 1 = 0 ∨ ((s.op - 1 : Nat) : Int) ≤ s.qo; omega⟩, rfl, rfl, rfl⟩
    ·exact ⟨q, rfl, rfl, rfl⟩
end Go.Gx
/-! Vb6 -/
namespace Go.Gx
open Go.Proofs Go.Proofs.Tryz
def opn1 (H : List HT) (k : Nat) : Bool := ((H[k]?).join).isSome
def opn (s : VS) : List Bool := (List.range 64).map (opn1 s.H)
end Go.Gx
