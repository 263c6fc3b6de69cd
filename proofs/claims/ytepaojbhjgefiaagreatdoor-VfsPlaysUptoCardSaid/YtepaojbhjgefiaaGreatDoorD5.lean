/- The document's files beside the program's: what stands where. No program in sight but the document's at. The document's files: at, is, data, place, open, walked. The document's files: what is told, walked. The document's files: Peek, May, Close, walked. The document's files: Close, Read, walked. The document's files: Read, walked. The document's files: one file's bytes in their place. The document's files: Write, walked. The document's files: below, put, walked. The document's files: put, walked. -/
import Derived.Test.YtepaojbhjgefiaaGreatDoorD3
import Derived.Test.YtepaojbhjgefiaaGreatDoorD2
import Derived.Test.YtepaojbhjgefiaaGreatDoorC1
set_option linter.unusedVariables false
set_option linter.unusedSimpArgs false
/-! Vq1 -/
namespace Go.Gx
open Go.Proofs Go.Proofs.Tryz Go.RowKit
set_option maxRecDepth 100000
/-- Where a path stands in a list of items. -/
def atL (l : List Tri) (p : List UInt8) : Option Nat := l.findIdx? fun t => decide (t.1 = p)
def atI (l : List Tri) (p : List UInt8) : Int := ((atL l p).map fun k : Nat => (k : Int)).getD (-1)
theorem atI_some {l : List Tri} {p : List UInt8} {k : Nat} (h : atL l p = some k) : atI l p = k := by unfold atI; rw [h]; rfl
theorem atI_none {l : List Tri} {p : List UInt8} (h : atL l p = none) : atI l p = -1 := by unfold atI; rw [h]; rfl
theorem itemsL_nodup {s : VS} (t : s.Tree) : (s.itemsL.map (·.1)).Nodup := (((itemsL_perm s.itemsU).map (·.1)).nodup_iff).2 (items_nodup t)
theorem itemsL_mem {s : VS} {x : Tri} : x ∈ s.itemsL ↔ x ∈ s.itemsU := (itemsL_perm s.itemsU).mem_iff
theorem itemsU_file {s : VS} {p x : List UInt8} : (p, false, x) ∈ s.itemsU ↔ (p, x) ∈ s.F := by
 unfold VS.itemsU
 rw [List.mem_append]
 constructor
 ·rintro (h | h)
  ·have hobt := List.mem_map.1 h
   obtain ⟨q, _, he⟩ := hobt
   cases he
  ·have hobt := List.mem_map.1 h
   obtain ⟨e, he, h2⟩ := hobt
   obtain ⟨a, b⟩ := e
   injection h2 with h3 h4
   injection h4 with h5 h6
   subst h3 h6
   exact he
 ·intro h
  exact .inr (List.mem_map.2 ⟨(p, x), h, rfl⟩)
theorem itemsU_dir {s : VS} {p x : List UInt8} : (p, true, x) ∈ s.itemsU ↔ p ≠ [] ∧ x = [] ∧ p ∈ s.D.map (·.1) := by
 unfold VS.itemsU
 rw [List.mem_append]
 constructor
 ·rintro (h | h)
  ·have hobt := List.mem_map.1 h
   obtain ⟨q, hq, he⟩ := hobt
   have hobt := List.mem_filter.1 hq
   obtain ⟨h1, h2⟩ := hobt
   injection he with h3 h4
   injection h4 with h5 h6
   subst h3
   exact ⟨of_decide_eq_true h2, h6.symm, h1⟩
  ·have hobt := List.mem_map.1 h
   obtain ⟨e, he, h2⟩ := hobt
   injection h2 with h3 h4
   injection h4 with h5 h6
   cases h5
 ·rintro ⟨h1, rfl, h2⟩
  exact .inl (List.mem_map.2 ⟨p, List.mem_filter.2 ⟨h2, by simpa using h1⟩, rfl⟩)
theorem atL_mem {l : List Tri} (hn : (l.map (·.1)).Nodup) {p : List UInt8} {x : Bool × List UInt8} (h : (p, x) ∈ l) : ∃ k : Nat, atL l p = some k ∧ l[k]? = some (p, x) := by
 have hobt := List.mem_iff_getElem?.1 h
 obtain ⟨k, hk⟩ := hobt
 exact ⟨k, (find_nodup hn).2 ⟨(p, x), hk, rfl⟩, hk⟩
theorem atL_get {l : List Tri} {p : List UInt8} {k : Nat} (h : atL l p = some k) : ∃ x, l[k]? = some (p, x) := by
 have hobt := List.findIdx?_eq_some_iff_getElem.1 h
 obtain ⟨h1, h2, _⟩ := hobt
 have h2 := of_decide_eq_true h2
 exact ⟨l[k].2, by rw [List.getElem?_eq_getElem h1, ← h2]⟩
section
variable {s : VS}
theorem at_file (t : s.Tree) {p : List UInt8} {i : Nat} (h : s.file p = some i) : ∃ k x, atL s.itemsL p = some k ∧ s.itemsL[k]? = some (p, false, x) ∧ s.F[i]? = some (p, x) := by
 have hobt := (find_nodup t.ndF).1 h
 obtain ⟨e, he, hp⟩ := hobt
 obtain ⟨a, x⟩ := e
 have hp : a = p := hp
 subst hp
 have hobt := atL_mem (itemsL_nodup t) (itemsL_mem.2 (itemsU_file.2 (List.mem_of_getElem? he)))
 obtain ⟨k, h1, h2⟩ := hobt
 exact ⟨k, x, h1, h2, he⟩
theorem at_dir (t : s.Tree) {p : List UInt8} (hp : p ≠ []) (h : (s.dir p).isSome) : ∃ k, atL s.itemsL p = some k ∧ s.itemsL[k]? = some (p, true, []) := by
 exact atL_mem (itemsL_nodup t) (itemsL_mem.2 (itemsU_dir.2 ⟨hp, rfl, dir_mem.1 h⟩))
theorem at_none (t : s.Tree) {p : List UInt8} (hf : s.file p = none) (hd : s.dir p = none) : atL s.itemsL p = none := by
 cases h : atL s.itemsL p with
 | none => rfl
 | some k =>
  have hobt := atL_get h
  obtain ⟨⟨d, x⟩, hx⟩ := hobt
  have hm := itemsL_mem.1 (List.mem_of_getElem? hx)
  cases d with
  | false =>
   have hobt := List.mem_iff_getElem?.1 (itemsU_file.1 hm)
   obtain ⟨i, hi⟩ := hobt
   have := (find_nodup t.ndF).2 ⟨(p, x), hi, rfl⟩
   unfold VS.file at hf
   rw [hf] at this
   cases this
  | true =>
   have := dir_mem.2 (itemsU_dir.1 hm).2.2
   rw [hd] at this
   cases this
/-- A handle that is open, and its file. -/
theorem isH_at (sn : s.Sane) (t : s.Tree) {h : Int} {i pl mo : Nat} (hi : s.is h = some (i, pl, mo)) : ∃ k p x, s.F[i]? = some (p, x) ∧ s.pth i = p ∧ s.data i = x ∧ s.len i = x.length ∧ atL s.itemsL p = some k ∧ s.itemsL[k]? = some (p, false, x) ∧ p ≠ [] := by
 have hm : some (i, pl, mo) ∈ s.H := by
  unfold VS.is at hi
  split at hi
  ·cases h2 : s.H[h.toNat]? with
   | none => rw [h2] at hi; cases hi
   | some o =>
    rw [h2] at hi
    have : o = some (i, pl, mo) := hi
    rw [← this]
    exact List.mem_of_getElem? h2
  ·cases hi
 have hlt := sn.fi i pl mo hm
 obtain ⟨⟨p, x⟩, hF⟩ : ∃ e, s.F[i]? = some e := ⟨_, List.getElem?_eq_getElem hlt⟩
 have hobt := atL_mem (itemsL_nodup t) (itemsL_mem.2 (itemsU_file.2 (List.mem_of_getElem? hF)))
 obtain ⟨k, h1, h2⟩ := hobt
 refine ⟨k, p, x, hF, by unfold VS.pth; rw [hF]; rfl, by unfold VS.data; rw [hF]; rfl, by unfold VS.len; rw [hF]; rfl, h1, h2, t.nz _ (List.mem_of_getElem? hF)⟩
theorem hv_is {h : Nat} : s.is (h : Int) = none ∧ (s.H.length ≤ h ∨ (hv s)[h]? = some none) ∨ ∃ i pl mo, s.is (h : Int) = some (i, pl, mo) ∧ (hv s)[h]? = some (some (s.pth i, pl, mo)) ∧ s.H[h]? = some (some (i, pl, mo)) := by
 have e : s.is (h : Int) = (s.H[h]?).join := by
  unfold VS.is
  rw [if_pos (Int.natCast_nonneg h), Int.toNat_natCast]
 have e2 : (hv s)[h]? = (s.H[h]?).map (Option.map fun h => (s.pth h.1, h.2.1, h.2.2)) := by rw [hv, List.getElem?_map]
 rw [e, e2]
 cases h2 : s.H[h]? with
 | none => exact .inl ⟨rfl, .inl (List.getElem?_eq_none_iff.1 h2)⟩
 | some o =>
  cases o with
  | none => exact .inl ⟨rfl, .inr rfl⟩
  | some x =>
   obtain ⟨i, pl, mo⟩ := x
   exact .inr ⟨i, pl, mo, rfl, rfl, rfl⟩
theorem hv_len : (hv s).length = s.H.length := by rw [hv, List.length_map]
end
end Go.Gx
/-! Vq2 -/
namespace Go.Gx
open Go.Proofs Go.Proofs.Tryz Go.RowKit
set_option maxRecDepth 100000
/-- A handle of the document's, as cells. -/
def hC (h : Option (List UInt8 × Nat × Nat)) : List Value := match h with
 | none => [.bool false, str [], .int .i64 0, .int .i64 0]
 | some (p, a, m) => [.bool true, str p, .int .i64 (a : Nat), .int .i64 (m : Nat)]
def hsC (H : List (Option (List UInt8 × Nat × Nat))) : List Value := H.flatMap hC
theorem hC_len (h : Option (List UInt8 × Nat × Nat)) : (hC h).length = 4 := by
 cases h <;> rfl
theorem hsC_len (H : List (Option (List UInt8 × Nat × Nat))) : (hsC H).length = H.length * 4 := by
 induction H with
 | nil => rfl
 | cons a H ih =>
  rw [hsC] at ih
  rw [hsC, List.flatMap_cons, List.length_append, ih, hC_len, List.length_cons]
  omega
theorem hsC_get {H : List (Option (List UInt8 × Nat × Nat))} {X : List Value} {i j : Nat} {h : Option (List UInt8 × Nat × Nat)} (hi : H[i]? = some h) (hj : j < 4) : (hsC H ++ X)[0 + i * 4 + j]? = (hC h)[j]? := by
 induction H generalizing i with
 | nil => simp at hi
 | cons a H ih =>
  have ha := hC_len a
  cases i with
  | zero =>
   have : a = h := by simpa using hi
   subst this
   rw [hsC, List.flatMap_cons, List.append_assoc, List.getElem?_append_left (by omega)]
   congr 1
   omega
  | succ i =>
   have h2 := ih (i := i) (by simpa using hi)
   rw [hsC] at h2
   rw [hsC, List.flatMap_cons, List.append_assoc, List.getElem?_append_right (by omega), ha, ← h2]
   congr 1
   omega
def rO (u uh : Value) (a b c : Int) : Obj := blk 34 [u, uh, .int .i64 a, .int .i64 b, .int .i64 c]
/-- The document's files at bg, opened: they stand for s. -/
structure ROpen (bg : Nat) (s : VS) (A : List (Nat × Obj)) (u uh : Value) (R : List RowI) (Lu Lh : List (Nat × Obj)) : Prop where
 own : OwnSl 56 3 u R.length (rowsI R) Lu
 data : ∀ r ∈ R, OwnSl 5 1 r.v r.x.length (u8s r.x) r.Lv
 abs : absR R = s.itemsL
 oh : OwnSl 115 4 uh (hv s).length (hsC (hv s)) Lh
 A : A = (bg, rO u uh s.qb s.qf s.qo) :: (Lu ++ (Lh ++ R.flatMap (·.Lv)))
def RRep (bg : Nat) (s : VS) (A : List (Nat × Obj)) : Prop := ∃ u uh R Lu Lh, ROpen bg s A u uh R Lu Lh
section
variable {bg : Nat} {s : VS} {A Lu Lh : List (Nat × Obj)} {u uh : Value} {R : List RowI} {w0 : World}
theorem ROpen.fs (o : ROpen bg s A u uh R Lu Lh) {w : World} (hw : ∀ p ∈ A, w.heap[p.1]? = some p.2) : w.heap[bg]? = some (rO u uh s.qb s.qf s.qo) := hw (bg, rO u uh s.qb s.qf s.qo) (by rw [o.A]; simp)
theorem ROpen.memU (o : ROpen bg s A u uh R Lu Lh) {p : Nat × Obj} (h : p ∈ Lu) : p ∈ A := by rw [o.A]; simp [h]
theorem ROpen.memH (o : ROpen bg s A u uh R Lu Lh) {p : Nat × Obj} (h : p ∈ Lh) : p ∈ A := by rw [o.A]; simp [h]
theorem ROpen.memD (o : ROpen bg s A u uh R Lu Lh) {r : RowI} (hr : r ∈ R) {p : Nat × Obj} (h : p ∈ r.Lv) : p ∈ A := by
 rw [o.A]
 exact List.mem_cons_of_mem _ (List.mem_append_right _ (List.mem_append_right _ (List.mem_flatMap.2 ⟨r, hr, h⟩)))
theorem ROpen.len (o : ROpen bg s A u uh R Lu Lh) : R.length = s.itemsL.length := by
 have := congrArg List.length o.abs
 rwa [absR, List.length_map] at this
theorem ROpen.row (o : ROpen bg s A u uh R Lu Lh) {k : Nat} {x : Tri} (h : s.itemsL[k]? = some x) : ∃ r, R[k]? = some r ∧ r.p = x.1 ∧ r.d = x.2.1 ∧ r.x = x.2.2 := by
 rw [← o.abs, absR, List.getElem?_map] at h
 cases hr : R[k]? with
 | none => rw [hr] at h; cases h
 | some r =>
  rw [hr] at h
  have : (r.p, r.d, r.x) = x := Option.some.inj h
  subst this
  exact ⟨r, rfl, rfl, rfl, rfl⟩
theorem ROpen.cells (o : ROpen bg s A u uh R Lu Lh) {k : Nat} {r : RowI} (hr : R[k]? = some r) : ∃ b c, u = .slice (some ⟨b, 0, none⟩) R.length c ∧ ∀ {w : World}, (∀ p ∈ A, w.heap[p.1]? = some p.2) → At w b (0 + k * 3) r.enc := by
 have hlt := (List.getElem?_eq_some_iff.1 hr).1
 have hobt := o.own.some1 (by omega)
 obtain ⟨b, c, more, hq, hL, hc⟩ := hobt
 refine ⟨b, c, hq, fun {w} hw => ?_⟩
 have hb : w.heap[b]? = some (blk 56 (rowsI R ++ more)) := hw (b, blk 56 (rowsI R ++ more)) (o.memU (by rw [hL]; simp))
 exact rowsI_blk (b := b) (A := [(b, blk 56 (rowsI R ++ more))]) (T := 56) (more := more) (Step.start (L := [(b, blk 56 (rowsI R ++ more))]) (w := w) (by simp) (fun p hp => by rw [List.mem_singleton.1 hp]; exact hb)) (by simp) hr
theorem ROpen.hcells (o : ROpen bg s A u uh R Lu Lh) {k : Nat} {h : Option (List UInt8 × Nat × Nat)} (hk : (hv s)[k]? = some h) : ∃ b c, uh = .slice (some ⟨b, 0, none⟩) (hv s).length c ∧ ∀ {w : World} {j : Nat} {v : Value}, (∀ p ∈ A, w.heap[p.1]? = some p.2) → j < 4 → (hC h)[j]? = some v → w.cell? ⟨b, 0 + k * 4 + j, none⟩ = some v := by
 have hlt := (List.getElem?_eq_some_iff.1 hk).1
 have hobt := o.oh.some1 (by omega)
 obtain ⟨b, c, more, hq, hL, hc⟩ := hobt
 refine ⟨b, c, hq, fun {w j v} hw hj hv' => ?_⟩
 have hb : w.heap[b]? = some (blk 115 (hsC (hv s) ++ more)) := hw (b, blk 115 (hsC (hv s) ++ more)) (o.memH (by rw [hL]; simp))
 rw [cell_blk hb, hsC_get hk hj, hv']
theorem ROpen.rlen (o : ROpen bg s A u uh R Lu Lh) (ok : s.Ok) {r : RowI} (hr : r ∈ R) : r.x.length ≤ 1048576 := by
 refine itemsL_x ok (r.p, r.d, r.x) ?_
 rw [← o.abs]
 exact List.mem_map.2 ⟨r, hr, rfl⟩
set_option maxHeartbeats 2000000 in
theorem rat_spec (o : ROpen bg s A u uh R Lu Lh) (sn : s.Sane) (hw : ∀ p ∈ A, w0.heap[p.1]? = some p.2) {p : List UInt8} : Calls Tryz.prog 60 #[.pointer (some ⟨bg, 0, none⟩), str p] w0 (Ret0 (.int .i64 (atI s.itemsL p)) w0) := by
 have hs : Step [] [] w0 w0 := Step.refl w0
 have hlw : ∀ {L : List (Nat × Obj)} {w : World}, Step [] L w0 w → ∀ p ∈ A, w.heap[p.1]? = some p.2 := fun hs p hp => hs.old (hw p hp) (by simp)
 have hln := o.len
 have hn := itemsL_n sn
 have hof := o.own.form
 obtain ⟨au, cu, hu⟩ := hof
 have hul : ∀ {L : List (Nat × Obj)} {w : World}, Step [] L w0 w → w.cell? ⟨bg, 0, none⟩ = some (.slice au R.length cu) := fun hs => by
  rw [cell_blk (o.fs (hlw hs)), ← hu]
  rfl
 refine calls (n := 26) Tryz.func60 rfl rfl rfl ?_
 refine cQ <| cR <| wa rfl <| wZ <| cQ <| cQ <| cR <| wa rfl <| wZ <| CW.block ?_
 refine CW.loop (fun m f w => ∃ i, i ≤ R.length ∧ m = R.length - i ∧ (∀ (k : Nat) x, k < i → s.itemsL[k]? = some x → x.1 ≠ p) ∧ Step [] [] w0 w ∧ Holds f [(0, .pointer (some ⟨bg, 0, none⟩)), (1, str p), (5, .int .i64 (i : Nat))]) (m := R.length) ?_ ?_
 ·exact ⟨0, by omega, rfl, fun k x h => by omega, hs, rfl, rfl, rfl, trivial⟩
 clear hs
 rintro m f w ⟨i, hi, rfl, hne, hs, hf⟩
 have hobt := hf.chain
 obtain ⟨g, rfl⟩ := hobt
 by_cases hlt : i < R.length
 ·have hobt : ∃ x, s.itemsL[i]? = some x := ⟨_, List.getElem?_eq_getElem (by omega)⟩
  obtain ⟨x, hx⟩ := hobt
  have hobt := o.row hx
  obtain ⟨r, hr, hrp, _, _⟩ := hobt
  have hobt := o.cells hr
  obtain ⟨b, c, huq, hcell⟩ := hobt
  have hul2 : ∀ {L : List (Nat × Obj)} {w : World}, Step [] L w0 w → w.cell? ⟨bg, 0, none⟩ = some (.slice (some ⟨b, 0, none⟩) R.length c) := fun hs => by
   rw [cell_blk (o.fs (hlw hs)), ← huq]
   rfl
  refine cQ <| cQ <| cR <| wm rfl <| wm rfl <| wn rfl rfl <| wV rfl (run_field (o' := 0) underlying34 rfl ty22 rfl rfl rfl) <| wV rfl (run_load1 ty22 rfl (hul hs)) <| wV rfl (run_lenSl underlying22 rfl) <| wV rfl (run_bT (run_lss rfl rfl) (by omega)) <| wZ ?_
  refine cC rfl (fun h => ?_) (fun h => ?_)
  ·by_cases hp : x.1 = p
   ·have hat : atI s.itemsL p = (i : Int) := atI_some (by
     unfold atL
     rw [List.findIdx?_eq_some_iff_getElem]
     have hobt := List.getElem?_eq_some_iff.1 hx
     obtain ⟨h1, h2⟩ := hobt
     refine ⟨h1, by rw [h2]; exact decide_eq_true hp, fun j hj => ?_⟩
     have := hne j _ hj (List.getElem?_eq_getElem (by omega))
     simpa using this)
    repeat (first | refine cQ ?_ | refine CW.block ?_ | refine cK ?_)
    refine cR <| wm rfl <| wn rfl rfl <| wV rfl (run_field (o' := 0) underlying34 rfl ty22 rfl rfl rfl) <| wV rfl (run_load1 ty22 rfl (hul2 hs)) <| wm rfl <| wV rfl (run_ixSlN underlying22 ty56 rfl rfl (by omega)) <| wV rfl (run_field (o' := 0) underlying56 rfl ty9 rfl rfl rfl) <| wV rfl (run_load1 ty9 rfl (((hcell (hlw hs)).cell (j := 0) (v := str x.1) (by rw [← hrp]; rfl)))) <| wm rfl <| wV rfl (run_bT (run_strEq rfl rfl) (by exact hp)) <| wZ ?_
    refine cC rfl (fun h => ?_) (fun h => ?_)
    ·refine cQ <| cR <| wm rfl <| wa rfl <| wZ ?_
     refine CW.ret ?_
     refine fin_ret1 rfl ?_
     exact ⟨congrArg (fun z => Ending.returned (.int .i64 z)) hat.symm, hs⟩
    ·cases h
   ·repeat (first | refine cQ ?_ | refine CW.block ?_ | refine cK ?_)
    refine cR <| wm rfl <| wn rfl rfl <| wV rfl (run_field (o' := 0) underlying34 rfl ty22 rfl rfl rfl) <| wV rfl (run_load1 ty22 rfl (hul2 hs)) <| wm rfl <| wV rfl (run_ixSlN underlying22 ty56 rfl rfl (by omega)) <| wV rfl (run_field (o' := 0) underlying56 rfl ty9 rfl rfl rfl) <| wV rfl (run_load1 ty9 rfl (((hcell (hlw hs)).cell (j := 0) (v := str x.1) (by rw [← hrp]; rfl)))) <| wm rfl <| wV rfl (run_bF (run_strEq rfl rfl) (by exact hp)) <| wZ ?_
    refine cC rfl (fun h => ?_) (fun h => ?_)
    ·cases h
    refine cK <| cR <| wm rfl <| wV rfl (run_add (c := ((i + 1 : Nat) : Int)) rfl rfl (by omega) (by omega)) <| wa rfl <| wZ ?_
    refine (show _ ∧ _ from ⟨rfl, _, ?_, i + 1, by omega, rfl, fun k y hk hy => ?_, hs, rfl, rfl, rfl, trivial⟩)
    ·omega
    ·by_cases hki : k = i
     ·subst hki
      rw [hx] at hy
      rw [← Option.some.inj hy]
      exact hp
     ·exact hne k y (by omega) hy
  ·cases h
 ·have hat : atI s.itemsL p = -1 := atI_none (by
   unfold atL
   rw [List.findIdx?_eq_none_iff]
   intro x hx
   have hobt := List.mem_iff_getElem?.1 hx
   obtain ⟨k, hk⟩ := hobt
   have h1 := (List.getElem?_eq_some_iff.1 hk).1
   have := hne k x (by omega) hk
   simpa using this)
  refine cQ <| cQ <| cR <| wm rfl <| wm rfl <| wn rfl rfl <| wV rfl (run_field (o' := 0) underlying34 rfl ty22 rfl rfl rfl) <| wV rfl (run_load1 ty22 rfl (hul hs)) <| wV rfl (run_lenSl underlying22 rfl) <| wV rfl (run_bF (run_lss rfl rfl) (by omega)) <| wZ ?_
  refine cC rfl (fun h => ?_) (fun h => ?_)
  ·cases h
  repeat (first | refine cQ ?_ | refine CW.exit ?_)
  refine cR <| wa rfl <| wZ ?_
  refine CW.ret ?_
  refine fin_ret1 rfl ?_
  exact ⟨congrArg (fun z => Ending.returned (.int .i64 z)) hat.symm, hs⟩
set_option maxHeartbeats 2000000 in
theorem ris_spec (o : ROpen bg s A u uh R Lu Lh) (sn : s.Sane) (hw : ∀ p ∈ A, w0.heap[p.1]? = some p.2) {h : Int} : Calls Tryz.prog 66 #[.pointer (some ⟨bg, 0, none⟩), .int .i64 h] w0 (Ret0 (.bool (s.is h).isSome) w0) := by
 have hs : Step [] [] w0 w0 := Step.refl w0
 have hlw : ∀ {L : List (Nat × Obj)} {w : World}, Step [] L w0 w → ∀ p ∈ A, w.heap[p.1]? = some p.2 := fun hs p hp => hs.old (hw p hp) (by simp)
 have hof := o.oh.form
 obtain ⟨ah, ch, hu⟩ := hof
 have hhl : ∀ {L : List (Nat × Obj)} {w : World}, Step [] L w0 w → w.cell? ⟨bg, 0 + 1, none⟩ = some (.slice ah (hv s).length ch) := fun hs => by
  rw [cell_blk (o.fs (hlw hs)), ← hu]
  rfl
 have hvl := hv_len (s := s)
 have hl64 := sn.hl
 by_cases h0 : h < 0
 ·have e : false = (s.is h).isSome := by
   unfold VS.is
   rw [if_neg (by omega)]
   rfl
  refine calls (n := 26) Tryz.func66 rfl rfl rfl ?_
  refine cQ <| cR <| wa rfl <| wZ <| cQ <| cR <| wm rfl <| wV rfl (run_bF (run_geq rfl rfl) (by omega)) <| wm rfl <| WL.no rfl rfl rfl (.inl rfl) <| WL.no rfl rfl rfl (.inl rfl) <| WL.no rfl rfl rfl (.inl rfl) <| WL.no rfl rfl rfl (.inl rfl) <| WL.no rfl rfl rfl (.inl rfl) <| WL.no rfl rfl rfl (.inl rfl) <| WL.no rfl rfl rfl (.inl rfl) <| wV rfl (run_pickF rfl) <| wm rfl <| WL.no rfl rfl rfl (.inl rfl) <| WL.no rfl rfl rfl (.inl rfl) <| WL.no rfl rfl rfl (.inl rfl) <| WL.no rfl rfl rfl (.inl rfl) <| WL.no rfl rfl rfl (.inl rfl) <| WL.no rfl rfl rfl (.inl rfl) <| WL.no rfl rfl rfl (.inl rfl) <| WL.no rfl rfl rfl (.inl rfl) <| wV rfl (run_pickF rfl) <| wa rfl <| wZ ?_
  refine CW.ret ?_
  refine fin_ret1 rfl ?_
  exact ⟨congrArg (fun z => Ending.returned (.bool z)) e, hs⟩
 have hobt : ∃ n : Nat, h = n := ⟨h.toNat, by omega⟩
 obtain ⟨n, rfl⟩ := hobt
 by_cases hlt : n < (hv s).length
 ·have hobt : ∃ x, (hv s)[n]? = some x := ⟨_, List.getElem?_eq_getElem hlt⟩
  obtain ⟨x, hx⟩ := hobt
  have hobt := o.hcells hx
  obtain ⟨b, c, huq, hcell⟩ := hobt
  have hhl2 : ∀ {L : List (Nat × Obj)} {w : World}, Step [] L w0 w → w.cell? ⟨bg, 0 + 1, none⟩ = some (.slice (some ⟨b, 0, none⟩) (hv s).length c) := fun hs => by
   rw [cell_blk (o.fs (hlw hs)), ← huq]
   rfl
  have e : x.isSome = (s.is (n : Int)).isSome := by
   rcases hv_is (s := s) (h := n) with ⟨h1, h2 | h2⟩ | ⟨i, pl, mo, h1, h2, _⟩
   ·omega
   ·rw [h1]; rw [hx] at h2; rw [Option.some.inj h2]; rfl
   ·rw [h1]; rw [hx] at h2; rw [Option.some.inj h2]; rfl
  have hxc : (hC x)[0]? = some (.bool x.isSome) := by
   cases x <;> rfl
  refine calls (n := 26) Tryz.func66 rfl rfl rfl ?_
  refine cQ <| cR <| wa rfl <| wZ <| cQ <| cR <| wm rfl <| wV rfl (run_bT (run_geq rfl rfl) (by omega)) <| wm rfl <| WL.yes rfl rfl rfl <| wm rfl <| WL.yes rfl rfl rfl <| wm rfl <| WL.yes rfl rfl rfl <| wn rfl rfl <| WL.yes rfl rfl rfl <| wV rfl (run_field (o' := 1) underlying34 rfl ty32 rfl rfl rfl) <| WL.yes rfl rfl rfl <| wV rfl (run_load1 ty32 rfl (hhl hs)) <| WL.yes rfl rfl rfl <| wV rfl (run_lenSl underlying32 rfl) <| WL.yes rfl rfl rfl <| wV rfl (run_bT (run_lss rfl rfl) (by omega)) <| wV rfl (run_pickT rfl) <| wm rfl <| WL.yes rfl rfl rfl <| wm rfl ?_
  refine WL.yes rfl rfl rfl <| wn rfl rfl <| WL.yes rfl rfl rfl <| wV rfl (run_field (o' := 1) underlying34 rfl ty32 rfl rfl rfl) <| WL.yes rfl rfl rfl <| wV rfl (run_load1 ty32 rfl (hhl2 hs)) <| WL.yes rfl rfl rfl <| wm rfl ?_
  refine WL.yes rfl rfl rfl ?_; (first | refine wV rfl (run_ixSlN underlying32 ty115 rfl rfl (by omega)) ?_ | refine wV rfl (run_ixSl underlying32 ty115 rfl rfl (by omega)) ?_)
  refine WL.yes rfl rfl rfl <| wV rfl (run_field (o' := 0) underlying115 rfl ty4 rfl rfl rfl) <| WL.yes rfl rfl rfl <| wV rfl (run_load1 ty4 rfl ((hcell (j := 0) (hlw hs) (by omega) hxc))) <| wV rfl (run_pickT rfl) <| wa rfl <| wZ ?_
  refine CW.ret ?_
  refine fin_ret1 rfl ?_
  exact ⟨congrArg (fun z => Ending.returned (.bool z)) e, hs⟩
 ·have e : false = (s.is (n : Int)).isSome := by
   rcases hv_is (s := s) (h := n) with ⟨h1, _⟩ | ⟨i, pl, mo, h1, h2, _⟩
   ·rw [h1]; rfl
   ·have := (List.getElem?_eq_some_iff.1 h2).1
    omega
  refine calls (n := 26) Tryz.func66 rfl rfl rfl ?_
  refine cQ <| cR <| wa rfl <| wZ <| cQ <| cR <| wm rfl <| wV rfl (run_bT (run_geq rfl rfl) (by omega)) <| wm rfl <| WL.yes rfl rfl rfl <| wm rfl <| WL.yes rfl rfl rfl <| wm rfl <| WL.yes rfl rfl rfl <| wn rfl rfl <| WL.yes rfl rfl rfl <| wV rfl (run_field (o' := 1) underlying34 rfl ty32 rfl rfl rfl) <| WL.yes rfl rfl rfl <| wV rfl (run_load1 ty32 rfl (hhl hs)) <| WL.yes rfl rfl rfl <| wV rfl (run_lenSl underlying32 rfl) <| WL.yes rfl rfl rfl <| wV rfl (run_bF (run_lss rfl rfl) (by omega)) <| wV rfl (run_pickT rfl) <| wm rfl <| WL.no rfl rfl rfl (.inl rfl) <| WL.no rfl rfl rfl (.inl rfl) <| WL.no rfl rfl rfl (.inl rfl) <| WL.no rfl rfl rfl (.inl rfl) <| WL.no rfl rfl rfl (.inl rfl) <| WL.no rfl rfl rfl (.inl rfl) <| WL.no rfl rfl rfl (.inl rfl) <| WL.no rfl rfl rfl (.inl rfl) <| wV rfl (run_pickF rfl) <| wa rfl <| wZ ?_
  refine CW.ret ?_
  refine fin_ret1 rfl ?_
  exact ⟨congrArg (fun z => Ending.returned (.bool z)) e, hs⟩
/-- What an open handle's file is, in the document's files. -/
theorem ROpen.handle (o : ROpen bg s A u uh R Lu Lh) (sn : s.Sane) (t : s.Tree) {n i pl mo : Nat} (hi : s.is (n : Int) = some (i, pl, mo)) : ∃ k r b c, s.F[i]? = some (r.p, r.x) ∧ s.pth i = r.p ∧ s.data i = r.x ∧ s.len i = r.x.length ∧ atI s.itemsL r.p = (k : Nat) ∧ R[k]? = some r ∧ s.itemsL[k]? = some (r.p, false, r.x) ∧ r.d = false ∧ uh = .slice (some ⟨b, 0, none⟩) (hv s).length c ∧ n < (hv s).length ∧ s.H[n]? = some (some (i, pl, mo)) ∧ (hv s)[n]? = some (some (r.p, pl, mo)) ∧ ∀ {w : World} {j : Nat} {v : Value}, (∀ p ∈ A, w.heap[p.1]? = some p.2) → j < 4 → (hC (some (r.p, pl, mo)))[j]? = some v → w.cell? ⟨b, 0 + n * 4 + j, none⟩ = some v := by
 have hobt := isH_at sn t hi
 obtain ⟨k, p, x, h1, h2, h3, h4, h5, h6, h7⟩ := hobt
 have hobt := o.row h6
 obtain ⟨r, hr, hrp, hrd, hrx⟩ := hobt
 have hrp : r.p = p := hrp
 have hrx : r.x = x := hrx
 rcases hv_is (s := s) (h := n) with ⟨g1, _⟩ | ⟨i', pl', mo', g1, g2, g3⟩
 ·rw [hi] at g1; cases g1
 rw [hi] at g1
 obtain ⟨rfl, rfl, rfl⟩ : i = i' ∧ pl = pl' ∧ mo = mo' := by
  injection g1 with g1
  injection g1 with g4 g5
  injection g5 with g5 g6
  exact ⟨g4, g5, g6⟩
 rw [h2] at g2
 have hobt := o.hcells g2
 obtain ⟨b, c, huq, hcell⟩ := hobt
 refine ⟨k, r, b, c, by rw [hrp, hrx]; exact h1, by rw [hrp]; exact h2, by rw [hrx]; exact h3, by rw [hrx]; exact h4, by rw [hrp]; exact atI_some h5, hr, by rw [hrp, hrx]; exact h6, hrd, huq, (List.getElem?_eq_some_iff.1 g2).1, g3, by rw [hrp]; exact g2, ?_⟩
 rw [hrp]
 exact hcell
set_option maxHeartbeats 2000000 in
theorem rdata_spec (o : ROpen bg s A u uh R Lu Lh) (sn : s.Sane) (t : s.Tree) {n i pl mo : Nat} (hi : s.is (n : Int) = some (i, pl, mo)) : ∃ r, r ∈ R ∧ s.data i = r.x ∧ s.len i = r.x.length ∧ ∀ {w0 : World}, (∀ p ∈ A, w0.heap[p.1]? = some p.2) → Calls Tryz.prog 64 #[.pointer (some ⟨bg, 0, none⟩), .int .i64 (n : Nat)] w0 (Ret0 r.v w0) := by
 have hobt := o.handle sn t hi
 obtain ⟨k, r, b, c, hF, hp, hd, hl, hat, hr, hx, hrd, huq, hnl, hH, hhv, hcell⟩ := hobt
 refine ⟨r, List.mem_of_getElem? hr, hd, hl, fun {w0} hw => ?_⟩
 have hs : Step [] [] w0 w0 := Step.refl w0
 have hlw : ∀ {L : List (Nat × Obj)} {w : World}, Step [] L w0 w → ∀ p ∈ A, w.heap[p.1]? = some p.2 := fun hs p hp => hs.old (hw p hp) (by simp)
 have hhl2 : ∀ {L : List (Nat × Obj)} {w : World}, Step [] L w0 w → w.cell? ⟨bg, 0 + 1, none⟩ = some (.slice (some ⟨b, 0, none⟩) (hv s).length c) := fun hs => by
  rw [cell_blk (o.fs (hlw hs)), ← huq]
  rfl
 have hobt := o.cells hr
 obtain ⟨bu, cu, huu, hrow⟩ := hobt
 have hul2 : ∀ {L : List (Nat × Obj)} {w : World}, Step [] L w0 w → w.cell? ⟨bg, 0, none⟩ = some (.slice (some ⟨bu, 0, none⟩) R.length cu) := fun hs => by
  rw [cell_blk (o.fs (hlw hs)), ← huu]
  rfl
 have hkl := (List.getElem?_eq_some_iff.1 hr).1
 have hat2 := fun {L w} (hs : Step [] L w0 w) => rat_spec (p := r.p) o sn (hlw hs)
 simp only [hat] at hat2
 refine calls (n := 22) Tryz.func64 rfl rfl rfl ?_
 refine cQ <| cR <| wa rfl <| wZ <| cQ ?_
 refine CW.quiet mixedP (by kernel_rfl) hs ?_
 refine qm rfl <| qn rfl rfl <| qV rfl (fun w hs => run_field (o' := 0) underlying34 rfl ty22 rfl rfl rfl) <| qV rfl (fun w hs => run_load1 ty22 rfl (hul2 hs)) <| qm rfl <| qm rfl <| qn rfl rfl <| qV rfl (fun w hs => run_field (o' := 1) underlying34 rfl ty32 rfl rfl rfl) <| qV rfl (fun w hs => run_load1 ty32 rfl (hhl2 hs)) <| qm rfl <| qV rfl (fun w hs => run_ixSlN underlying32 ty115 rfl rfl (by omega)) <| qV rfl (fun w hs => run_field (o' := 1) underlying115 rfl ty9 rfl rfl rfl) <| qV rfl (fun w hs => run_load1 ty9 rfl ((hcell (j := 1) (hlw hs) (by omega) rfl))) ?_
 refine QL.enter rfl (fun w => run_call en60 rfl rfl) (fun w hs => hat2 hs) ?_
 refine qV rfl (fun w hs => run_ixSlN underlying22 ty56 rfl rfl (by omega)) <| qV rfl (fun w hs => run_field (o' := 2) underlying56 rfl ty38 rfl rfl rfl) <| qV rfl (fun w hs => run_load1 ty38 rfl (((hrow (hlw hs)).cell (j := 2) (v := r.v) rfl))) <| qV rfl (fun w hs => run_assign) ?_
 refine QL.nil (fun w hs => ?_)
 refine CW.ret ?_
 refine fin_ret1 rfl ?_
 exact ⟨rfl, hs⟩
end
end Go.Gx
/-! Vq3 -/
namespace Go.Gx
open Go.Proofs Go.Proofs.Tryz Go.RowKit
set_option maxRecDepth 100000
theorem new_quo {a b c : Int} {l : List It} (h : newE a b l = 0) : (newS a b c l).Quo ∧ (newS a b c l).H = [] ∧ (newS a b c l).qb = min a 67108864 ∧ (newS a b c l).qf = min b 65535 ∧ (newS a b c l).qo = min c 64 := by
 have hE : chkE l = 0 := by
  unfold newE at h
  split at h
  ·rename_i h1; exact absurd h h1
  ·rename_i h1; exact Classical.byContradiction h1
 have hobt := chkE_go hE
 obtain ⟨h1, ⟨D, hD⟩, h3⟩ := hobt
 have hobt := chk_fold l (newV a b c) none 0 D hD (newV_inv a b c)
 obtain ⟨⟨q, v⟩, hby⟩ := hobt
 have hobt := foldIt_q l (newV a b c)
 obtain ⟨q1, q2, q3⟩ := hobt
 have e1 : (newS a b c l).qb = min a 67108864 := q1
 have e2 : (newS a b c l).qf = min b 65535 := q2
 have e3 : (newS a b c l).qo = min c 64 := q3
 have e4 : (newS a b c l).by_ = 0 + sumL l := hby
 have v : NInv (newS a b c l) q (0 + l.length) := v
 have hlen := v.len
 unfold newE at h
 rw [if_neg (fun h => h hE)] at h
 split at h
 ·cases h
 ·split at h
  ·cases h
  ·refine ⟨⟨by omega, by unfold VS.items; omega, .inl v.H.2⟩, v.H.1, e1, e2, e3⟩
theorem items_len {s : VS} (sn : s.Sane) (t : s.Tree) : s.itemsL.length = s.items := by
 have h0 : s.itemsL.length = s.itemsU.length := (itemsL_perm s.itemsU).length_eq
 rw [h0]
 have h1 : ([] : List UInt8) ∈ s.D.map (·.1) := dir_mem.1 sn.root
 have h2 : ∀ l : List (List UInt8), l.Nodup → [] ∈ l → (l.filter fun p => decide (p ≠ [])).length + 1 = l.length := by
  intro l
  induction l with
  | nil => intro _ h; cases h
  | cons a l ih =>
   intro hn h
   rw [List.nodup_cons] at hn
   rw [List.filter_cons]
   by_cases ha : a = []
   ·subst ha
    have h3 : l.filter (fun p => decide (p ≠ [])) = l := List.filter_eq_self.2 fun x hx => by
     have : x ≠ [] := fun e => hn.1 (e ▸ hx)
     simpa using this
    rw [if_neg (by simp), h3, List.length_cons]
   ·rw [if_pos (by simp [ha]), List.length_cons, List.length_cons, ih hn.2 ((List.mem_cons.1 h).resolve_left fun e => ha e.symm)]
 have h3 := h2 _ t.ndD h1
 rw [List.length_map] at h3
 unfold VS.itemsU VS.items
 rw [List.length_append, List.length_map, List.length_map]
 omega
theorem items_sum {s : VS} (sn : s.Sane) : (s.itemsL.map (·.2.2.length)).sum = s.by_ := by
 have h1 : (s.itemsL.map (·.2.2.length)).sum = (s.itemsU.map (·.2.2.length)).sum := ((itemsL_perm s.itemsU).map _).sum_nat
 rw [h1]
 unfold VS.itemsU
 rw [List.map_append, List.sum_append, List.map_map, List.map_map]
 have h2 : (List.map ((fun x : Tri => x.2.2.length) ∘ fun p => (p, true, [])) ((s.D.map (·.1)).filter fun p => decide (p ≠ []))).sum = 0 := by
  generalize (s.D.map (·.1)).filter (fun p => decide (p ≠ [])) = l
  induction l with
  | nil => rfl
  | cons a l ih => rw [List.map_cons, List.sum_cons, ih]; rfl
 have h3 : (List.map ((fun x : Tri => x.2.2.length) ∘ fun e => (e.1, false, e.2)) s.F).sum = s.by_ := sn.sum.symm
 rw [h2, h3]
 omega
theorem op_hv {s : VS} (sn : s.Sane) : s.op = ((hv s).filter Option.isSome).length := by
 have h : ∀ l : List (Option (Nat × Nat × Nat)), (l.filter Option.isSome).length = ((l.map (Option.map fun h : Nat × Nat × Nat => (s.pth h.1, h.2.1, h.2.2))).filter Option.isSome).length := by
  intro l
  induction l with
  | nil => rfl
  | cons a l ih =>
   cases a with
   | none => simpa using ih
   | some x => simpa using ih
 rw [sn.op, hv]
 exact h _
theorem take_filt {α : Type} {l : List (Option α)} {i : Nat} {x : Option α} (h : l[i]? = some x) : ((l.take (i + 1)).filter Option.isSome).length = ((l.take i).filter Option.isSome).length + (if x.isSome = true then 1 else 0) := by
 have hobt := List.getElem?_eq_some_iff.1 h
 obtain ⟨h1, h2⟩ := hobt
 rw [← List.take_append_getElem h1, h2, List.filter_append, List.length_append]
 cases x <;> rfl
section
variable {bg : Nat} {s : VS} {A Lu Lh : List (Nat × Obj)} {u uh : Value} {R : List RowI} {w0 : World}
theorem ROpen.sumR (o : ROpen bg s A u uh R Lu Lh) (sn : s.Sane) : (R.map fun r => r.x.length).sum = s.by_ := by
 rw [← items_sum sn, ← o.abs, absR, List.map_map]
 rfl
set_option maxHeartbeats 2000000 in
theorem rbytes2_spec (o : ROpen bg s A u uh R Lu Lh) (sn : s.Sane) (hw : ∀ p ∈ A, w0.heap[p.1]? = some p.2) : Calls Tryz.prog 25 #[.pointer (some ⟨bg, 0, none⟩)] w0 (Ret0 (.int .i64 (s.by_ : Nat)) w0) := by
 have hs : Step [] [] w0 w0 := Step.refl w0
 have hlw : ∀ {L : List (Nat × Obj)} {w : World}, Step [] L w0 w → ∀ p ∈ A, w.heap[p.1]? = some p.2 := fun hs p hp => hs.old (hw p hp) (by simp)
 have hln := o.len
 have hn := itemsL_n sn
 have hsR := o.sumR sn
 have hof := o.own.form
 obtain ⟨au, cu, hu⟩ := hof
 have hul : ∀ {L : List (Nat × Obj)} {w : World}, Step [] L w0 w → w.cell? ⟨bg, 0, none⟩ = some (.slice au R.length cu) := fun hs => by
  rw [cell_blk (o.fs (hlw hs)), ← hu]
  rfl
 refine calls (n := 26) Tryz.func25 rfl rfl rfl ?_
 refine cQ <| cR <| wa rfl <| wZ <| cQ <| cR <| wa rfl <| wZ <| cQ <| cQ <| cR <| wa rfl <| wZ <| CW.block ?_
 refine CW.loop (fun m f w => ∃ i, i ≤ R.length ∧ m = R.length - i ∧ Step [] [] w0 w ∧ ((R.take i).map fun r => r.x.length).sum ≤ i * 1048576 ∧ Holds f [(0, .pointer (some ⟨bg, 0, none⟩)), (3, .int .i64 (((R.take i).map fun r => r.x.length).sum : Nat)), (4, .int .i64 (i : Nat))]) (m := R.length) ?_ ?_
 ·exact ⟨0, by omega, rfl, hs, by simp, rfl, rfl, rfl, trivial⟩
 clear hs
 rintro m f w ⟨i, hi, rfl, hs, hsum, hf⟩
 have hobt := hf.chain
 obtain ⟨g, rfl⟩ := hobt
 by_cases hlt : i < R.length
 ·have hobt : ∃ r, R[i]? = some r := ⟨_, List.getElem?_eq_getElem hlt⟩
  obtain ⟨r, hr⟩ := hobt
  have hrx := o.rlen sn.ok (List.mem_of_getElem? hr)
  have hobt := (o.data r (List.mem_of_getElem? hr)).form
  obtain ⟨av, cv, hv⟩ := hobt
  have hobt := o.cells hr
  obtain ⟨b, c, huq, hcell⟩ := hobt
  have hul2 : ∀ {L : List (Nat × Obj)} {w : World}, Step [] L w0 w → w.cell? ⟨bg, 0, none⟩ = some (.slice (some ⟨b, 0, none⟩) R.length c) := fun hs => by
   rw [cell_blk (o.fs (hlw hs)), ← huq]
   rfl
  have hev : r.enc[2]? = some (.slice av r.x.length cv) := by show some r.v = _; rw [hv]
  have hst : ((R.take (i + 1)).map fun r => r.x.length).sum = ((R.take i).map fun r => r.x.length).sum + r.x.length := by
   have hobt := List.getElem?_eq_some_iff.1 hr
   obtain ⟨h1, h2⟩ := hobt
   rw [← List.take_append_getElem h1, h2]
   simp
  refine cQ <| cQ <| cR <| wm rfl <| wm rfl <| wn rfl rfl <| wV rfl (run_field (o' := 0) underlying34 rfl ty22 rfl rfl rfl) <| wV rfl (run_load1 ty22 rfl (hul hs)) <| wV rfl (run_lenSl underlying22 rfl) <| wV rfl (run_bT (run_lss rfl rfl) (by omega)) <| wZ ?_
  refine cC rfl (fun h => ?_) (fun h => ?_)
  ·repeat (first | refine cQ ?_ | refine CW.block ?_ | refine cK ?_)
   refine cR <| wm rfl <| wm rfl <| wn rfl rfl <| wV rfl (run_field (o' := 0) underlying34 rfl ty22 rfl rfl rfl) <| wV rfl (run_load1 ty22 rfl (hul2 hs)) <| wm rfl <| wV rfl (run_ixSlN underlying22 ty56 rfl rfl (by omega)) <| wV rfl (run_field (o' := 2) underlying56 rfl ty38 rfl rfl rfl) <| wV rfl (run_load1 ty38 rfl (((hcell (hlw hs)).cell hev))) <| wV rfl (run_lenSl underlying38 rfl) <| wV rfl (run_add (c := ((((R.take (i + 1)).map fun r => r.x.length).sum : Nat) : Int)) rfl rfl (by omega) (by omega)) <| wa rfl <| wZ <| cR <| wm rfl <| wV rfl (run_add (c := ((i + 1 : Nat) : Int)) rfl rfl (by omega) (by omega)) <| wa rfl <| wZ ?_
   refine (show _ ∧ _ from ⟨rfl, _, ?_, i + 1, by omega, rfl, hs, by omega, rfl, rfl, rfl, trivial⟩)
   omega
  ·cases h
 ·have hv : Value.int .i64 (((R.take i).map fun r => r.x.length).sum : Nat) = .int .i64 (s.by_ : Nat) := by rw [List.take_of_length_le (by omega), hsR]
  refine cQ <| cQ <| cR <| wm rfl <| wm rfl <| wn rfl rfl <| wV rfl (run_field (o' := 0) underlying34 rfl ty22 rfl rfl rfl) <| wV rfl (run_load1 ty22 rfl (hul hs)) <| wV rfl (run_lenSl underlying22 rfl) <| wV rfl (run_bF (run_lss rfl rfl) (by omega)) <| wZ ?_
  refine cC rfl (fun h => ?_) (fun h => ?_)
  ·cases h
  repeat (first | refine cQ ?_ | refine CW.exit ?_)
  refine cR <| wm rfl <| wa rfl <| wZ ?_
  refine CW.ret ?_
  refine fin_ret1 rfl ?_
  exact ⟨congrArg Ending.returned hv, hs⟩
set_option maxHeartbeats 2000000 in
theorem ropen2_spec (o : ROpen bg s A u uh R Lu Lh) (sn : s.Sane) (hw : ∀ p ∈ A, w0.heap[p.1]? = some p.2) : Calls Tryz.prog 26 #[.pointer (some ⟨bg, 0, none⟩)] w0 (Ret0 (.int .i64 (s.op : Nat)) w0) := by
 have hs : Step [] [] w0 w0 := Step.refl w0
 have hlw : ∀ {L : List (Nat × Obj)} {w : World}, Step [] L w0 w → ∀ p ∈ A, w.heap[p.1]? = some p.2 := fun hs p hp => hs.old (hw p hp) (by simp)
 have hof := o.oh.form
 obtain ⟨ah, ch, hu⟩ := hof
 have hhl : ∀ {L : List (Nat × Obj)} {w : World}, Step [] L w0 w → w.cell? ⟨bg, 0 + 1, none⟩ = some (.slice ah (hv s).length ch) := fun hs => by
  rw [cell_blk (o.fs (hlw hs)), ← hu]
  rfl
 have hvl := hv_len (s := s)
 have hl64 := sn.hl
 have hop := op_hv sn
 have hobt : ∃ H, hv s = H := ⟨_, rfl⟩
 obtain ⟨H, hH⟩ := hobt
 rw [hH] at hhl hvl hop
 refine calls (n := 25) Tryz.func26 rfl rfl rfl ?_
 refine cQ <| cR <| wa rfl <| wZ <| cQ <| cR <| wa rfl <| wZ <| cQ <| cQ <| cR <| wa rfl <| wZ <| CW.block ?_
 refine CW.loop (fun m f w => ∃ i, i ≤ H.length ∧ m = H.length - i ∧ ((H.take i).filter Option.isSome).length ≤ i ∧ Step [] [] w0 w ∧ Holds f [(0, .pointer (some ⟨bg, 0, none⟩)), (3, .int .i64 (((H.take i).filter Option.isSome).length : Nat)), (4, .int .i64 (i : Nat))]) (m := H.length) ?_ ?_
 ·exact ⟨0, by omega, rfl, by simp, hs, rfl, rfl, rfl, trivial⟩
 clear hs
 rintro m f w ⟨i, hi, rfl, hle, hs, hf⟩
 have hobt := hf.chain
 obtain ⟨g, rfl⟩ := hobt
 by_cases hlt : i < H.length
 ·have hobt : ∃ x, H[i]? = some x := ⟨_, List.getElem?_eq_getElem hlt⟩
  obtain ⟨x, hx⟩ := hobt
  have hobt := o.hcells (show (hv s)[i]? = some x by rw [hH]; exact hx)
  obtain ⟨b, c, huq, hcell⟩ := hobt
  have hhl2 : ∀ {L : List (Nat × Obj)} {w : World}, Step [] L w0 w → w.cell? ⟨bg, 0 + 1, none⟩ = some (.slice (some ⟨b, 0, none⟩) H.length c) := fun hs => by
   rw [cell_blk (o.fs (hlw hs)), ← hH, ← huq]
   rfl
  have hxc : (hC x)[0]? = some (.bool x.isSome) := by
   cases x <;> rfl
  have hst := take_filt hx
  have hobt : ∃ b, x.isSome = b := ⟨_, rfl⟩
  obtain ⟨xb, hxb⟩ := hobt
  rw [hxb] at hxc hst
  refine cQ <| cQ <| cR <| wm rfl <| wm rfl <| wn rfl rfl <| wV rfl (run_field (o' := 1) underlying34 rfl ty32 rfl rfl rfl) <| wV rfl (run_load1 ty32 rfl (hhl hs)) <| wV rfl (run_lenSl underlying32 rfl) <| wV rfl (run_bT (run_lss rfl rfl) (by omega)) <| wZ ?_
  refine cC rfl (fun h => ?_) (fun h => ?_)
  ·cases xb with
   | true =>
    rw [if_pos rfl] at hst
    repeat (first | refine cQ ?_ | refine CW.block ?_ | refine cK ?_)
    refine cR <| wm rfl <| wn rfl rfl <| wV rfl (run_field (o' := 1) underlying34 rfl ty32 rfl rfl rfl) <| wV rfl (run_load1 ty32 rfl (hhl2 hs)) <| wm rfl <| wV rfl (run_ixSlN underlying32 ty115 rfl rfl (by omega)) <| wV rfl (run_field (o' := 0) underlying115 rfl ty4 rfl rfl rfl) <| wV rfl (run_load1 ty4 rfl ((hcell (j := 0) (hlw hs) (by omega) hxc))) <| wZ ?_
    refine cC rfl (fun h => ?_) (fun h => ?_)
    ·skip
     refine cR <| wm rfl <| wV rfl (run_add (c := ((((H.take (i + 1)).filter Option.isSome).length : Nat) : Int)) rfl rfl (by omega) (by omega)) <| wa rfl <| wZ <| cR <| wm rfl <| wV rfl (run_add (c := ((i + 1 : Nat) : Int)) rfl rfl (by omega) (by omega)) <| wa rfl <| wZ ?_
     refine (show _ ∧ _ from ⟨rfl, _, ?_, i + 1, by omega, rfl, by omega, hs, rfl, rfl, rfl, trivial⟩)
     omega
    ·cases h
   | false =>
    rw [if_neg (by simp)] at hst
    have hv2 : Value.int .i64 (((H.take i).filter Option.isSome).length : Nat) = .int .i64 (((H.take (i + 1)).filter Option.isSome).length : Nat) := by rw [hst, Nat.add_zero]
    repeat (first | refine cQ ?_ | refine CW.block ?_ | refine cK ?_)
    refine cR <| wm rfl <| wn rfl rfl <| wV rfl (run_field (o' := 1) underlying34 rfl ty32 rfl rfl rfl) <| wV rfl (run_load1 ty32 rfl (hhl2 hs)) <| wm rfl <| wV rfl (run_ixSlN underlying32 ty115 rfl rfl (by omega)) <| wV rfl (run_field (o' := 0) underlying115 rfl ty4 rfl rfl rfl) <| wV rfl (run_load1 ty4 rfl ((hcell (j := 0) (hlw hs) (by omega) hxc))) <| wZ ?_
    refine cC rfl (fun h => ?_) (fun h => ?_)
    ·cases h
    refine cK <| cR <| wm rfl <| wV rfl (run_add (c := ((i + 1 : Nat) : Int)) rfl rfl (by omega) (by omega)) <| wa rfl <| wZ ?_
    refine (show _ ∧ _ from ⟨rfl, _, ?_, i + 1, by omega, rfl, by omega, hs, rfl, hv2, rfl, trivial⟩)
    omega
  ·cases h
 ·have hv2 : Value.int .i64 (((H.take i).filter Option.isSome).length : Nat) = .int .i64 (s.op : Nat) := by rw [List.take_of_length_le (by omega), ← hop]
  refine cQ <| cQ <| cR <| wm rfl <| wm rfl <| wn rfl rfl <| wV rfl (run_field (o' := 1) underlying34 rfl ty32 rfl rfl rfl) <| wV rfl (run_load1 ty32 rfl (hhl hs)) <| wV rfl (run_lenSl underlying32 rfl) <| wV rfl (run_bF (run_lss rfl rfl) (by omega)) <| wZ ?_
  refine cC rfl (fun h => ?_) (fun h => ?_)
  ·cases h
  repeat (first | refine cQ ?_ | refine CW.exit ?_)
  refine cR <| wm rfl <| wa rfl <| wZ ?_
  refine CW.ret ?_
  refine fin_ret1 rfl ?_
  exact ⟨congrArg Ending.returned hv2, hs⟩
theorem rused2_spec (o : ROpen bg s A u uh R Lu Lh) (sn : s.Sane) (t : s.Tree) (hw : ∀ p ∈ A, w0.heap[p.1]? = some p.2) : Calls Tryz.prog 10 #[.pointer (some ⟨bg, 0, none⟩)] w0 (Ret0 (.agg (quoC (s.by_ : Nat) (s.items : Nat) (s.op : Nat)).toArray) w0) := by
 have hs : Step [] [] w0 w0 := Step.refl w0
 have hlw : ∀ {L : List (Nat × Obj)} {w : World}, Step [] L w0 w → ∀ p ∈ A, w.heap[p.1]? = some p.2 := fun hs p hp => hs.old (hw p hp) (by simp)
 have hb := fun {L w} (hs : Step [] L w0 w) => rbytes2_spec o sn (hlw hs)
 have ho := fun {L w} (hs : Step [] L w0 w) => ropen2_spec o sn (hlw hs)
 have hof := o.own.form
 obtain ⟨au, cu, hu⟩ := hof
 have hli : R.length = s.items := by rw [o.len, items_len sn t]
 rw [hli] at hu
 have hlc : ∀ {L : List (Nat × Obj)} {w : World}, Step [] L w0 w → w.cell? ⟨bg, 0, none⟩ = some (.slice au s.items cu) := fun hs => by
  rw [cell_blk (o.fs (hlw hs)), ← hu]
  rfl
 refine calls (n := 13) Tryz.func10 rfl rfl rfl ?_
 refine cQ <| cR ?_
 refine WL.alloc ty24 rfl hs (fun b2 w hs => ?_)
 refine wZ <| cQ ?_
 refine CW.any (A := fun w => Step [] [] w0 w) (C := fun w => Step [] [] w0 w) 1000000 11 mixedP rfl ?_
 replace hs := hs.drew
 refine AL.val 0 rfl (by kernel_rfl) rfl (fun w hs => run_move) ?_
 refine AL.val 2 rfl (by kernel_rfl) rfl (fun w hs => run_move) ?_
 refine AL.val 3 rfl (by kernel_rfl) rfl (fun w hs => run_nilCheck rfl) ?_
 refine AL.val 4 rfl (by kernel_rfl) rfl (fun w hs => run_field (o' := 0) underlying34 rfl ty22 rfl rfl rfl) ?_
 refine AL.val 5 rfl (by kernel_rfl) rfl (fun w hs => run_load1 ty22 rfl ((hlc hs))) ?_
 refine AL.val 6 rfl (by kernel_rfl) rfl (fun w hs => run_lenSl underlying22 rfl) ?_
 refine AL.val 7 rfl (by kernel_rfl) rfl (fun w hs => run_move) ?_
 refine AL.one 1 (by kernel_rfl) rfl (hs.clear) (hs.clear) ?_
 refine wE rfl (run_call en25 rfl rfl) (hb hs) ?_
 rintro e w ⟨rfl, hq⟩
 refine ⟨_, rfl, ?_⟩
 replace hs := hs.callE hq
 refine wZ ?_
 refine ⟨rfl, ?_⟩
 refine AL.one 8 (by kernel_rfl) rfl (hs.clear) (hs.clear) ?_
 refine wE rfl (run_call en26 rfl rfl) (ho hs) ?_
 rintro e w ⟨rfl, hq⟩
 refine ⟨_, rfl, ?_⟩
 replace hs := hs.callE hq
 refine wZ ?_
 refine ⟨rfl, ?_⟩
 refine AL.val 9 rfl (by kernel_rfl) rfl (fun w hs => run_build rfl (bld_quo _ _ _ _)) ?_
 refine AL.one 10 (by kernel_rfl) rfl (hs.clear) (hs.clear) ?_
 refine WL.storeAll ty24 rfl rfl ((rfl)) (Cells1.of_all rfl) hs (by first | rfl | assumption) (fun w hs => ?_)
 refine wZ ?_
 refine ⟨rfl, ?_⟩
 refine AL.end (by kernel_rfl) (hs.clear) (hs.clear) ?_
 refine CW.ret ?_
 refine fin_cell1 rfl rfl (run_loadVarN ty24 rfl hs.a0) ?_
 exact ⟨rfl, hs.clear⟩
set_option maxHeartbeats 2000000 in
theorem rfrom_spec (o : ROpen bg s A u uh R Lu Lh) (sn : s.Sane) (t : s.Tree) (hw : ∀ p ∈ A, w0.heap[p.1]? = some p.2) {n i pl mo : Nat} (hi : s.is (n : Int) = some (i, pl, mo)) : Calls Tryz.prog 67 #[.pointer (some ⟨bg, 0, none⟩), .int .i64 (n : Nat)] w0 (Ret0 (.int .i64 (s.from_ i pl mo : Nat)) w0) := by
 have hs : Step [] [] w0 w0 := Step.refl w0
 have hlw : ∀ {L : List (Nat × Obj)} {w : World}, Step [] L w0 w → ∀ p ∈ A, w.heap[p.1]? = some p.2 := fun hs p hp => hs.old (hw p hp) (by simp)
 have hobt := o.handle sn t hi
 obtain ⟨k, r, b, c, hF, hp, hd, hl, hat, hr, hx, hrd, huq, hnl, hH, hhv, hcell⟩ := hobt
 have hhl2 : ∀ {L : List (Nat × Obj)} {w : World}, Step [] L w0 w → w.cell? ⟨bg, 0 + 1, none⟩ = some (.slice (some ⟨b, 0, none⟩) (hv s).length c) := fun hs => by
  rw [cell_blk (o.fs (hlw hs)), ← huq]
  rfl
 refine calls (n := 26) Tryz.func67 rfl rfl rfl ?_
 refine cQ <| cR <| wa rfl <| wZ ?_
 by_cases h3 : mo = 3
 ·have hobt := rdata_spec o sn t hi
  obtain ⟨r2, hr2, hd2, hl2, hda⟩ := hobt
  have hobt := (o.data r2 hr2).form
  obtain ⟨a5, c5, hv5⟩ := hobt
  rw [hv5] at hda
  have e : (r2.x.length : Int) = (s.from_ i pl mo : Nat) := by unfold VS.from_; rw [if_pos h3, hl2]
  refine cQ <| cQ <| cR <| wm rfl <| wn rfl rfl <| wV rfl (run_field (o' := 1) underlying34 rfl ty32 rfl rfl rfl) <| wV rfl (run_load1 ty32 rfl (hhl2 hs)) <| wm rfl <| wV rfl (run_ixSlN underlying32 ty115 rfl rfl (by omega)) <| wV rfl (run_field (o' := 3) underlying115 rfl ty3 rfl rfl rfl) <| wV rfl (run_load1 ty3 rfl ((hcell (j := 3) (hlw hs) (by omega) rfl))) <| wV rfl (run_bT (run_eql rfl rfl) (by omega)) <| wZ ?_
  refine cC rfl (fun h => ?_) (fun h => ?_)
  ·refine cQ <| cR <| wm rfl <| wm rfl ?_
   refine wE rfl (run_call en64 rfl rfl) (hda (hlw hs)) ?_
   rintro e w ⟨rfl, hq⟩
   refine ⟨_, rfl, ?_⟩
   replace hs := hs.callE hq
   refine wV rfl (run_lenSl underlying38 rfl) <| wa rfl <| wZ ?_
   refine CW.ret ?_
   refine fin_ret1 rfl ?_
   exact ⟨congrArg (fun z => Ending.returned (.int .i64 z)) e, hs⟩
  ·cases h
 ·have e : (pl : Int) = (s.from_ i pl mo : Nat) := by unfold VS.from_; rw [if_neg h3]
  refine cQ <| cQ <| cR <| wm rfl <| wn rfl rfl <| wV rfl (run_field (o' := 1) underlying34 rfl ty32 rfl rfl rfl) <| wV rfl (run_load1 ty32 rfl (hhl2 hs)) <| wm rfl <| wV rfl (run_ixSlN underlying32 ty115 rfl rfl (by omega)) <| wV rfl (run_field (o' := 3) underlying115 rfl ty3 rfl rfl rfl) <| wV rfl (run_load1 ty3 rfl ((hcell (j := 3) (hlw hs) (by omega) rfl))) <| wV rfl (run_bF (run_eql rfl rfl) (by omega)) <| wZ ?_
  refine cC rfl (fun h => ?_) (fun h => ?_)
  ·cases h
  repeat (first | refine cQ ?_ | refine cK ?_)
  refine cR <| wm rfl <| wn rfl rfl <| wV rfl (run_field (o' := 1) underlying34 rfl ty32 rfl rfl rfl) <| wV rfl (run_load1 ty32 rfl (hhl2 hs)) <| wm rfl <| wV rfl (run_ixSlN underlying32 ty115 rfl rfl (by omega)) <| wV rfl (run_field (o' := 2) underlying115 rfl ty3 rfl rfl rfl) <| wV rfl (run_load1 ty3 rfl ((hcell (j := 2) (hlw hs) (by omega) rfl))) <| wa rfl <| wZ ?_
  refine CW.ret ?_
  refine fin_ret1 rfl ?_
  exact ⟨congrArg (fun z => Ending.returned (.int .i64 z)) e, hs⟩
set_option maxHeartbeats 2000000 in
theorem rPlace_spec (o : ROpen bg s A u uh R Lu Lh) (sn : s.Sane) (t : s.Tree) (hw : ∀ p ∈ A, w0.heap[p.1]? = some p.2) {h : Int} : Calls Tryz.prog 42 #[.pointer (some ⟨bg, 0, none⟩), .int .i64 h] w0 (Ret0 (.tuple #[str (s.place h).1, .int .i64 ((s.place h).2.1 : Nat), .int .i64 (s.place h).2.2]) w0) := by
 have hs : Step [] [] w0 w0 := Step.refl w0
 have hlw : ∀ {L : List (Nat × Obj)} {w : World}, Step [] L w0 w → ∀ p ∈ A, w.heap[p.1]? = some p.2 := fun hs p hp => hs.old (hw p hp) (by simp)
 have hisS := fun {L w} (hs : Step [] L w0 w) => ris_spec (h := h) o sn (hlw hs)
 cases hi : s.is h with
 | none =>
  have e : s.place h = ([], 0, 95) := by unfold VS.place; rw [hi]
  rw [e]
  simp only [hi] at hisS
  refine calls (n := 27) Tryz.func42 rfl rfl rfl ?_
  refine cQ <| cR <| wa rfl <| wa rfl <| wa rfl <| wZ <| cQ <| cQ <| cR <| wm rfl <| wm rfl ?_
  refine wE rfl (run_call en66 rfl rfl) (hisS hs) ?_
  rintro e w ⟨rfl, hq⟩
  refine ⟨_, rfl, ?_⟩
  replace hs := hs.callE hq
  refine wV rfl (run_not rfl) <| wZ ?_
  refine cC rfl (fun h2 => ?_) (fun h2 => ?_)
  ·refine cQ <| cR <| wa rfl <| wa rfl <| wa rfl <| wZ ?_
   refine CW.ret ?_
   refine fin_ret3 rfl ?_
   exact ⟨rfl, hs⟩
  ·cases h2
 | some x =>
  obtain ⟨i, pl, mo⟩ := x
  have h0 : 0 ≤ h := by
   unfold VS.is at hi
   split at hi
   ·assumption
   ·cases hi
  have hobt : ∃ n : Nat, h = n := ⟨h.toNat, by omega⟩
  obtain ⟨n, rfl⟩ := hobt
  have hobt := o.handle sn t hi
  obtain ⟨k, r, b, c, hF, hp, hd, hl, hat, hr, hx, hrd, huq, hnl, hH, hhv, hcell⟩ := hobt
  have e : s.place (n : Int) = (r.p, pl, 0) := by unfold VS.place; rw [hi]; show (((s.F[i]?).map (·.1)).getD [], pl, 0) = _; rw [hF]; rfl
  rw [e]
  simp only [hi] at hisS
  have hhl2 : ∀ {L : List (Nat × Obj)} {w : World}, Step [] L w0 w → w.cell? ⟨bg, 0 + 1, none⟩ = some (.slice (some ⟨b, 0, none⟩) (hv s).length c) := fun hs => by
   rw [cell_blk (o.fs (hlw hs)), ← huq]
   rfl
  refine calls (n := 27) Tryz.func42 rfl rfl rfl ?_
  refine cQ <| cR <| wa rfl <| wa rfl <| wa rfl <| wZ <| cQ <| cQ <| cR <| wm rfl <| wm rfl ?_
  refine wE rfl (run_call en66 rfl rfl) (hisS hs) ?_
  rintro e w ⟨rfl, hq⟩
  refine ⟨_, rfl, ?_⟩
  replace hs := hs.callE hq
  refine wV rfl (run_not rfl) <| wZ ?_
  refine cC rfl (fun h2 => ?_) (fun h2 => ?_)
  ·cases h2
  repeat (first | refine cQ ?_ | refine cK ?_)
  refine CW.quiet mixedP (by kernel_rfl) hs ?_
  refine qm rfl <| qn rfl rfl <| qV rfl (fun w hs => run_field (o' := 1) underlying34 rfl ty32 rfl rfl rfl) <| qV rfl (fun w hs => run_load1 ty32 rfl (hhl2 hs)) <| qm rfl <| qV rfl (fun w hs => run_ixSlN underlying32 ty115 rfl rfl (by omega)) <| qV rfl (fun w hs => run_field (o' := 1) underlying115 rfl ty9 rfl rfl rfl) <| qV rfl (fun w hs => run_load1 ty9 rfl ((hcell (j := 1) (hlw hs) (by omega) rfl))) <| qm rfl <| qn rfl rfl <| qV rfl (fun w hs => run_field (o' := 1) underlying34 rfl ty32 rfl rfl rfl) <| qV rfl (fun w hs => run_load1 ty32 rfl (hhl2 hs)) <| qm rfl <| qV rfl (fun w hs => run_ixSlN underlying32 ty115 rfl rfl (by omega)) ?_
  refine qV rfl (fun w hs => run_field (o' := 2) underlying115 rfl ty3 rfl rfl rfl) <| qV rfl (fun w hs => run_load1 ty3 rfl ((hcell (j := 2) (hlw hs) (by omega) rfl))) <| qV rfl (fun w hs => run_assign) <| qV rfl (fun w hs => run_assign) <| qV rfl (fun w hs => run_assign) ?_
  refine QL.nil (fun w hs => ?_)
  refine CW.ret ?_
  refine fin_ret3 rfl ?_
  exact ⟨rfl, hs⟩
end
end Go.Gx
/-! Vq4 -/
namespace Go.Gx
open Go.Proofs Go.Proofs.Tryz Go.RowKit
set_option maxRecDepth 100000
theorem is_nat {s : VS} {h : Int} {x : Nat × Nat × Nat} (hi : s.is h = some x) : ∃ n : Nat, h = n := by
 unfold VS.is at hi
 split at hi
 ·exact ⟨h.toNat, by omega⟩
 ·cases hi
section
variable {bg : Nat} {s : VS} {A Lu Lh : List (Nat × Obj)} {u uh : Value} {R : List RowI} {w0 : World}
set_option maxHeartbeats 2000000 in
theorem rPeek_spec (o : ROpen bg s A u uh R Lu Lh) (sn : s.Sane) (t : s.Tree) (hw : ∀ p ∈ A, w0.heap[p.1]? = some p.2) {h n : Int} (hn : i64s n) : Calls Tryz.prog 30 #[.pointer (some ⟨bg, 0, none⟩), .int .i64 h, .int .i64 n] w0 (Ret0 (.tuple #[.int .i64 (s.peek h n).1, .int .i64 (s.peek h n).2]) w0) := by
 have hs : Step [] [] w0 w0 := Step.refl w0
 have hlw : ∀ {L : List (Nat × Obj)} {w : World}, Step [] L w0 w → ∀ p ∈ A, w.heap[p.1]? = some p.2 := fun hs p hp => hs.old (hw p hp) (by simp)
 have hisS := fun {L w} (hs : Step [] L w0 w) => ris_spec (h := h) o sn (hlw hs)
 unfold i64s at hn
 cases hi : s.is h with
 | none =>
  have e : s.peek h n = (0, 95) := by unfold VS.peek; rw [hi]
  rw [e]
  simp only [hi] at hisS
  refine calls (n := 42) Tryz.func30 rfl rfl rfl ?_
  refine cQ <| cR <| wa rfl <| wa rfl <| wZ <| cQ <| cQ <| cR <| wm rfl <| wm rfl ?_
  refine wE rfl (run_call en66 rfl rfl) (hisS hs) ?_
  rintro e w ⟨rfl, hq⟩
  refine ⟨_, rfl, ?_⟩
  replace hs := hs.callE hq
  refine wV rfl (run_not rfl) <| wZ ?_
  refine cC rfl (fun h2 => ?_) (fun h2 => ?_)
  ·refine cQ <| cR <| wa rfl <| wa rfl <| wZ ?_
   refine CW.ret ?_
   refine fin_ret2 rfl ?_
   exact ⟨rfl, hs⟩
  ·cases h2
 | some x =>
  have hobt := is_nat hi
  obtain ⟨m, rfl⟩ := hobt
  obtain ⟨i, pl, mo⟩ := x
  have hobt := o.handle sn t hi
  obtain ⟨k, r, b, c, hF, hp, hd, hl, hat, hr, hx, hrd, huq, hnl, hH, hhv, hcell⟩ := hobt
  have hobt := rdata_spec o sn t hi
  obtain ⟨r2, hr2, hd2, hl2, hda⟩ := hobt
  have hobt := (o.data r2 hr2).form
  obtain ⟨a5, c5, hv5⟩ := hobt
  rw [hv5] at hda
  have hxl := o.rlen sn.ok hr2
  have hbd := sn.ok.at_ i pl mo (List.mem_of_getElem? hH)
  have e : s.peek (m : Int) n = if mo ≠ 0 then (0, 94) else if n < 0 then (0, 1) else (min n (max 0 ((r2.x.length : Int) - pl)), 0) := by
   unfold VS.peek
   rw [hi]
   show (if mo ≠ 0 then _ else if n < 0 then _ else (min n (max 0 ((s.len i : Int) - pl)), 0)) = _
   rw [hl2]
  rw [e]
  simp only [hi] at hisS
  have hhl2 : ∀ {L : List (Nat × Obj)} {w : World}, Step [] L w0 w → w.cell? ⟨bg, 0 + 1, none⟩ = some (.slice (some ⟨b, 0, none⟩) (hv s).length c) := fun hs => by
   rw [cell_blk (o.fs (hlw hs)), ← huq]
   rfl
  refine calls (n := 42) Tryz.func30 rfl rfl rfl ?_
  refine cQ <| cR <| wa rfl <| wa rfl <| wZ <| cQ <| cQ <| cR <| wm rfl <| wm rfl ?_
  refine wE rfl (run_call en66 rfl rfl) (hisS hs) ?_
  rintro e w ⟨rfl, hq⟩
  refine ⟨_, rfl, ?_⟩
  replace hs := hs.callE hq
  refine wV rfl (run_not rfl) <| wZ ?_
  refine cC rfl (fun h2 => ?_) (fun h2 => ?_)
  ·cases h2
  by_cases hmo : mo = 0
  case neg =>
   rw [if_pos hmo]
   repeat (first | refine cQ ?_ | refine cK ?_)
   refine cR <| wm rfl <| wn rfl rfl <| wV rfl (run_field (o' := 1) underlying34 rfl ty32 rfl rfl rfl) <| wV rfl (run_load1 ty32 rfl (hhl2 hs)) <| wm rfl <| wV rfl (run_ixSlN underlying32 ty115 rfl rfl (by omega)) <| wV rfl (run_field (o' := 3) underlying115 rfl ty3 rfl rfl rfl) <| wV rfl (run_load1 ty3 rfl ((hcell (j := 3) (hlw hs) (by omega) rfl))) <| wV rfl (run_bT (run_neq rfl rfl) (by omega)) <| wZ ?_
   refine cC rfl (fun h2 => ?_) (fun h2 => ?_)
   ·refine cQ <| cR <| wa rfl <| wa rfl <| wZ ?_
    refine CW.ret ?_
    refine fin_ret2 rfl ?_
    exact ⟨rfl, hs⟩
   ·cases h2
  rw [if_neg (fun h => h hmo)]
  repeat (first | refine cQ ?_ | refine cK ?_)
  refine cR <| wm rfl <| wn rfl rfl <| wV rfl (run_field (o' := 1) underlying34 rfl ty32 rfl rfl rfl) <| wV rfl (run_load1 ty32 rfl (hhl2 hs)) <| wm rfl <| wV rfl (run_ixSlN underlying32 ty115 rfl rfl (by omega)) <| wV rfl (run_field (o' := 3) underlying115 rfl ty3 rfl rfl rfl) <| wV rfl (run_load1 ty3 rfl ((hcell (j := 3) (hlw hs) (by omega) rfl))) <| wV rfl (run_bF (run_neq rfl rfl) (by omega)) <| wZ ?_
  refine cC rfl (fun h2 => ?_) (fun h2 => ?_)
  ·cases h2
  by_cases hn0 : n < 0
  ·rw [if_pos hn0]
   repeat (first | refine cQ ?_ | refine cK ?_)
   refine cR <| wm rfl <| wV rfl (run_bT (run_lss rfl rfl) (by omega)) <| wZ ?_
   refine cC rfl (fun h2 => ?_) (fun h2 => ?_)
   ·refine cQ <| cR <| wa rfl <| wa rfl <| wZ ?_
    refine CW.ret ?_
    refine fin_ret2 rfl ?_
    exact ⟨rfl, hs⟩
   ·cases h2
  rw [if_neg hn0]
  repeat (first | refine cQ ?_ | refine cK ?_)
  refine cR <| wm rfl <| wV rfl (run_bF (run_lss rfl rfl) (by omega)) <| wZ ?_
  refine cC rfl (fun h2 => ?_) (fun h2 => ?_)
  ·cases h2
  repeat (first | refine cQ ?_ | refine cK ?_)
  refine CW.quiet mixedP (by kernel_rfl) hs ?_
  refine qm rfl <| qm rfl ?_
  refine QL.enter rfl (fun w => run_call en64 rfl rfl) (fun w hs => hda (hlw hs)) ?_
  refine qV rfl (fun w hs => run_lenSl underlying38 rfl) <| qm rfl <| qn rfl rfl <| qV rfl (fun w hs => run_field (o' := 1) underlying34 rfl ty32 rfl rfl rfl) <| qV rfl (fun w hs => run_load1 ty32 rfl (hhl2 hs)) <| qm rfl <| qV rfl (fun w hs => run_ixSlN underlying32 ty115 rfl rfl (by omega)) <| qV rfl (fun w hs => run_field (o' := 2) underlying115 rfl ty3 rfl rfl rfl) <| qV rfl (fun w hs => run_load1 ty3 rfl ((hcell (j := 2) (hlw hs) (by omega) rfl))) <| qV rfl (fun w hs => run_sub (c := ((r2.x.length : Int) - pl)) rfl rfl (by omega) (by omega)) <| qV rfl (fun w hs => run_assign) ?_
  refine QL.nil (fun w hs => ?_)
  by_cases hng : (r2.x.length : Int) - pl < 0
  ·have e2 : max 0 ((r2.x.length : Int) - pl) = 0 := by omega
   rw [e2]
   refine cQ <| cQ <| cR <| wm rfl <| wV rfl (run_bT (run_lss rfl rfl) (by omega)) <| wZ ?_
   refine cC rfl (fun h2 => ?_) (fun h2 => ?_)
   ·skip
    refine cR <| wa rfl <| wZ <| cQ <| cR <| wm rfl <| wm rfl ?_
    refine wE rfl (run_call en51 rfl rfl) (least_spec n 0 _) ?_
    rintro e w ⟨rfl, hq⟩
    refine ⟨_, rfl, ?_⟩
    replace hs := hs.callE hq
    refine wa rfl <| wa rfl <| wZ ?_
    refine CW.ret ?_
    refine fin_ret2 rfl ?_
    exact ⟨rfl, hs⟩
   ·cases h2
  ·have e2 : max 0 ((r2.x.length : Int) - pl) = (r2.x.length : Int) - pl := by omega
   rw [e2]
   refine cQ <| cQ <| cR <| wm rfl <| wV rfl (run_bF (run_lss rfl rfl) (by omega)) <| wZ ?_
   refine cC rfl (fun h2 => ?_) (fun h2 => ?_)
   ·cases h2
   repeat (first | refine cQ ?_ | refine cK ?_)
   refine cR <| wm rfl <| wm rfl ?_
   refine wE rfl (run_call en51 rfl rfl) (least_spec n ((r2.x.length : Int) - pl) _) ?_
   rintro e w ⟨rfl, hq⟩
   refine ⟨_, rfl, ?_⟩
   replace hs := hs.callE hq
   refine wa rfl <| wa rfl <| wZ ?_
   refine CW.ret ?_
   refine fin_ret2 rfl ?_
   exact ⟨rfl, hs⟩
set_option maxHeartbeats 4000000 in
theorem rMay_spec (o : ROpen bg s A u uh R Lu Lh) (sn : s.Sane) (t : s.Tree) (q : s.Quo) (hw : ∀ p ∈ A, w0.heap[p.1]? = some p.2) {h n : Int} (hn : i64s n) : Calls Tryz.prog 35 #[.pointer (some ⟨bg, 0, none⟩), .int .i64 h, .int .i64 n] w0 (Ret0 (.int .i64 (s.may h n)) w0) := by
 have hs : Step [] [] w0 w0 := Step.refl w0
 have hlw : ∀ {L : List (Nat × Obj)} {w : World}, Step [] L w0 w → ∀ p ∈ A, w.heap[p.1]? = some p.2 := fun hs p hp => hs.old (hw p hp) (by simp)
 have hisS := fun {L w} (hs : Step [] L w0 w) => ris_spec (h := h) o sn (hlw hs)
 unfold i64s at hn
 cases hi : s.is h with
 | none =>
  have e : s.may h n = 95 := by unfold VS.may; rw [hi]
  rw [e]
  simp only [hi] at hisS
  refine calls (n := 62) Tryz.func35 rfl rfl rfl ?_
  refine cQ <| cR <| wa rfl <| wZ <| cQ <| cQ <| cR <| wm rfl <| wm rfl ?_
  refine wE rfl (run_call en66 rfl rfl) (hisS hs) ?_
  rintro e w ⟨rfl, hq⟩
  refine ⟨_, rfl, ?_⟩
  replace hs := hs.callE hq
  refine wV rfl (run_not rfl) <| wZ ?_
  refine cC rfl (fun h2 => ?_) (fun h2 => ?_)
  ·refine cQ <| cR <| wa rfl <| wZ ?_
   refine CW.ret ?_
   refine fin_ret1 rfl ?_
   exact ⟨rfl, hs⟩
  ·cases h2
 | some x =>
  have hobt := is_nat hi
  obtain ⟨m, rfl⟩ := hobt
  obtain ⟨i, pl, mo⟩ := x
  have hobt := o.handle sn t hi
  obtain ⟨k, r, b, c, hF, hp, hd, hl, hat, hr, hx, hrd, huq, hnl, hH, hhv, hcell⟩ := hobt
  have hobt := rdata_spec o sn t hi
  obtain ⟨r2, hr2, hd2, hl2, hda⟩ := hobt
  have hobt := (o.data r2 hr2).form
  obtain ⟨a5, c5, hv5⟩ := hobt
  rw [hv5] at hda
  have hfr := fun {L w} (hs : Step [] L w0 w) => rfrom_spec o sn t (hlw hs) hi
  have hby := fun {L w} (hs : Step [] L w0 w) => rbytes2_spec o sn (hlw hs)
  have hxl := o.rlen sn.ok hr2
  have hbd := sn.ok.at_ i pl mo (List.mem_of_getElem? hH)
  have hqb := q.b
  have hqB := sn.ok.qb
  have hbyB := sn.ok.by_
  have hobt : ∃ fr, s.from_ i pl mo = fr := ⟨_, rfl⟩
  obtain ⟨fr, hfre⟩ := hobt
  have hfrl : fr ≤ 1048576 := by
   rw [← hfre]
   unfold VS.from_
   split
   ·rw [hl2]; exact hxl
   ·exact hbd.1
  have e : s.may (m : Int) n = if mo = 0 then 94 else if n < 0 then 1 else if n = 0 then 0 else if 1048576 - (fr : Int) < n then 96 else if s.qb < (s.by_ : Int) + max 0 ((fr : Int) + n - r2.x.length) then 96 else 0 := by
   unfold VS.may
   rw [hi]
   show (if mo = 0 then _ else if n < 0 then _ else if n = 0 then _ else if 1048576 - (s.from_ i pl mo : Int) < n then _ else if s.qb < (s.by_ : Int) + max 0 ((s.from_ i pl mo : Int) + n - s.len i) then _ else _) = _
   rw [hl2, hfre]
  rw [e]
  simp only [hfre] at hfr
  simp only [hi] at hisS
  have hhl2 : ∀ {L : List (Nat × Obj)} {w : World}, Step [] L w0 w → w.cell? ⟨bg, 0 + 1, none⟩ = some (.slice (some ⟨b, 0, none⟩) (hv s).length c) := fun hs => by
   rw [cell_blk (o.fs (hlw hs)), ← huq]
   rfl
  have hql : ∀ {L : List (Nat × Obj)} {w : World}, Step [] L w0 w → w.cell? ⟨bg, 0 + 2, none⟩ = some (.int .i64 s.qb) := fun hs => by
   rw [cell_blk (o.fs (hlw hs))]
   rfl
  refine calls (n := 62) Tryz.func35 rfl rfl rfl ?_
  refine cQ <| cR <| wa rfl <| wZ <| cQ <| cQ <| cR <| wm rfl <| wm rfl ?_
  refine wE rfl (run_call en66 rfl rfl) (hisS hs) ?_
  rintro e w ⟨rfl, hq⟩
  refine ⟨_, rfl, ?_⟩
  replace hs := hs.callE hq
  refine wV rfl (run_not rfl) <| wZ ?_
  refine cC rfl (fun h2 => ?_) (fun h2 => ?_)
  ·cases h2
  by_cases hmo : mo = 0
  ·rw [if_pos hmo]
   repeat (first | refine cQ ?_ | refine cK ?_)
   refine cR <| wm rfl <| wn rfl rfl <| wV rfl (run_field (o' := 1) underlying34 rfl ty32 rfl rfl rfl) <| wV rfl (run_load1 ty32 rfl (hhl2 hs)) <| wm rfl <| wV rfl (run_ixSlN underlying32 ty115 rfl rfl (by omega)) <| wV rfl (run_field (o' := 3) underlying115 rfl ty3 rfl rfl rfl) <| wV rfl (run_load1 ty3 rfl ((hcell (j := 3) (hlw hs) (by omega) rfl))) <| wV rfl (run_bT (run_eql rfl rfl) (by omega)) <| wZ ?_
   refine cC rfl (fun h2 => ?_) (fun h2 => ?_)
   ·refine cQ <| cR <| wa rfl <| wZ ?_
    refine CW.ret ?_
    refine fin_ret1 rfl ?_
    exact ⟨rfl, hs⟩
   ·cases h2
  rw [if_neg hmo]
  repeat (first | refine cQ ?_ | refine cK ?_)
  refine cR <| wm rfl <| wn rfl rfl <| wV rfl (run_field (o' := 1) underlying34 rfl ty32 rfl rfl rfl) <| wV rfl (run_load1 ty32 rfl (hhl2 hs)) <| wm rfl <| wV rfl (run_ixSlN underlying32 ty115 rfl rfl (by omega)) <| wV rfl (run_field (o' := 3) underlying115 rfl ty3 rfl rfl rfl) <| wV rfl (run_load1 ty3 rfl ((hcell (j := 3) (hlw hs) (by omega) rfl))) <| wV rfl (run_bF (run_eql rfl rfl) (by omega)) <| wZ ?_
  refine cC rfl (fun h2 => ?_) (fun h2 => ?_)
  ·cases h2
  by_cases hn0 : n < 0
  ·rw [if_pos hn0]
   repeat (first | refine cQ ?_ | refine cK ?_)
   refine cR <| wm rfl <| wV rfl (run_bT (run_lss rfl rfl) (by omega)) <| wZ ?_
   refine cC rfl (fun h2 => ?_) (fun h2 => ?_)
   ·refine cQ <| cR <| wa rfl <| wZ ?_
    refine CW.ret ?_
    refine fin_ret1 rfl ?_
    exact ⟨rfl, hs⟩
   ·cases h2
  rw [if_neg hn0]
  repeat (first | refine cQ ?_ | refine cK ?_)
  refine cR <| wm rfl <| wV rfl (run_bF (run_lss rfl rfl) (by omega)) <| wZ ?_
  refine cC rfl (fun h2 => ?_) (fun h2 => ?_)
  ·cases h2
  by_cases hz : n = 0
  ·rw [if_pos hz]
   repeat (first | refine cQ ?_ | refine cK ?_)
   refine cR <| wm rfl <| wV rfl (run_bT (run_eql rfl rfl) (by exact hz)) <| wZ ?_
   refine cC rfl (fun h2 => ?_) (fun h2 => ?_)
   ·refine cQ <| cR <| wa rfl <| wZ ?_
    refine CW.ret ?_
    refine fin_ret1 rfl ?_
    exact ⟨rfl, hs⟩
   ·cases h2
  rw [if_neg hz]
  repeat (first | refine cQ ?_ | refine cK ?_)
  refine cR <| wm rfl <| wV rfl (run_bF (run_eql rfl rfl) (by exact hz)) <| wZ ?_
  refine cC rfl (fun h2 => ?_) (fun h2 => ?_)
  ·cases h2
  by_cases hbig : n > 1048576
  ·rw [if_pos (by omega)]
   repeat (first | refine cQ ?_ | refine cK ?_)
   refine cR <| wm rfl <| wV rfl (run_bT (run_gtr rfl rfl) (by omega)) <| wm rfl <| WL.no rfl rfl rfl (.inl rfl) <| WL.no rfl rfl rfl (.inl rfl) <| WL.no rfl rfl rfl (.inl rfl) <| WL.no rfl rfl rfl (.inl rfl) <| WL.no rfl rfl rfl (.inl rfl) <| WL.no rfl rfl rfl (.inl rfl) <| wV rfl (run_pickT rfl) <| wZ ?_
   refine cC rfl (fun h2 => ?_) (fun h2 => ?_)
   ·refine cQ <| cR <| wa rfl <| wZ ?_
    refine CW.ret ?_
    refine fin_ret1 rfl ?_
    exact ⟨rfl, hs⟩
   ·cases h2
  by_cases hov : 1048576 - (fr : Int) < n
  ·rw [if_pos hov]
   repeat (first | refine cQ ?_ | refine cK ?_)
   refine cR <| wm rfl <| wV rfl (run_bF (run_gtr rfl rfl) (by omega)) <| wm rfl <| WL.yes rfl rfl rfl <| wm rfl <| WL.yes rfl rfl rfl <| wm rfl <| WL.yes rfl rfl rfl ?_
   refine wE rfl (run_call en67 rfl rfl) (hfr hs) ?_
   rintro e w ⟨rfl, hq⟩
   refine ⟨_, rfl, ?_⟩
   replace hs := hs.callE hq
   refine WL.yes rfl rfl rfl <| wm rfl <| WL.yes rfl rfl rfl <| wV rfl (run_add (c := ((fr : Int) + n)) rfl rfl (by omega) (by omega)) <| WL.yes rfl rfl rfl <| wV rfl (run_bT (run_gtr rfl rfl) (by omega)) <| wV rfl (run_pickF rfl) <| wZ ?_
   refine cC rfl (fun h2 => ?_) (fun h2 => ?_)
   ·refine cQ <| cR <| wa rfl <| wZ ?_
    refine CW.ret ?_
    refine fin_ret1 rfl ?_
    exact ⟨rfl, hs⟩
   ·cases h2
  rw [if_neg hov]
  repeat (first | refine cQ ?_ | refine cK ?_)
  refine cR <| wm rfl <| wV rfl (run_bF (run_gtr rfl rfl) (by omega)) <| wm rfl <| WL.yes rfl rfl rfl <| wm rfl <| WL.yes rfl rfl rfl <| wm rfl <| WL.yes rfl rfl rfl ?_
  refine wE rfl (run_call en67 rfl rfl) (hfr hs) ?_
  rintro e w ⟨rfl, hq⟩
  refine ⟨_, rfl, ?_⟩
  replace hs := hs.callE hq
  refine WL.yes rfl rfl rfl <| wm rfl <| WL.yes rfl rfl rfl <| wV rfl (run_add (c := ((fr : Int) + n)) rfl rfl (by omega) (by omega)) <| WL.yes rfl rfl rfl <| wV rfl (run_bF (run_gtr rfl rfl) (by omega)) <| wV rfl (run_pickF rfl) <| wZ ?_
  refine cC rfl (fun h2 => ?_) (fun h2 => ?_)
  ·cases h2
  repeat (first | refine cQ ?_ | refine cK ?_)
  refine cR <| wm rfl <| wm rfl ?_
  refine wE rfl (run_call en64 rfl rfl) (hda (hlw hs)) ?_
  rintro e w ⟨rfl, hq⟩
  refine ⟨_, rfl, ?_⟩
  replace hs := hs.callE hq
  refine wV rfl (run_lenSl underlying38 rfl) <| wa rfl <| wZ <| cQ <| cR <| wm rfl <| wm rfl ?_
  refine wE rfl (run_call en67 rfl rfl) (hfr hs) ?_
  rintro e w ⟨rfl, hq⟩
  refine ⟨_, rfl, ?_⟩
  replace hs := hs.callE hq
  refine wm rfl <| wV rfl (run_add (c := ((fr : Int) + n)) rfl rfl (by omega) (by omega)) <| wa rfl <| wZ ?_
  by_cases hgt : (fr : Int) + n > r2.x.length
  ·by_cases hov2 : s.qb < (s.by_ : Int) + max 0 ((fr : Int) + n - r2.x.length)
   ·rw [if_pos hov2]
    refine cQ <| cQ ?_
    refine CW.quiet mixedP (by kernel_rfl) hs ?_
    refine qm rfl <| qm rfl <| qV rfl (fun w hs => run_bT (run_gtr rfl rfl) (by omega)) <| qm rfl <| QL.yes rfl rfl rfl <| qm rfl <| QL.yes rfl rfl rfl ?_
    refine QL.enter rfl (fun w => run_call en25 rfl rfl) (fun w hs => hby hs) ?_
    refine QL.yes rfl rfl rfl <| qm rfl <| QL.yes rfl rfl rfl <| qV rfl (fun w hs => run_sub (c := ((s.by_ : Int) - r2.x.length)) rfl rfl (by omega) (by omega)) <| QL.yes rfl rfl rfl <| qm rfl <| QL.yes rfl rfl rfl <| qV rfl (fun w hs => run_add (c := ((s.by_ : Int) - r2.x.length + ((fr : Int) + n))) rfl rfl (by omega) (by omega)) <| QL.yes rfl rfl rfl <| qm rfl <| QL.yes rfl rfl rfl <| qn rfl rfl <| QL.yes rfl rfl rfl <| qV rfl (fun w hs => run_field (o' := 2) underlying34 rfl ty24 rfl rfl rfl) ?_
    refine QL.yes rfl rfl rfl <| qV rfl (fun w hs => run_field (o' := 0) underlying24 rfl ty3 rfl rfl rfl) <| QL.yes rfl rfl rfl <| qV rfl (fun w hs => run_load1 ty3 rfl (hql hs)) <| QL.yes rfl rfl rfl <| qV rfl (fun w hs => run_bT (run_gtr rfl rfl) (by omega)) <| qV rfl (fun w hs => run_pickT rfl) ?_
    refine QL.nil (fun w hs => ?_)
    refine cC rfl (fun h2 => ?_) (fun h2 => ?_)
    ·refine cQ <| cR <| wa rfl <| wZ ?_
     refine CW.ret ?_
     refine fin_ret1 rfl ?_
     exact ⟨rfl, hs⟩
    ·cases h2
   ·rw [if_neg hov2]
    refine cQ <| cQ ?_
    refine CW.quiet mixedP (by kernel_rfl) hs ?_
    refine qm rfl <| qm rfl <| qV rfl (fun w hs => run_bT (run_gtr rfl rfl) (by omega)) <| qm rfl <| QL.yes rfl rfl rfl <| qm rfl <| QL.yes rfl rfl rfl ?_
    refine QL.enter rfl (fun w => run_call en25 rfl rfl) (fun w hs => hby hs) ?_
    refine QL.yes rfl rfl rfl <| qm rfl <| QL.yes rfl rfl rfl <| qV rfl (fun w hs => run_sub (c := ((s.by_ : Int) - r2.x.length)) rfl rfl (by omega) (by omega)) <| QL.yes rfl rfl rfl <| qm rfl <| QL.yes rfl rfl rfl <| qV rfl (fun w hs => run_add (c := ((s.by_ : Int) - r2.x.length + ((fr : Int) + n))) rfl rfl (by omega) (by omega)) <| QL.yes rfl rfl rfl <| qm rfl <| QL.yes rfl rfl rfl <| qn rfl rfl <| QL.yes rfl rfl rfl <| qV rfl (fun w hs => run_field (o' := 2) underlying34 rfl ty24 rfl rfl rfl) ?_
    refine QL.yes rfl rfl rfl <| qV rfl (fun w hs => run_field (o' := 0) underlying24 rfl ty3 rfl rfl rfl) <| QL.yes rfl rfl rfl <| qV rfl (fun w hs => run_load1 ty3 rfl (hql hs)) <| QL.yes rfl rfl rfl <| qV rfl (fun w hs => run_bF (run_gtr rfl rfl) (by omega)) <| qV rfl (fun w hs => run_pickT rfl) ?_
    refine QL.nil (fun w hs => ?_)
    refine cC rfl (fun h2 => ?_) (fun h2 => ?_)
    ·cases h2
    repeat (first | refine cQ ?_ | refine cK ?_)
    refine cR <| wa rfl <| wZ ?_
    refine CW.ret ?_
    refine fin_ret1 rfl ?_
    exact ⟨rfl, hs⟩
  ·rw [if_neg (by omega)]
   refine cQ <| cQ ?_
   refine CW.quiet mixedP (by kernel_rfl) hs ?_
   refine qm rfl <| qm rfl <| qV rfl (fun w hs => run_bF (run_gtr rfl rfl) (by omega)) <| qm rfl <| QL.no rfl rfl rfl (.inl rfl) <| QL.no rfl rfl rfl (.inl rfl) <| QL.no rfl rfl rfl (.inl rfl) <| QL.no rfl rfl rfl (.inl rfl) <| QL.no rfl rfl rfl (.inl rfl) <| QL.no rfl rfl rfl (.inl rfl) <| QL.no rfl rfl rfl (.inl rfl) <| QL.no rfl rfl rfl (.inl rfl) <| QL.no rfl rfl rfl (.inl rfl) <| QL.no rfl rfl rfl (.inl rfl) ?_
   refine QL.no rfl rfl rfl (.inl rfl) <| QL.no rfl rfl rfl (.inl rfl) <| qV rfl (fun w hs => run_pickF rfl) ?_
   refine QL.nil (fun w hs => ?_)
   refine cC rfl (fun h2 => ?_) (fun h2 => ?_)
   ·cases h2
   repeat (first | refine cQ ?_ | refine cK ?_)
   refine cR <| wa rfl <| wZ ?_
   refine CW.ret ?_
   refine fin_ret1 rfl ?_
   exact ⟨rfl, hs⟩
end
end Go.Gx
/-! Vq5 -/
namespace Go.Gx
open Go.Proofs Go.Proofs.Tryz Go.RowKit
set_option maxRecDepth 100000
theorem bld_hnd (w : World) : (Instr.build 115 #[]).run Tryz.prog w = .ok (.agg (hC none).toArray) w := by kernel_rfl
theorem hsC_cell {H : List (Option (List UInt8 × Nat × Nat))} {X : List Value} {i j : Nat} {h h' : Option (List UInt8 × Nat × Nat)} {v : Value} (hi : H[i]? = some h) (hj : j < 4) (hv : (hC h).set j v = hC h') : (hsC H ++ X).set (0 + i * 4 + j) v = hsC (H.set i h') ++ X := by
 induction H generalizing i with
 | nil => simp at hi
 | cons a H ih =>
  have ha := hC_len a
  cases i with
  | zero =>
   have : a = h := by simpa using hi
   subst this
   rw [hsC, List.flatMap_cons, List.append_assoc, List.set_append_left _ _ (by omega), List.set_cons_zero, hsC, List.flatMap_cons, List.append_assoc, ← hv]
   congr 2
   omega
  | succ i =>
   have h2 := ih (i := i) (by simpa using hi)
   rw [hsC] at h2
   rw [hsC, List.flatMap_cons, List.append_assoc, List.set_append_right _ _ (by omega), ha, show 0 + (i + 1) * 4 + j - 4 = 0 + i * 4 + j by omega, h2, List.set_cons_succ]
   show _ = hC a ++ hsC (H.set i h') ++ X
   rw [List.append_assoc]
theorem hsC_splice {H : List (Option (List UInt8 × Nat × Nat))} {X : List Value} {i : Nat} {h h' : Option (List UInt8 × Nat × Nat)} (hi : H[i]? = some h) : splice (hsC H ++ X) (0 + i * 4) (hC h') = hsC (H.set i h') ++ X := by
 have hlt := (List.getElem?_eq_some_iff.1 hi).1
 have e : H = H.take i ++ h :: H.drop (i + 1) := by
  have hobt := List.getElem?_eq_some_iff.1 hi
  obtain ⟨h1, h2⟩ := hobt
  conv => lhs; rw [← List.take_append_drop i H, List.drop_eq_getElem_cons h1, h2]
 have e1 : hsC H ++ X = hsC (H.take i) ++ hC h ++ (hsC (H.drop (i + 1)) ++ X) := by
  conv => lhs; rw [e]
  simp [hsC, List.append_assoc]
 have e2 : hsC (H.set i h') ++ X = hsC (H.take i) ++ hC h' ++ (hsC (H.drop (i + 1)) ++ X) := by
  rw [List.set_eq_take_append_cons_drop, if_pos hlt]
  simp [hsC, List.append_assoc]
 have hl : (hsC (H.take i)).length = i * 4 := by rw [hsC_len, List.length_take, Nat.min_eq_left (by omega)]
 rw [e1, e2, splice_mid (A := hsC (H.take i)) (M := hC h) (R := hsC (H.drop (i + 1)) ++ X) (vs := hC h') (by rw [hl]; omega) (by rw [hC_len, hC_len])]
theorem hv_setQ {s : VS} {i : Nat} {x : Option (Nat × Nat × Nat)} {k : Nat} : hv { s with H := s.H.set i x, op := k } = (hv s).set i (x.map fun h => (s.pth h.1, h.2.1, h.2.2)) := by
 unfold hv
 rw [← List.map_set]
 rfl
section
variable {α : Type} {x y : α} {l m : List α}
theorem perm_qh1 : (x :: (l ++ ([y] ++ m))).Perm (y :: x :: (l ++ m)) := by
 classical
 exact List.perm_iff_count.2 fun z => by
  simp only [List.count_append, List.count_cons, List.count_nil]
  omega
end
section
variable {bg : Nat} {s s' : VS} {A Lu Lh : List (Nat × Obj)} {u uh : Value} {R : List RowI} {w0 : World}
/-- One handle's cells, opened. -/
theorem ROpen.openH (o : ROpen bg s A u uh R Lu Lh) {n : Nat} {h : Option (List UInt8 × Nat × Nat)} (hn : (hv s)[n]? = some h) : ∃ b c more, uh = .slice (some ⟨b, 0, none⟩) (hv s).length c ∧ A.Perm ((b, blk 115 (hsC (hv s) ++ more)) :: (bg, rO u uh s.qb s.qf s.qo) :: (Lu ++ R.flatMap (·.Lv))) ∧
  ∀ {s' : VS} {h' : Option (List UInt8 × Nat × Nat)}, hv s' = (hv s).set n h' → s'.itemsL = s.itemsL → s'.qb = s.qb → s'.qf = s.qf → s'.qo = s.qo → ∃ A', ROpen bg s' A' u uh R Lu [(b, blk 115 (hsC ((hv s).set n h') ++ more))] ∧ A'.Perm ((b, blk 115 (hsC ((hv s).set n h') ++ more)) :: (bg, rO u uh s.qb s.qf s.qo) :: (Lu ++ R.flatMap (·.Lv))) := by
 have hlt := (List.getElem?_eq_some_iff.1 hn).1
 have hobt := o.oh.some1 (by omega)
 obtain ⟨b, c, more, hq, hL, hc⟩ := hobt
 refine ⟨b, c, more, hq, ?_, fun {s' h'} h1 h2 h3 h4 h5 => ?_⟩
 ·rw [o.A, hL]
  exact perm_qh1
 ·have hl : ((hv s).set n h').length = (hv s).length := List.length_set
  refine ⟨_, ⟨o.own, o.data, by rw [h2]; exact o.abs, ?_, rfl⟩, ?_⟩
  ·rw [h1, hl]
   refine ⟨by rw [hsC_len, hl], .inr ⟨b, c, more, hq, rfl, ?_⟩⟩
   rw [List.length_append, hsC_len, hl]
   rw [List.length_append, hsC_len] at hc
   exact hc
  ·rw [h3, h4, h5]
   exact perm_qh1
set_option maxHeartbeats 2000000 in
theorem rClose_spec (hR : RRep bg s A) (sn : s.Sane) (t : s.Tree) (hw : Step (A.map (·.1)) A w0 w0) {h : Int} : Calls Tryz.prog 40 #[.pointer (some ⟨bg, 0, none⟩), .int .i64 h] w0 fun e w' => ∃ A', e = .returned (.int .i64 (s.close h).1) ∧ RRep bg (s.close h).2 A' ∧ Step (A.map (·.1)) A' w0 w' := by
 have hR0 := hR
 obtain ⟨u, uh, R, Lu, Lh, o⟩ := hR
 have hs : Step (A.map (·.1)) A w0 w0 := hw
 have hisS := fun {w} hw => ris_spec (w0 := w) (h := h) o sn hw
 cases hi : s.is h with
 | none =>
  have e : s.close h = (95, s) := by unfold VS.close; rw [hi]
  rw [e]
  simp only [hi] at hisS
  refine calls (n := 16) Tryz.func40 rfl rfl rfl ?_
  refine cQ <| cR <| wa rfl <| wZ <| cQ <| cQ <| cR <| wm rfl <| wm rfl ?_
  refine wE rfl (run_call en66 rfl rfl) (hisS hs.has) ?_
  rintro e w ⟨rfl, hq⟩
  refine ⟨_, rfl, ?_⟩
  replace hs := hs.callE hq
  refine wV rfl (run_not rfl) <| wZ ?_
  refine cC rfl (fun h2 => ?_) (fun h2 => ?_)
  ·refine cQ <| cR <| wa rfl <| wZ ?_
   refine CW.ret ?_
   refine fin_ret1 rfl ?_
   exact ⟨A, rfl, hR0, hs⟩
  ·cases h2
 | some x =>
  have hobt := is_nat hi
  obtain ⟨n, rfl⟩ := hobt
  obtain ⟨i, pl, mo⟩ := x
  have e : s.close (n : Int) = (0, { s with H := s.H.set n none, op := s.op - 1 }) := by
   unfold VS.close
   rw [hi]
   simp only [Int.toNat_natCast]
  rw [e]
  simp only [hi] at hisS
  have hobt := o.handle sn t hi
  obtain ⟨k, r, b0, c0, hF, hp, hd, hl, hat, hr, hx, hrd, huq0, hnl, hH, hhv, hcell⟩ := hobt
  have hobt := o.openH hhv
  obtain ⟨b, c, more, huq, hpm, hmk⟩ := hobt
  have hobt := hmk (s' := { s with H := s.H.set n none, op := s.op - 1 }) (h' := none) hv_setQ rfl rfl rfl rfl
  obtain ⟨A', o', hpm'⟩ := hobt
  have hobt : ∃ S, A.map (·.1) = S := ⟨_, rfl⟩
  obtain ⟨S, hS⟩ := hobt
  rw [hS] at hs ⊢
  have hset := hsC_splice (X := more) (h' := none) hhv
  have hbl : (hsC (hv s) ++ more).length = (hv s).length * 4 + more.length := by rw [List.length_append, hsC_len]
  have hhl2 : ∀ {w : World}, (∀ p ∈ A, w.heap[p.1]? = some p.2) → w.cell? ⟨bg, 0 + 1, none⟩ = some (.slice (some ⟨b, 0, none⟩) (hv s).length c) := fun hw => by
   rw [cell_blk (o.fs hw), ← huq]
   rfl
  refine calls (n := 16) Tryz.func40 rfl rfl rfl ?_
  refine cQ <| cR <| wa rfl <| wZ <| cQ <| cQ <| cR <| wm rfl <| wm rfl ?_
  refine wE rfl (run_call en66 rfl rfl) (hisS hs.has) ?_
  rintro e w ⟨rfl, hq⟩
  refine ⟨_, rfl, ?_⟩
  replace hs := hs.callE hq
  refine wV rfl (run_not rfl) <| wZ ?_
  refine cC rfl (fun h2 => ?_) (fun h2 => ?_)
  ·cases h2
  have hlo := hhl2 hs.has
  replace hs := hs.perm hpm
  repeat (first | refine cQ ?_ | refine cK ?_)
  refine cR <| wm rfl <| wn rfl rfl <| wV rfl (run_field (o' := 1) underlying34 rfl ty32 rfl rfl rfl) <| wV rfl (run_load1 ty32 rfl (hlo)) <| wm rfl <| wV rfl (run_build rfl ((bld_hnd _))) <| wV rfl (run_ixSlN underlying32 ty115 rfl rfl (by omega)) ?_
  refine WL.storeN ty115 rfl rfl (rfl) (Cells1.of_all rfl) (hs) (by first | (simp; done) | omega | (simp only [List.length_append, List.length_replicate, List.length_cons, List.length_nil, List.length_set]; omega) | (simp [Ent.cells, u8s]; done) | exact Nat.le_of_ble_eq_true rfl) (fun w hs => ?_)
  refine wZ ?_
  replace hs : Step S ((b, blk 115 (hsC ((hv s).set n none) ++ more)) :: (bg, rO u uh s.qb s.qf s.qo) :: (Lu ++ R.flatMap (·.Lv))) w0 w := by
   rw [← hset]
   exact hs
  refine cQ <| cR <| wa rfl <| wZ ?_
  refine CW.ret ?_
  refine fin_ret1 rfl ?_
  exact ⟨A', rfl, ⟨_, _, _, _, _, o'⟩, hs.perm hpm'.symm⟩
end
end Go.Gx
/-! Vq6 -/
namespace Go.Gx
open Go.Proofs Go.Proofs.Tryz Go.RowKit
set_option maxRecDepth 100000
section
variable {bg : Nat} {s : VS} {A Lu Lh : List (Nat × Obj)} {u uh : Value} {R : List RowI} {w0 : World}
set_option maxHeartbeats 4000000 in
theorem rRead_spec (hR : RRep bg s A) (sn : s.Sane) (t : s.Tree) (hw : Step (A.map (·.1)) A w0 w0) {h n : Int} (hn : i64s n) : Calls Tryz.prog 28 #[.pointer (some ⟨bg, 0, none⟩), .int .i64 h, .int .i64 n] w0 fun e w' => ∃ v Lv A', e = .returned (.tuple #[v, .int .i64 (s.read h n).2.1]) ∧ OwnSl 5 1 v (s.read h n).1.length (u8s (s.read h n).1) Lv ∧ RRep bg (s.read h n).2.2 A' ∧ Step (A.map (·.1)) (Lv ++ A') w0 w' := by
 have hR0 := hR
 obtain ⟨u, uh, R, Lu, Lh, o⟩ := hR
 have hs : Step (A.map (·.1)) A w0 w0 := hw
 have hpk := fun {w} hw => rPeek_spec (w0 := w) (h := h) o sn t hw hn
 have hkeep := do_keeps sn t ⟨2, h, n, [], .nilFunc, []⟩
 have hkeep : (s.read h n).2.2.Sane ∧ (s.read h n).2.2.Tree := hkeep
 by_cases hbad : (s.peek h n).2 ≠ 0 ∨ (s.peek h n).1 = 0
 ·rw [show s.read h n = ([], (s.peek h n).2, s) by unfold VS.read; rw [if_pos hbad]]
  have hobt : ∃ kz ez, s.peek h n = (kz, ez) := ⟨_, _, rfl⟩
  obtain ⟨kz, ez, hpe⟩ := hobt
  simp only [hpe] at hbad hpk ⊢
  by_cases he : ez = 0
  ·have hk0 : kz = 0 := by
    rcases hbad with h1 | h1
    ·exact absurd he h1
    ·exact h1
   have hez : Value.int .i64 0 = .int .i64 ez := by rw [he]
   have hsome : ∃ x, s.is h = some x := by
    cases hi : s.is h with
    | none =>
     have h1 := hpe
     unfold VS.peek at h1
     rw [hi] at h1
     injection h1 with h1 h2
     rw [he] at h2
     cases h2
    | some x => exact ⟨x, rfl⟩
   obtain ⟨⟨i, pl, mo⟩, hi⟩ := hsome
   have hobt := is_nat hi
   obtain ⟨m, rfl⟩ := hobt
   have hobt := o.handle sn t hi
   obtain ⟨k, r, b0, c0, hF, hp, hd, hl, hat, hr, hx, hrd, huq0, hnl, hH, hhv, hcell⟩ := hobt
   have hhl2 : ∀ {w : World}, (∀ p ∈ A, w.heap[p.1]? = some p.2) → w.cell? ⟨bg, 0 + 1, none⟩ = some (.slice (some ⟨b0, 0, none⟩) (hv s).length c0) := fun hw => by
    rw [cell_blk (o.fs hw), ← huq0]
    rfl
   refine calls (n := 50) Tryz.func28 rfl rfl rfl ?_
   refine cQ <| cR <| wa rfl <| wa rfl <| wZ <| cQ <| cR <| wm rfl <| wm rfl <| wm rfl ?_
   refine wE rfl (run_call en30 rfl rfl) (hpk hs.has) ?_
   rintro e w ⟨rfl, hq⟩
   refine ⟨_, rfl, ?_⟩
   replace hs := hs.callE hq
   refine wm rfl <| wx rfl rfl rfl <| wx rfl rfl rfl <| wa rfl <| wa rfl <| wZ <| cQ <| cQ <| cR <| wm rfl <| wV rfl (run_bF (run_neq rfl rfl) (by exact fun h => h he)) <| wZ ?_
   refine cC rfl (fun h => ?_) (fun h => ?_)
   ·cases h
   repeat (first | refine cQ ?_ | refine cK ?_)
   refine cR <| wm rfl <| wn rfl rfl <| wV rfl (run_field (o' := 1) underlying34 rfl ty32 rfl rfl rfl) <| wV rfl (run_load1 ty32 rfl (hhl2 hs.has)) <| wm rfl <| wV rfl (run_ixSlN underlying32 ty115 rfl rfl (by omega)) <| wV rfl (run_field (o' := 2) underlying115 rfl ty3 rfl rfl rfl) <| wV rfl (run_load1 ty3 rfl ((hcell (j := 2) hs.has (by omega) rfl))) <| wa rfl <| wZ <| cQ <| cQ <| cR <| wm rfl <| wV rfl (run_bT (run_eql rfl rfl) (by exact hk0)) <| wZ ?_
   refine cC rfl (fun h => ?_) (fun h => ?_)
   ·refine cQ <| cR <| wa rfl <| wa rfl <| wZ ?_
    refine CW.ret ?_
    refine fin_ret2 rfl ?_
    exact ⟨_, [], A, congrArg (fun z => Ending.returned (.tuple #[.slice none 0 0, z])) hez, OwnSl.nil _ _, hR0, hs⟩
   ·cases h
  ·refine calls (n := 50) Tryz.func28 rfl rfl rfl ?_
   refine cQ <| cR <| wa rfl <| wa rfl <| wZ <| cQ <| cR <| wm rfl <| wm rfl <| wm rfl ?_
   refine wE rfl (run_call en30 rfl rfl) (hpk hs.has) ?_
   rintro e w ⟨rfl, hq⟩
   refine ⟨_, rfl, ?_⟩
   replace hs := hs.callE hq
   refine wm rfl <| wx rfl rfl rfl <| wx rfl rfl rfl <| wa rfl <| wa rfl <| wZ <| cQ <| cQ <| cR <| wm rfl <| wV rfl (run_bT (run_neq rfl rfl) (by exact he)) <| wZ ?_
   refine cC rfl (fun h => ?_) (fun h => ?_)
   ·refine cQ <| cR <| wm rfl <| wa rfl <| wa rfl <| wZ ?_
    refine CW.ret ?_
    refine fin_ret2 rfl ?_
    exact ⟨_, [], A, rfl, OwnSl.nil _ _, hR0, hs⟩
   ·cases h
 ·cases hi : s.is h with
  | none =>
   exfalso
   apply hbad
   unfold VS.peek
   rw [hi]
   exact .inl (by simp)
  | some x =>
   have hobt := is_nat hi
   obtain ⟨m, rfl⟩ := hobt
   obtain ⟨i, pl, mo⟩ := x
   have hobt := o.handle sn t hi
   obtain ⟨k, r, b0, c0, hF, hp, hd, hl, hat, hr, hx, hrd, huq0, hnl, hH, hhv, hcell⟩ := hobt
   have hbd := sn.ok.at_ i pl mo (List.mem_of_getElem? hH)
   have hxl := o.rlen sn.ok (List.mem_of_getElem? hr)
   have hobt : ∃ kz ez, s.peek (m : Int) n = (kz, ez) := ⟨_, _, rfl⟩
   obtain ⟨kz, ez, hpe⟩ := hobt
   have hread : s.read (m : Int) n = (((r.x).drop pl).take kz.toNat, 0, { s with H := s.H.set m (some (i, pl + kz.toNat, mo)) }) := by
    unfold VS.read
    rw [if_neg hbad, hi, hpe]
    simp only [hd, Int.toNat_natCast]
   rw [hread] at hkeep ⊢
   have hpv : kz = min n (max 0 ((r.x.length : Int) - pl)) ∧ ¬ n < 0 := by
    have h1 := hpe
    unfold VS.peek at h1
    rw [hi] at h1
    simp only [hl] at h1
    split at h1
    ·injection h1 with h1 h2
     exact absurd (by rw [hpe]; exact .inl (by rw [← h2]; simp)) hbad
    ·split at h1
     ·injection h1 with h1 h2
      exact absurd (by rw [hpe]; exact .inl (by rw [← h2]; simp)) hbad
     ·rename_i h3
      injection h1 with h1 h2
      exact ⟨h1.symm, h3⟩
   simp only [hpe] at hbad hpk
   have hez : ez = 0 := Classical.byContradiction fun h => hbad (.inl h)
   have hkz : kz ≠ 0 := fun h => hbad (.inr h)
   subst hez
   have hobt : ∃ j : Nat, kz = j := ⟨kz.toNat, by omega⟩
   obtain ⟨j, rfl⟩ := hobt
   rw [Int.toNat_natCast] at hkeep ⊢
   have hj1 : pl + j ≤ r.x.length := by omega
   have hj0 : 0 < j := by omega
   have hobt : ∃ s', ({ s with H := s.H.set m (some (i, pl + j, mo)) } : VS) = s' := ⟨_, rfl⟩
   obtain ⟨s', hs'⟩ := hobt
   have hv' : hv s' = (hv s).set m (some (r.p, pl + j, mo)) := by
    rw [← hs']
    have h1 := hv_setQ (s := s) (i := m) (x := some (i, pl + j, mo)) (k := s.op)
    rw [show (some (i, pl + j, mo) : Option (Nat × Nat × Nat)).map (fun h => (s.pth h.1, h.2.1, h.2.2)) = some (r.p, pl + j, mo) by rw [← hp]; rfl] at h1
    exact h1
   have his' : s'.is (m : Int) = some (i, pl + j, mo) := by
    rw [← hs']
    unfold VS.is
    rw [if_pos (Int.natCast_nonneg m), Int.toNat_natCast]
    show ((s.H.set m (some (i, pl + j, mo)))[m]?).join = _
    rw [List.getElem?_set_self (List.getElem?_eq_some_iff.1 hH).1]
    rfl
   have hd' : s'.data i = r.x := by rw [← hs']; exact hd
   have hobt := o.openH hhv
   obtain ⟨b, c, more, huq, hpm, hmk⟩ := hobt
   have hobt := hmk (s' := s') (h' := some (r.p, pl + j, mo)) hv' (by rw [← hs']; rfl) (by rw [← hs']) (by rw [← hs']) (by rw [← hs'])
   obtain ⟨A', o', hpm'⟩ := hobt
   rw [hs'] at hkeep ⊢
   obtain ⟨sn', t'⟩ := hkeep
   have hobt := rdata_spec o' sn' t' his'
   obtain ⟨r2, hr2, hd2, hl2, hda⟩ := hobt
   have er : r2.x = r.x := by rw [← hd2, hd']
   have hobt := (o'.data r2 hr2).some1 (by rw [er]; omega)
   obtain ⟨bx, cx, mx, hvx, hLx, hcx⟩ := hobt
   rw [hvx, er] at hda
   have hobt : ∃ S, A.map (·.1) = S := ⟨_, rfl⟩
   obtain ⟨S, hS⟩ := hobt
   rw [hS] at hs ⊢
   have hset := hsC_cell (X := more) (i := m) (j := 2) (h' := some (r.p, pl + j, mo)) (v := .int .i64 ((pl + j : Nat) : Int)) hhv (by omega) rfl
   have hbl : (hsC (hv s) ++ more).length = (hv s).length * 4 + more.length := by rw [List.length_append, hsC_len]
   have hhl2 : ∀ {w : World}, (∀ p ∈ A, w.heap[p.1]? = some p.2) → w.cell? ⟨bg, 0 + 1, none⟩ = some (.slice (some ⟨b, 0, none⟩) (hv s).length c) := fun hw => by
    rw [cell_blk (o.fs hw), ← huq]
    rfl
   have hcl : (hsC (hv s) ++ more)[0 + m * 4 + 2]? = some (.int .i64 (pl : Nat)) := hsC_get hhv (by omega)
   have hm0 := (List.getElem?_eq_some_iff.1 hcl).1
   have hcxl : r.x.length ≤ cx := by
    rw [er, List.length_append, u8s_len] at hcx
    omega
   have hmem : (bx, blk 5 (u8s r2.x ++ mx)) ∈ A' := o'.memD hr2 (by rw [hLx]; simp)
   refine calls (n := 50) Tryz.func28 rfl rfl rfl ?_
   refine cQ <| cR <| wa rfl <| wa rfl <| wZ <| cQ <| cR <| wm rfl <| wm rfl <| wm rfl ?_
   refine wE rfl (run_call en30 rfl rfl) (hpk hs.has) ?_
   rintro e w ⟨rfl, hq⟩
   refine ⟨_, rfl, ?_⟩
   replace hs := hs.callE hq
   refine wm rfl <| wx rfl rfl rfl <| wx rfl rfl rfl <| wa rfl <| wa rfl <| wZ <| cQ <| cQ <| cR <| wm rfl <| wV rfl (run_bF (run_neq rfl rfl) (by exact fun h => h rfl)) <| wZ ?_
   refine cC rfl (fun h => ?_) (fun h => ?_)
   ·cases h
   have hlo := hhl2 hs.has
   have hbk : w.heap[b]? = some (blk 115 (hsC (hv s) ++ more)) := (hs.perm hpm).hd
   repeat (first | refine cQ ?_ | refine cK ?_)
   refine cR <| wm rfl <| wn rfl rfl <| wV rfl (run_field (o' := 1) underlying34 rfl ty32 rfl rfl rfl) <| wV rfl (run_load1 ty32 rfl (hlo)) <| wm rfl <| wV rfl (run_ixSlN underlying32 ty115 rfl rfl (by omega)) <| wV rfl (run_field (o' := 2) underlying115 rfl ty3 rfl rfl rfl) <| wV rfl (run_load1 ty3 rfl ((by rw [cell_blk hbk]; exact hcl))) <| wa rfl <| wZ <| cQ <| cQ ?_
   refine cR <| wm rfl <| wV rfl (run_bF (run_eql rfl rfl) (by omega)) <| wZ ?_
   refine cC rfl (fun h => ?_) (fun h => ?_)
   ·cases h
   have hlo := hhl2 hs.has
   replace hs := hs.perm hpm
   repeat (first | refine cQ ?_ | refine cK ?_)
   refine cR <| wm rfl <| wn rfl rfl <| wV rfl (run_field (o' := 1) underlying34 rfl ty32 rfl rfl rfl) <| wV rfl (run_load1 ty32 rfl (hlo)) <| wm rfl <| wm rfl <| wm rfl <| wV rfl (run_add (c := ((pl + j : Nat) : Int)) rfl rfl (by omega) (by omega)) <| wV rfl (run_ixSlN underlying32 ty115 rfl rfl (by omega)) <| wV rfl (run_field (o' := 2) underlying115 rfl ty3 rfl rfl rfl) ?_
   refine WL.store1 ty3 rfl rfl (rfl) hs (by first | (simp; done) | omega | (simp only [List.length_append, List.length_replicate, List.length_cons, List.length_nil, List.length_set]; omega) | (simp [Ent.cells, u8s]; done) | exact Nat.le_of_ble_eq_true rfl) (fun w hs => ?_)
   refine wZ ?_
   replace hs : Step S ((b, blk 115 (hsC ((hv s).set m (some (r.p, pl + j, mo))) ++ more)) :: (bg, rO u uh s.qb s.qf s.qo) :: (Lu ++ R.flatMap (·.Lv))) w0 w := by
    rw [← hset]
    exact hs
   replace hs := hs.perm hpm'.symm
   have hdw := fun {w : World} (hw : ∀ p ∈ A', w.heap[p.1]? = some p.2) => hda hw
   have hslx : ∀ {w : World}, (∀ p ∈ A', w.heap[p.1]? = some p.2) → Sl w 1 (.slice (some ⟨bx, 0 + pl * 1, none⟩) (pl + j - pl) (cx - pl)) ((r.x.drop pl).take j).length (u8s ((r.x.drop pl).take j)) := fun hw => by
    have h1 := At.of_blk (T := 5) (hw _ hmem)
    have h2 := h1.left
    rw [er] at h2
    have hl3 : ((r.x.drop pl).take j).length = j := by rw [List.length_take, List.length_drop]; omega
    rw [show pl + j - pl = j by omega, hl3]
    refine .mk (by rw [u8s_len, hl3]; omega) ?_
    intro q v hq
    have hql := (List.getElem?_eq_some_iff.1 hq).1
    rw [u8s_len, hl3] at hql
    have h4 : (u8s r.x)[pl + q]? = some v := by
     rw [← hq]
     simp only [u8s, List.getElem?_map, List.getElem?_take, List.getElem?_drop, if_pos hql]
    have := h2.cell h4
    rw [show 0 + pl * 1 + q = 0 + (pl + q) by omega]
    exact this
   refine cQ <| cR <| wm rfl <| wm rfl ?_
   refine wE rfl (run_call en64 rfl rfl) (hdw hs.has) ?_
   rintro e w ⟨rfl, hq⟩
   refine ⟨_, rfl, ?_⟩
   replace hs := hs.callE hq
   refine wm rfl <| wm rfl <| wm rfl <| wV rfl (run_add (c := ((pl + j : Nat) : Int)) rfl rfl (by omega) (by omega)) <| wV rfl (run_sliceSlP (lo := pl) (hi := pl + j) (m := cx) underlying38 ty5 rfl rfl rfl rfl (by simp) (by omega) (by omega) (by omega) (by omega)) ?_
   refine wE rfl (run_call en52 rfl rfl) (twinR_spec _ (hslx hs.has) (by rw [List.length_take, List.length_drop]; omega)) ?_
   rintro e w ⟨v', Lv, rfl, hv9, hq⟩
   refine ⟨_, rfl, ?_⟩
   replace hs := hs.call0 hq
   refine wa rfl <| wa rfl <| wZ ?_
   refine CW.ret ?_
   refine fin_ret2 rfl ?_
   exact ⟨_, Lv, A', rfl, hv9, ⟨_, _, _, _, _, o'⟩, hs⟩
end
end Go.Gx
/-! Vq7 -/
namespace Go.Gx
open Go.Proofs Go.Proofs.Tryz Go.RowKit
set_option maxRecDepth 100000
section
variable {x y : List UInt8} {b : Nat}
/-- What stands in want after k of the bytes. -/
def midL (y b : List UInt8) (a k : Nat) : List UInt8 := y.take a ++ b.take k ++ y.drop (a + k)
theorem midL_zero {a : Nat} : midL y x a 0 = y := by simp [midL]
theorem midL_len {a k : Nat} (h : a + k ≤ y.length) (hk : k ≤ x.length) : (midL y x a k).length = y.length := by
 unfold midL
 simp only [List.length_append, List.length_take, List.length_drop]
 omega
theorem midL_set {a k : Nat} (h : a + k < y.length) (hk : k < x.length) : (midL y x a k).set (a + k) x[k] = midL y x a (k + 1) := by
 unfold midL
 have e1 : (y.take a ++ x.take k).length = a + k := by
  simp only [List.length_append, List.length_take]
  omega
 rw [List.set_append_right _ _ (by rw [e1]; exact Nat.le_refl _), e1, Nat.sub_self, List.drop_eq_getElem_cons h, List.set_cons_zero, ← List.take_append_getElem hk, show a + k + 1 = a + (k + 1) by omega]
 simp only [List.append_assoc, List.singleton_append]
theorem midL_over {a : Nat} : midL (x ++ List.replicate (a + b - x.length) 0) y a y.length = (x ++ List.replicate (a + b - x.length) 0).take a ++ y ++ (x ++ List.replicate (a + b - x.length) 0).drop (a + y.length) := by
 unfold midL
 rw [List.take_of_length_le (Nat.le_refl y.length)]
theorem over_mid {a : Nat} : overL x a y = midL (x ++ List.replicate (a + y.length - x.length) 0) y a y.length := by
 rw [midL_over]
 rfl
theorem u8s_set {i : Nat} {c : UInt8} {m : List Value} (h : i < x.length) : (u8s x ++ m).set i (.int .u8 c.toNat) = u8s (x.set i c) ++ m := by
 rw [List.set_append_left _ _ (by simpa [u8s] using h), u8s, u8s, List.map_set]
end
section
variable {s : VS}
theorem pth_set {i : Nat} {p x y : List UInt8} (h : s.F[i]? = some (p, x)) (j by1 : Nat) : VS.pth { s with F := s.F.set i (p, y), by_ := by1 } j = s.pth j := by
 unfold VS.pth
 show (((s.F.set i (p, y))[j]?).map (·.1)).getD [] = _
 by_cases hij : i = j
 ·subst hij
  rw [List.getElem?_set_self (List.getElem?_eq_some_iff.1 h).1, h]
  rfl
 ·rw [List.getElem?_set_ne hij]
theorem hv_F {i : Nat} {p x y : List UInt8} (h : s.F[i]? = some (p, x)) (by1 : Nat) : hv { s with F := s.F.set i (p, y), by_ := by1 } = hv s := by
 unfold hv
 have : (fun h : Nat × Nat × Nat => (VS.pth { s with F := s.F.set i (p, y), by_ := by1 } h.1, h.2.1, h.2.2)) = fun h => (s.pth h.1, h.2.1, h.2.2) := by
  funext h2
  rw [pth_set h]
 rw [this]
theorem items_setF (t : s.Tree) {i k : Nat} {p x y : List UInt8} (hF : s.F[i]? = some (p, x)) (hk : s.itemsL[k]? = some (p, false, x)) (by1 : Nat) : VS.itemsL { s with F := s.F.set i (p, y), by_ := by1 } = s.itemsL.set k (p, false, y) := by
 have hkl := (List.getElem?_eq_some_iff.1 hk).1
 have hil := (List.getElem?_eq_some_iff.1 hF).1
 have hpath : (s.itemsL.set k (p, false, y)).map (·.1) = s.itemsL.map (·.1) := by
  rw [List.map_set]
  apply List.ext_getElem?
  intro j
  by_cases hjk : k = j
  ·subst hjk
   rw [List.getElem?_set_self (by simpa using hkl), List.getElem?_map, hk]
   rfl
  ·rw [List.getElem?_set_ne hjk]
 have hnd2 : ((VS.itemsU { s with F := s.F.set i (p, y), by_ := by1 }).map (·.1)).Nodup := by
  have h1 : (VS.itemsU { s with F := s.F.set i (p, y), by_ := by1 }).map (·.1) = s.itemsU.map (·.1) := by
   unfold VS.itemsU
   rw [List.map_append, List.map_append]
   congr 1
   rw [List.map_map, List.map_map]
   show (s.F.set i (p, y)).map _ = _
   apply List.ext_getElem?
   intro j
   rw [List.getElem?_map, List.getElem?_map]
   by_cases hij : i = j
   ·subst hij
    rw [List.getElem?_set_self hil, hF]
    rfl
   ·rw [List.getElem?_set_ne hij]
  rw [h1]
  exact items_nodup t
 have hso : SortT (s.itemsL.set k (p, false, y)) := by
  have h1 : SortT s.itemsL := itemsL_sorted (items_nodup t)
  unfold SortT at h1 ⊢
  have e := (List.pairwise_map (f := fun t : Tri => t.1) (R := fun a b => lessP a b = true) (l := s.itemsL)).2 h1
  rw [← hpath] at e
  exact List.pairwise_map.1 e
 have hO : ∀ {l : List Tri} {j : Nat} {c : Tri}, l[j]? = some c → l.Perm (c :: l.eraseIdx j) := fun {l j c} h => by
  have h1 := flat_open (f := fun c : Tri => [c]) h
  have e1 : ∀ l : List Tri, l.flatMap (fun c => [c]) = l := fun l => by
   induction l with
   | nil => rfl
   | cons a l ih => rw [List.flatMap_cons, ih]; rfl
  rw [e1, e1] at h1
  exact h1
 have hOF : ∀ {l : List (List UInt8 × List UInt8)} {j : Nat} {c : List UInt8 × List UInt8}, l[j]? = some c → l.Perm (c :: l.eraseIdx j) := fun {l j c} h => by
  have h1 := flat_open (f := fun c : List UInt8 × List UInt8 => [c]) h
  have e1 : ∀ l : List (List UInt8 × List UInt8), l.flatMap (fun c => [c]) = l := fun l => by
   induction l with
   | nil => rfl
   | cons a l ih => rw [List.flatMap_cons, ih]; rfl
  rw [e1, e1] at h1
  exact h1
 have hobt : ∃ Z, ((s.D.map (·.1)).filter (fun p => decide (p ≠ []))).map (fun p => ((p, true, []) : Tri)) ++ (s.F.eraseIdx i).map (fun e => ((e.1, false, e.2) : Tri)) = Z := ⟨_, rfl⟩
 obtain ⟨Z, hZ⟩ := hobt
 have hU : ∀ {F : List (List UInt8 × List UInt8)} {c : List UInt8 × List UInt8}, F.Perm (c :: s.F.eraseIdx i) → (((s.D.map (·.1)).filter (fun p => decide (p ≠ []))).map (fun p => ((p, true, []) : Tri)) ++ F.map (fun e => ((e.1, false, e.2) : Tri))).Perm ((c.1, false, c.2) :: Z) := fun {F c} h => by
  rw [← hZ]
  exact ((h.map _).append_left _).trans List.perm_middle
 have h1 : s.itemsU.Perm ((p, false, x) :: Z) := hU (c := (p, x)) (hOF hF)
 have h2 : (VS.itemsU { s with F := s.F.set i (p, y), by_ := by1 }).Perm ((p, false, y) :: Z) := hU (F := s.F.set i (p, y)) (c := (p, y)) (by
  have h3 := hOF (l := s.F.set i (p, y)) (j := i) (c := (p, y)) (List.getElem?_set_self hil)
  rwa [List.eraseIdx_set_eq] at h3)
 have h3 : (s.itemsL.eraseIdx k).Perm Z := by
  have h4 : s.itemsL.Perm ((p, false, x) :: Z) := (itemsL_perm s.itemsU).trans h1
  exact List.Perm.cons_inv ((hO hk).symm.trans h4)
 have h5 : (s.itemsL.set k (p, false, y)).Perm ((p, false, y) :: Z) := by
  have h6 := hO (l := s.itemsL.set k (p, false, y)) (j := k) (c := (p, false, y)) (List.getElem?_set_self hkl)
  rw [List.eraseIdx_set_eq] at h6
  exact h6.trans (h3.cons _)
 exact sorted_eq (itemsL_sorted hnd2) hso (((itemsL_perm _).trans h2).trans h5.symm)
end
theorem rowsI_cons (r : RowI) (R : List RowI) : rowsI (r :: R) = r.enc ++ rowsI R := by simp [rowsI]
theorem rowsI_cell {R : List RowI} {X : List Value} {k : Nat} {r r' : RowI} (hr : R[k]? = some r) (hp : r'.p = r.p) (hd : r'.d = r.d) : (rowsI R ++ X).set (0 + k * 3 + 2) r'.v = rowsI (R.set k r') ++ X := by
 induction R generalizing k with
 | nil => simp at hr
 | cons a R ih =>
  have ha : a.enc.length = 3 := rfl
  cases k with
  | zero =>
   have : a = r := by simpa using hr
   subst this
   rw [rowsI_cons, List.append_assoc, List.set_append_left _ _ (by omega), List.set_cons_zero, rowsI_cons, List.append_assoc]
   congr 1
   unfold RowI.enc
   rw [hp, hd]
   rfl
  | succ k =>
   have h2 := ih (k := k) (by simpa using hr)
   rw [rowsI_cons, List.append_assoc, List.set_append_right _ _ (by omega), ha, show 0 + (k + 1) * 3 + 2 - 3 = 0 + k * 3 + 2 by omega, h2, List.set_cons_succ, rowsI_cons, List.append_assoc]
section
variable {α : Type} {x y : α} {l m n : List α}
theorem perm_qr1 : (x :: ([y] ++ (l ++ (m ++ n)))).Perm (y :: x :: (m ++ (l ++ n))) := by
 classical
 exact List.perm_iff_count.2 fun z => by
  simp only [List.count_append, List.count_cons, List.count_nil]
  omega
end
section
variable {bg : Nat} {s : VS} {A Lu Lh : List (Nat × Obj)} {u uh : Value} {R : List RowI} {w0 : World}
/-- One file's row and bytes, opened. -/
theorem ROpen.openR (o : ROpen bg s A u uh R Lu Lh) {k : Nat} {r : RowI} (hr : R[k]? = some r) : ∃ b c more Q, u = .slice (some ⟨b, 0, none⟩) R.length c ∧ A.Perm ((b, blk 56 (rowsI R ++ more)) :: (bg, rO u uh s.qb s.qf s.qo) :: (r.Lv ++ (Lh ++ Q))) ∧
  ∀ {s' : VS} {r' : RowI}, r'.p = r.p → r'.d = r.d → OwnSl 5 1 r'.v r'.x.length (u8s r'.x) r'.Lv → hv s' = hv s → s'.itemsL = s.itemsL.set k (r'.p, r'.d, r'.x) → s'.qb = s.qb → s'.qf = s.qf → s'.qo = s.qo → ∃ A', ROpen bg s' A' u uh (R.set k r') [(b, blk 56 (rowsI (R.set k r') ++ more))] Lh ∧ A'.Perm ((b, blk 56 (rowsI (R.set k r') ++ more)) :: (bg, rO u uh s.qb s.qf s.qo) :: (r'.Lv ++ (Lh ++ Q))) := by
 have hlt := (List.getElem?_eq_some_iff.1 hr).1
 have hobt := o.own.some1 (by omega)
 obtain ⟨b, c, more, hq, hL, hc⟩ := hobt
 refine ⟨b, c, more, (R.eraseIdx k).flatMap (·.Lv), hq, ?_, fun {s' r'} hp hd hv' h1 h2 h3 h4 h5 => ?_⟩
 ·rw [o.A, hL]
  exact ((((flat_open (f := fun r : RowI => r.Lv) hr).append_left Lh).append_left _).cons _).trans perm_qr1
 ·have hl : (R.set k r').length = R.length := List.length_set
  refine ⟨_, ⟨?_, fun q hq => ?_, ?_, by rw [h1]; exact o.oh, rfl⟩, ?_⟩
  ·refine ⟨by rw [rowsI_len], .inr ⟨b, c, more, by rw [hl]; exact hq, rfl, ?_⟩⟩
   rw [List.length_append, rowsI_len, hl]
   rw [List.length_append, rowsI_len] at hc
   exact hc
  ·rcases List.mem_or_eq_of_mem_set hq with h | rfl
   ·exact o.data q h
   ·exact hv'
  ·rw [h2, ← o.abs, absR, absR, List.map_set]
  ·rw [h3, h4, h5]
   have h6 := (flat_shut (f := fun r : RowI => r.Lv) (a := r') hlt).symm
   exact (((h6.append_left Lh).append_left _).cons _).trans perm_qr1
end
end Go.Gx
/-! Vq8 -/
namespace Go.Gx
open Go.Proofs Go.Proofs.Tryz Go.RowKit
set_option maxRecDepth 100000
section
variable {α : Type} {x y z : α} {l m n : List α}
theorem perm_qw1 : (x :: y :: (l ++ m)).Perm (l ++ (x :: y :: m)) := by
 classical
 exact List.perm_iff_count.2 fun z => by
  simp only [List.count_append, List.count_cons]
  omega
theorem perm_qw2 : (z :: (l ++ (x :: y :: m))).Perm (l ++ (z :: x :: y :: m)) := by
 classical
 exact List.perm_iff_count.2 fun z => by
  simp only [List.count_append, List.count_cons]
  omega
theorem perm_qw3 : (z :: x :: y :: m).Perm (x :: y :: ([z] ++ m)) := by
 classical
 exact List.perm_iff_count.2 fun z => by
  simp only [List.count_append, List.count_cons, List.count_nil]
  omega
end
section
variable {bg : Nat} {s : VS} {A Lu Lh : List (Nat × Obj)} {u uh : Value} {R : List RowI} {w0 : World}
set_option maxHeartbeats 8000000 in
theorem rWrite_spec (hR : RRep bg s A) (sn : s.Sane) (t : s.Tree) (q : s.Quo) (hw : Step (A.map (·.1)) A w0 w0) {h : Int} {v : Value} {b : List UInt8} (hv' : ∀ {L' : List (Nat × Obj)} {w : World}, Step (A.map (·.1)) L' w0 w → Sl w 1 v b.length (u8s b)) (hbl : b.length ≤ 9223372036854775807) : Calls Tryz.prog 32 #[.pointer (some ⟨bg, 0, none⟩), .int .i64 h, v] w0 fun e w' => ∃ A', e = .returned (.int .i64 (s.write h b).1) ∧ RRep bg (s.write h b).2 A' ∧ Step (A.map (·.1)) A' w0 w' := by
 have hR0 := hR
 obtain ⟨u, uh, R, Lu, Lh, o⟩ := hR
 have hs : Step (A.map (·.1)) A w0 w0 := hw
 have hobt := (hv' hs).form
 obtain ⟨av, cv, rfl⟩ := hobt
 have hmay := fun {w} hw => rMay_spec (w0 := w) (h := h) (n := (b.length : Nat)) o sn t q hw (by unfold i64s; omega)
 have hobt : ∃ S, A.map (·.1) = S := ⟨_, rfl⟩
 obtain ⟨S, hS⟩ := hobt
 rw [hS] at hs hv' ⊢
 by_cases hbad : s.may h b.length ≠ 0 ∨ b = []
 ·rw [show s.write h b = (s.may h b.length, s) by unfold VS.write; rw [if_pos hbad]]
  have hobt : ∃ mz, s.may h b.length = mz := ⟨_, rfl⟩
  obtain ⟨mz, hmz⟩ := hobt
  simp only [hmz] at hbad hmay ⊢
  by_cases hm0 : mz = 0
  ·have hb0 : b.length = 0 := by
    rcases hbad with h1 | h1
    ·exact absurd hm0 h1
    ·rw [h1]; rfl
   refine calls (n := 90) Tryz.func32 rfl rfl rfl ?_
   refine cQ <| cR <| wa rfl <| wZ <| cQ <| cR <| wm rfl <| wm rfl <| wm rfl <| wV rfl (run_lenSl underlying38 rfl) ?_
   refine wE rfl (run_call en35 rfl rfl) (hmay hs.has) ?_
   rintro e w ⟨rfl, hq⟩
   refine ⟨_, rfl, ?_⟩
   replace hs := hs.callE hq
   refine wa rfl <| wZ <| cQ <| cQ <| cR <| wm rfl <| wV rfl (run_bF (run_neq rfl rfl) (by exact fun h => h hm0)) <| wm rfl <| WL.yes rfl rfl rfl <| wm rfl <| WL.yes rfl rfl rfl <| wV rfl (run_lenSl underlying38 rfl) <| WL.yes rfl rfl rfl <| wV rfl (run_bT (run_eql rfl rfl) (by omega)) <| wV rfl (run_pickF rfl) <| wZ ?_
   refine cC rfl (fun h2 => ?_) (fun h2 => ?_)
   ·refine cQ <| cR <| wm rfl <| wa rfl <| wZ ?_
    refine CW.ret ?_
    refine fin_ret1 rfl ?_
    exact ⟨A, rfl, hR0, hs⟩
   ·cases h2
  ·refine calls (n := 90) Tryz.func32 rfl rfl rfl ?_
   refine cQ <| cR <| wa rfl <| wZ <| cQ <| cR <| wm rfl <| wm rfl <| wm rfl <| wV rfl (run_lenSl underlying38 rfl) ?_
   refine wE rfl (run_call en35 rfl rfl) (hmay hs.has) ?_
   rintro e w ⟨rfl, hq⟩
   refine ⟨_, rfl, ?_⟩
   replace hs := hs.callE hq
   refine wa rfl <| wZ <| cQ <| cQ <| cR <| wm rfl <| wV rfl (run_bT (run_neq rfl rfl) (by exact hm0)) <| wm rfl <| WL.no rfl rfl rfl (.inl rfl) <| WL.no rfl rfl rfl (.inl rfl) <| WL.no rfl rfl rfl (.inl rfl) <| wV rfl (run_pickT rfl) <| wZ ?_
   refine cC rfl (fun h2 => ?_) (fun h2 => ?_)
   ·refine cQ <| cR <| wm rfl <| wa rfl <| wZ ?_
    refine CW.ret ?_
    refine fin_ret1 rfl ?_
    exact ⟨A, rfl, hR0, hs⟩
   ·cases h2
 have hm0 : s.may h b.length = 0 := Classical.byContradiction fun h => hbad (.inl h)
 have hbne : b ≠ [] := fun h => hbad (.inr h)
 have hbpos : 0 < b.length := List.length_pos_iff.2 hbne
 cases hi : s.is h with
 | none =>
  exfalso
  unfold VS.may at hm0
  rw [hi] at hm0
  cases hm0
 | some x =>
  have hobt := is_nat hi
  obtain ⟨m, rfl⟩ := hobt
  obtain ⟨i, pl, mo⟩ := x
  have hobt := o.handle sn t hi
  obtain ⟨k, r, b0, c0, hF, hp, hd, hl, hat, hr, hx, hrd, huq0, hnl, hH, hhv, hcell⟩ := hobt
  have hxl := o.rlen sn.ok (List.mem_of_getElem? hr)
  have hobt : ∃ fr, s.from_ i pl mo = fr := ⟨_, rfl⟩
  obtain ⟨fr, hfre⟩ := hobt
  have hfb : fr + b.length ≤ 1048576 := by
   have h1 := hm0
   unfold VS.may at h1
   rw [hi] at h1
   simp only [hfre] at h1
   split at h1
   ·cases h1
   ·split at h1
    ·cases h1
    ·split at h1
     ·omega
     ·split at h1
      ·cases h1
      ·omega
  have hwr : s.write (m : Int) b = (0, { s with F := s.F.set i (r.p, overL r.x fr b), H := s.H.set m (some (i, fr + b.length, mo)), by_ := s.by_ + (fr + b.length - r.x.length) }) := by
   unfold VS.write
   rw [if_neg hbad, hi]
   simp only [hfre, hp, hd, hl, Int.toNat_natCast]
  rw [hwr]
  rw [hm0] at hmay
  have hfr := fun {w} hw => rfrom_spec (w0 := w) o sn t hw hi
  simp only [hfre] at hfr
  have hat2 := fun {w} hw => rat_spec (w0 := w) (p := r.p) o sn hw
  simp only [hat] at hat2
  have hhl2 : ∀ {w : World}, (∀ p ∈ A, w.heap[p.1]? = some p.2) → w.cell? ⟨bg, 0 + 1, none⟩ = some (.slice (some ⟨b0, 0, none⟩) (hv s).length c0) := fun hw => by
   rw [cell_blk (o.fs hw), ← huq0]
   rfl
  have hobt := o.openR hr
  obtain ⟨bu, cu, mu, Q, huu, hpm, hmk⟩ := hobt
  have hrx := o.data r (List.mem_of_getElem? hr)
  have hkl := (List.getElem?_eq_some_iff.1 hr).1
  have hul : ∀ {w : World}, (∀ p ∈ A, w.heap[p.1]? = some p.2) → w.cell? ⟨bg, 0, none⟩ = some (.slice (some ⟨bu, 0, none⟩) R.length cu) := fun hw => by
   rw [cell_blk (o.fs hw), ← huu]
   rfl
  have hrb : ∀ {w : World}, (∀ p ∈ A, w.heap[p.1]? = some p.2) → At w bu (0 + k * 3) r.enc := fun {w} hw => by
   have hobt := o.cells hr
   obtain ⟨b2, c2, h1, h2⟩ := hobt
   rw [huu] at h1
   injection h1 with h1
   injection h1 with h1
   injection h1 with h1
   rw [h1]
   exact h2 hw
  have hobt : ∃ x0, r.x = x0 := ⟨_, rfl⟩
  obtain ⟨x0, hx0⟩ := hobt
  have hobt := hrx.form
  obtain ⟨ax, cx, hvx⟩ := hobt
  refine calls (n := 90) Tryz.func32 rfl rfl rfl ?_
  refine cQ <| cR <| wa rfl <| wZ <| cQ <| cR <| wm rfl <| wm rfl <| wm rfl <| wV rfl (run_lenSl underlying38 rfl) ?_
  refine wE rfl (run_call en35 rfl rfl) (hmay hs.has) ?_
  rintro e w ⟨rfl, hq⟩
  refine ⟨_, rfl, ?_⟩
  replace hs := hs.callE hq
  refine wa rfl <| wZ <| cQ <| cQ <| cR <| wm rfl <| wV rfl (run_bF (run_neq rfl rfl) (by exact fun h => h rfl)) <| wm rfl <| WL.yes rfl rfl rfl <| wm rfl <| WL.yes rfl rfl rfl <| wV rfl (run_lenSl underlying38 rfl) <| WL.yes rfl rfl rfl <| wV rfl (run_bF (run_eql rfl rfl) (by omega)) <| wV rfl (run_pickF rfl) <| wZ ?_
  refine cC rfl (fun h2 => ?_) (fun h2 => ?_)
  ·cases h2
  repeat (first | refine cQ ?_ | refine cK ?_)
  refine cR <| wm rfl <| wm rfl ?_
  refine wE rfl (run_call en67 rfl rfl) (hfr hs.has) ?_
  rintro e w ⟨rfl, hq⟩
  refine ⟨_, rfl, ?_⟩
  replace hs := hs.callE hq
  refine wa rfl <| wZ <| cQ <| cR <| wm rfl <| wm rfl <| wn rfl rfl <| wV rfl (run_field (o' := 1) underlying34 rfl ty32 rfl rfl rfl) <| wV rfl (run_load1 ty32 rfl (hhl2 hs.has)) <| wm rfl <| wV rfl (run_ixSlN underlying32 ty115 rfl rfl (by omega)) <| wV rfl (run_field (o' := 1) underlying115 rfl ty9 rfl rfl rfl) <| wV rfl (run_load1 ty9 rfl ((hcell (j := 1) hs.has (by omega) rfl))) ?_
  refine wE rfl (run_call en60 rfl rfl) (hat2 hs.has) ?_
  rintro e w ⟨rfl, hq⟩
  refine ⟨_, rfl, ?_⟩
  replace hs := hs.callE hq
  refine wa rfl <| wZ <| cQ <| cR <| wm rfl <| wn rfl rfl <| wV rfl (run_field (o' := 0) underlying34 rfl ty22 rfl rfl rfl) <| wV rfl (run_load1 ty22 rfl (hul hs.has)) <| wm rfl <| wV rfl (run_ixSlN underlying22 ty56 rfl rfl (by omega)) <| wV rfl (run_field (o' := 2) underlying56 rfl ty38 rfl rfl rfl) <| wV rfl (run_load1 ty38 rfl (((hrb hs.has).cell (j := 2) (v := r.v) rfl))) <| wa rfl <| wZ ?_
  replace hs := (hs.perm hpm).perm perm_qw1
  rw [hvx] at hrx
  have hrx2 : OwnSl 5 1 (.slice ax r.x.length cx) (r.x ++ List.replicate 0 (0 : UInt8)).length (u8s (r.x ++ List.replicate 0 (0 : UInt8))) r.Lv := by
   rw [List.replicate_zero, List.append_nil]
   exact hrx
  refine CW.seqM (fun f w => ∃ vx Lx, OwnSl 5 1 vx (r.x ++ List.replicate (fr + b.length - r.x.length) (0 : UInt8)).length (u8s (r.x ++ List.replicate (fr + b.length - r.x.length) (0 : UInt8))) Lx ∧ Step S (Lx ++ ((bu, blk 56 (rowsI R ++ mu)) :: (bg, rO u uh s.qb s.qf s.qo) :: (Lh ++ Q))) w0 w ∧ Holds f [(0, .pointer (some ⟨bg, 0, none⟩)), (1, .int .i64 (m : Nat)), (2, .slice av b.length cv), (8, .int .i64 (fr : Nat)), (9, .int .i64 (k : Nat)), (10, vx)]) ?_ ?_
  ·refine CW.block ?_
   refine CW.loop (fun z f w => ∃ j vx Lx, z = fr + b.length - (r.x.length + j) ∧ j ≤ fr + b.length - r.x.length ∧ OwnSl 5 1 vx (r.x ++ List.replicate j (0 : UInt8)).length (u8s (r.x ++ List.replicate j (0 : UInt8))) Lx ∧ Step S (Lx ++ ((bu, blk 56 (rowsI R ++ mu)) :: (bg, rO u uh s.qb s.qf s.qo) :: (Lh ++ Q))) w0 w ∧ Holds f [(0, .pointer (some ⟨bg, 0, none⟩)), (1, .int .i64 (m : Nat)), (2, .slice av b.length cv), (8, .int .i64 (fr : Nat)), (9, .int .i64 (k : Nat)), (10, vx)]) (m := fr + b.length - r.x.length) ?_ ?_
   ·exact ⟨0, _, r.Lv, by omega, by omega, hrx2, hs, rfl, rfl, rfl, rfl, rfl, hvx, trivial⟩
   clear hs
   rintro z f w ⟨j, vx, Lx, rfl, hj, hox, hs, hf⟩
   have hobt := hf.chain
   obtain ⟨g, rfl⟩ := hobt
   have hxj : (r.x ++ List.replicate j (0 : UInt8)).length = r.x.length + j := by simp
   rw [hxj] at hox
   have hobt := hox.form
   obtain ⟨ax, cx, rfl⟩ := hobt
   by_cases hlt2 : r.x.length + j < fr + b.length
   ·have hxj1 : (r.x ++ List.replicate (j + 1) (0 : UInt8)).length = r.x.length + j + 1 := by simp; omega
    have hu1 : u8s (r.x ++ List.replicate (j + 1) 0) = u8s (r.x ++ List.replicate j 0) ++ [.int .u8 0] := by
     rw [List.replicate_succ', ← List.append_assoc]
     simp [u8s]
    refine cQ <| cQ <| cR <| wm rfl <| wV rfl (run_lenSl underlying38 rfl) <| wm rfl <| wm rfl <| wV rfl (run_lenSl underlying38 rfl) <| wV rfl (run_add (c := ((fr + b.length : Nat) : Int)) rfl rfl (by omega) (by omega)) <| wV rfl (run_bT (run_lss rfl rfl) (by omega)) <| wZ ?_
    refine cC rfl (fun h => ?_) (fun h => ?_)
    ·repeat (first | refine CW.block ?_ | refine cK ?_)
     refine cR <| wm rfl ?_
     refine WL.buildSlice (cs := [.int .u8 0]) underlying38 ty5 rfl (by decide) rfl (filled_s _ _ rfl) rfl hs (fun b54 w hs => ?_)
     have hsl1 : Sl w 1 (.slice (some ⟨b54, 0, none⟩) 1 1) 1 [.int .u8 0] := .own1 hs rfl
     refine WL.append underlying38 underlying38 ty5 rfl (by decide) rfl rfl (hox) ((hs.perm perm_qw2)) (hsl1) (Cells1.of_all rfl) (by first | omega | (simp only [List.length_append, List.length_cons, List.length_nil]; omega)) rfl (fun v55 Lv55 w hv55 hs => ?_)
     refine wa rfl <| wZ ?_
     replace hs := (hs.perm perm_qw2.symm).tail
     refine (show _ ∧ _ from ⟨rfl, _, ?_, j + 1, v55, Lv55, rfl, by omega, by rw [hxj1, hu1]; exact hv55, hs, rfl, rfl, rfl, rfl, rfl, rfl, trivial⟩)
     omega
    ·cases h
   ·obtain rfl : j = fr + b.length - r.x.length := by omega
    refine cQ <| cQ <| cR <| wm rfl <| wV rfl (run_lenSl underlying38 rfl) <| wm rfl <| wm rfl <| wV rfl (run_lenSl underlying38 rfl) <| wV rfl (run_add (c := ((fr + b.length : Nat) : Int)) rfl rfl (by omega) (by omega)) <| wV rfl (run_bF (run_lss rfl rfl) (by omega)) <| wZ ?_
    refine cC rfl (fun h => ?_) (fun h => ?_)
    ·cases h
    refine CW.exit ?_
    exact ⟨rfl, _, Lx, by rw [hxj]; exact hox, hs, rfl, rfl, rfl, rfl, rfl, rfl, trivial⟩
  clear hs
  rintro f w ⟨vx, Lx, hox, hs, hf⟩
  have hov := over_mid (x := r.x) (y := b) (a := fr)
  have hobt : ∃ Y, r.x ++ List.replicate (fr + b.length - r.x.length) 0 = Y := ⟨_, rfl⟩
  obtain ⟨Y, hY⟩ := hobt
  have hYl : fr + b.length ≤ Y.length ∧ Y.length ≤ 1048576 := by
   rw [← hY, List.length_append, List.length_replicate]
   omega
  rw [hY] at hox hov
  have hobt := hox.some1 (by omega)
  obtain ⟨bx, cx2, mx, hvx2, hLx, hcx⟩ := hobt
  subst hLx
  rw [hvx2] at hf hox
  have hobt := hf.chain
  obtain ⟨g, rfl⟩ := hobt
  refine CW.seqM (fun f w => Step S ((bx, blk 5 (u8s (midL Y b fr b.length) ++ mx)) :: (bu, blk 56 (rowsI R ++ mu)) :: (bg, rO u uh s.qb s.qf s.qo) :: (Lh ++ Q)) w0 w ∧ Holds f [(0, .pointer (some ⟨bg, 0, none⟩)), (1, .int .i64 (m : Nat)), (2, .slice av b.length cv), (8, .int .i64 (fr : Nat)), (9, .int .i64 (k : Nat)), (10, .slice (some ⟨bx, 0, none⟩) Y.length cx2)]) ?_ ?_
  ·refine cQ <| cR <| wa rfl <| wZ <| CW.block ?_
   refine CW.loop (fun z f w => ∃ j, j ≤ b.length ∧ z = b.length - j ∧ Step S ((bx, blk 5 (u8s (midL Y b fr j) ++ mx)) :: (bu, blk 56 (rowsI R ++ mu)) :: (bg, rO u uh s.qb s.qf s.qo) :: (Lh ++ Q)) w0 w ∧ Holds f [(0, .pointer (some ⟨bg, 0, none⟩)), (1, .int .i64 (m : Nat)), (2, .slice av b.length cv), (8, .int .i64 (fr : Nat)), (9, .int .i64 (k : Nat)), (10, .slice (some ⟨bx, 0, none⟩) Y.length cx2), (11, .int .i64 (j : Nat))]) (m := b.length) ?_ ?_
   ·refine ⟨0, by omega, by omega, ?_, rfl, rfl, rfl, rfl, rfl, rfl, rfl, trivial⟩
    rw [midL_zero]
    exact hs
   clear hs
   rintro z f w ⟨j, hj, rfl, hs, hf⟩
   by_cases hjl : j < b.length
   ·obtain ⟨bb, ob, cb, hvb⟩ : ∃ bb ob cb, (.slice av b.length cv : Value) = .slice (some ⟨bb, ob, none⟩) b.length cb := by
     have hobt := (hv' hs).based (by omega)
     obtain ⟨bb, ob, cb, h1, _⟩ := hobt
     exact ⟨bb, ob, cb, h1⟩
    have hbat : ∀ {L' : List (Nat × Obj)} {w : World}, Step S L' w0 w → At w bb ob (u8s b) := fun hs => by
     have hobt := (hv' hs).based (by omega)
     obtain ⟨b2, o2, c2, h1, h2⟩ := hobt
     rw [hvb] at h1
     injection h1 with h1 h3 h4
     injection h1 with h1
     injection h1 with h1 h5
     rw [h1, h5]
     exact h2
    rw [hvb] at hf
    have hobt := hf.chain
    obtain ⟨g, rfl⟩ := hobt
    have hml2 : (u8s (midL Y b fr j) ++ mx).length = Y.length + mx.length := by
     rw [List.length_append, u8s_len, midL_len (by omega) (by omega)]
    have hset : (u8s (midL Y b fr j) ++ mx).set (0 + (fr + j) * 1) (.int .u8 (b[j].toNat : Nat)) = u8s (midL Y b fr (j + 1)) ++ mx := by
     rw [Nat.zero_add, Nat.mul_one, u8s_set (by rw [midL_len (by omega) (by omega)]; omega), midL_set (by omega) hjl]
    refine cQ <| cQ <| cR <| wm rfl <| wm rfl <| wV rfl (run_lenSl underlying38 rfl) <| wV rfl (run_bT (run_lss rfl rfl) (by omega)) <| wZ ?_
    refine cC rfl (fun h => ?_) (fun h => ?_)
    ·repeat (first | refine cQ ?_ | refine CW.block ?_ | refine cK ?_)
     refine cR <| wm rfl <| wm rfl <| wm rfl <| wV rfl (run_add (c := ((fr + j : Nat) : Int)) rfl rfl (by omega) (by omega)) <| wm rfl <| wm rfl <| wV rfl (run_ixSlN underlying38 ty5 rfl rfl (by omega)) <| wV rfl (run_load1 ty5 rfl (((hbat hs).cell (j := j * 1) (v := .int .u8 (b[j].toNat : Nat)) (by rw [Nat.mul_one]; simp [u8s, hjl])))) <| wV rfl (run_ixSlN underlying38 ty5 rfl rfl (by omega)) ?_
     refine WL.store1 ty5 rfl rfl (rfl) hs (by first | (simp; done) | omega | (simp only [List.length_append, List.length_replicate, List.length_cons, List.length_nil, List.length_set]; omega) | (simp [Ent.cells, u8s]; done) | exact Nat.le_of_ble_eq_true rfl) (fun w hs => ?_)
     refine wZ <| cR <| wm rfl <| wV rfl (run_add (c := ((j + 1 : Nat) : Int)) rfl rfl (by omega) (by omega)) <| wa rfl <| wZ ?_
     refine (show _ ∧ _ from ⟨rfl, _, ?_, j + 1, by omega, rfl, by rw [← hset]; exact hs, rfl, rfl, hvb.symm, rfl, rfl, rfl, rfl, trivial⟩)
     omega
    ·cases h
   ·have hobt := hf.chain
    obtain ⟨g, rfl⟩ := hobt
    obtain rfl : j = b.length := by omega
    refine cQ <| cQ <| cR <| wm rfl <| wm rfl <| wV rfl (run_lenSl underlying38 rfl) <| wV rfl (run_bF (run_lss rfl rfl) (by omega)) <| wZ ?_
    refine cC rfl (fun h => ?_) (fun h => ?_)
    ·cases h
    refine CW.exit ?_
    exact ⟨rfl, hs, rfl, rfl, rfl, rfl, rfl, rfl, trivial⟩
  clear hs
  rintro f w ⟨hs, hf⟩
  have hobt := hf.chain
  obtain ⟨g, rfl⟩ := hobt
  rw [← hov] at hs
  have hol : (overL r.x fr b).length = Y.length := by rw [hov, midL_len (by omega) (Nat.le_refl _)]
  have hex : ∃ r' : RowI, r' = ⟨r.p, r.d, .slice (some ⟨bx, 0, none⟩) Y.length cx2, overL r.x fr b, [(bx, blk 5 (u8s (overL r.x fr b) ++ mx))], rfl, r.hp⟩ := ⟨_, rfl⟩
  obtain ⟨r', hr'⟩ := hex
  have hp' : r'.p = r.p := by rw [hr']
  have hd' : r'.d = r.d := by rw [hr']
  have hx' : r'.x = overL r.x fr b := by rw [hr']
  have hown' : OwnSl 5 1 r'.v r'.x.length (u8s r'.x) r'.Lv := by
   rw [hr']
   show OwnSl _ 1 (.slice (some ⟨bx, 0, none⟩) Y.length cx2) (overL r.x fr b).length (u8s (overL r.x fr b)) [(bx, blk 5 (u8s (overL r.x fr b) ++ mx))]
   rw [hol]
   refine ⟨by rw [u8s_len, hol]; omega, .inr ⟨bx, cx2, mx, rfl, rfl, ?_⟩⟩
   rw [List.length_append, u8s_len, hol]
   rw [List.length_append, u8s_len] at hcx
   exact hcx
  have hobt : ∃ s1 : VS, { s with F := s.F.set i (r.p, overL r.x fr b), by_ := s.by_ + (fr + b.length - r.x.length) } = s1 := ⟨_, rfl⟩
  obtain ⟨s1, hs1⟩ := hobt
  have hv1 : hv s1 = hv s := by rw [← hs1]; exact hv_F hF _
  have hi1 : s1.itemsL = s.itemsL.set k (r'.p, r'.d, r'.x) := by
   rw [← hs1, hp', hd', hrd, hx']
   exact items_setF t hF hx _
  have hobt := hmk (s' := s1) (r' := r') hp' hd' hown' hv1 hi1 (by rw [← hs1]) (by rw [← hs1]) (by rw [← hs1])
  obtain ⟨A1, o1, hpm1⟩ := hobt
  have hrows := rowsI_cell (X := mu) hr hp' hd'
  have hrlen : (rowsI R ++ mu).length = R.length * 3 + mu.length := by rw [List.length_append, rowsI_len]
  have hbgc : (u :: [uh, .int .i64 s.qb, .int .i64 s.qf, .int .i64 s.qo])[0]? = some (.slice (some ⟨bu, 0, none⟩) R.length cu) := by rw [← huu]; rfl
  refine cQ <| cR <| wm rfl <| wn rfl rfl <| wV rfl (run_field (o' := 0) underlying34 rfl ty22 rfl rfl rfl) <| wV rfl (run_load1 ty22 rfl (hs.c2 hbgc)) <| wm rfl <| wm rfl <| wV rfl (run_ixSlN underlying22 ty56 rfl rfl (by omega)) <| wV rfl (run_field (o' := 2) underlying56 rfl ty38 rfl rfl rfl) ?_
  refine WL.store1_1 ty38 rfl rfl (rfl) hs (by first | (simp; done) | omega | (simp only [List.length_append, List.length_replicate, List.length_cons, List.length_nil, List.length_set]; omega) | (simp [Ent.cells, u8s]; done) | exact Nat.le_of_ble_eq_true rfl) (fun w hs => ?_)
  refine wZ ?_
  replace hs : Step S ((bx, blk 5 (u8s (overL r.x fr b) ++ mx)) :: (bu, blk 56 (rowsI (R.set k r') ++ mu)) :: (bg, rO u uh s.qb s.qf s.qo) :: (Lh ++ Q)) w0 w := by
   rw [← hrows, hr']
   exact hs
  have hs2 : Step S A1 w0 w := by
   refine Step.perm ?_ hpm1.symm
   rw [show r'.Lv = [(bx, blk 5 (u8s (overL r.x fr b) ++ mx))] by rw [hr']]
   exact hs.perm perm_qw3
  clear hs
  have hs := hs2
  clear hs2
  rw [← hv1] at hhv
  have hobt := o1.openH hhv
  obtain ⟨bh, ch, mh, huh, hpmh, hmkh⟩ := hobt
  have hobt : ∃ s2 : VS, { s with F := s.F.set i (r.p, overL r.x fr b), H := s.H.set m (some (i, fr + b.length, mo)), by_ := s.by_ + (fr + b.length - r.x.length) } = s2 := ⟨_, rfl⟩
  obtain ⟨s2, hs2⟩ := hobt
  have hv2 : hv s2 = (hv s1).set m (some (r.p, fr + b.length, mo)) := by
   have h1 := hv_setQ (s := s1) (i := m) (x := some (i, fr + b.length, mo)) (k := s1.op)
   have h2 : s1.pth i = r.p := by rw [← hs1, pth_set hF, hp]
   rw [show (some (i, fr + b.length, mo) : Option (Nat × Nat × Nat)).map (fun h => (s1.pth h.1, h.2.1, h.2.2)) = some (r.p, fr + b.length, mo) by rw [← h2]; rfl] at h1
   rw [← h1, ← hs2, ← hs1]
  have hobt := hmkh (s' := s2) (h' := some (r.p, fr + b.length, mo)) hv2 (by rw [← hs2, ← hs1]; rfl) (by rw [← hs2, ← hs1]) (by rw [← hs2, ← hs1]) (by rw [← hs2, ← hs1])
  obtain ⟨A2, o2, hpm2⟩ := hobt
  have hset := hsC_cell (X := mh) (i := m) (j := 2) (h' := some (r.p, fr + b.length, mo)) (v := .int .i64 ((fr + b.length : Nat) : Int)) hhv (by omega) rfl
  have hcl : (hsC (hv s1) ++ mh)[0 + m * 4 + 2]? = some (.int .i64 (pl : Nat)) := hsC_get hhv (by omega)
  have hm9 := (List.getElem?_eq_some_iff.1 hcl).1
  have hlo : w.cell? ⟨bg, 0 + 1, none⟩ = some (.slice (some ⟨bh, 0, none⟩) (hv s1).length ch) := by
   rw [cell_blk (o1.fs hs.has), ← huh]
   rfl
  have hml : m < (hv s1).length := (List.getElem?_eq_some_iff.1 hhv).1
  replace hs := hs.perm hpmh
  refine cQ <| cR <| wm rfl <| wn rfl rfl <| wV rfl (run_field (o' := 1) underlying34 rfl ty32 rfl rfl rfl) <| wV rfl (run_load1 ty32 rfl (hlo)) <| wm rfl <| wm rfl <| wm rfl <| wV rfl (run_lenSl underlying38 rfl) <| wV rfl (run_add (c := ((fr + b.length : Nat) : Int)) rfl rfl (by omega) (by omega)) <| wV rfl (run_ixSlN underlying32 ty115 rfl rfl (by omega)) <| wV rfl (run_field (o' := 2) underlying115 rfl ty3 rfl rfl rfl) ?_
  refine WL.store1 ty3 rfl rfl (rfl) hs (by first | (simp; done) | omega | (simp only [List.length_append, List.length_replicate, List.length_cons, List.length_nil, List.length_set]; omega) | (simp [Ent.cells, u8s]; done) | exact Nat.le_of_ble_eq_true rfl) (fun w hs => ?_)
  refine wZ ?_
  replace hs : Step S ((bh, blk 115 (hsC ((hv s1).set m (some (r.p, fr + b.length, mo))) ++ mh)) :: (bg, rO u uh s1.qb s1.qf s1.qo) :: ([(bu, blk 56 (rowsI (R.set k r') ++ mu))] ++ (R.set k r').flatMap (·.Lv))) w0 w := by
   rw [← hset]
   exact hs
  refine cQ <| cR <| wa rfl <| wZ ?_
  refine CW.ret ?_
  refine fin_ret1 rfl ?_
  have h9 : RRep bg s2 A2 := ⟨_, _, _, _, _, o2⟩
  rw [← hs2] at h9
  exact ⟨A2, rfl, h9, hs.perm hpm2.symm⟩
end
end Go.Gx
/-! Vq9 -/
namespace Go.Gx
open Go.Proofs Go.Proofs.Tryz Go.RowKit
set_option maxRecDepth 100000
theorem refSplit_spec {p : List UInt8} (w0 : World) (hs1 : p.length < 4294967281) : Calls Tryz.prog 61 #[str p] w0 (Ret0 (.tuple #[str (splitR p).1, str (splitR p).2.1, .int .i64 (splitR p).2.2]) w0) := by
 have hs : Step [] [] w0 w0 := Step.refl w0
 have hic := refIsClean_spec (s := p) w0 hs1
 by_cases hc : isCleanL p = false
 ·have e : splitR p = ([], [], 31) := by rw [splitR, if_pos hc]
  rw [hc] at hic
  refine calls (n := 26) Tryz.func61 rfl rfl rfl ?_
  refine cQ <| cR <| wa rfl <| wa rfl <| wa rfl <| wZ <| cQ <| cQ <| cR <| wm rfl ?_
  refine wE rfl (run_call en73 rfl rfl) (hic) ?_
  rintro e w ⟨rfl, hq⟩
  refine ⟨_, rfl, ?_⟩
  replace hs := hs.callE hq
  refine wV rfl (run_not rfl) <| wZ ?_
  repeat (first | refine cQ ?_ | refine CW.condT rfl ?_)
  refine cR <| wa rfl <| wa rfl <| wa rfl <| wZ ?_
  refine CW.ret ?_
  refine fin_ret3 rfl ?_
  exact split3 e hs
 ·have hc' : isCleanL p = true := by simpa using hc
  rw [hc'] at hic
  have hobt := clean_named hc'
  obtain ⟨hnm, hl⟩ := hobt
  have hpl := clean_len hc'
  by_cases h0 : partsL p = []
  ·have e : splitR p = ([], [], 32) := by rw [splitR, if_neg hc, if_pos h0]
   have hp0 : (partsL p).length = 0 := by rw [h0]; rfl
   refine calls (n := 26) Tryz.func61 rfl rfl rfl ?_
   refine cQ <| cR <| wa rfl <| wa rfl <| wa rfl <| wZ <| cQ <| cQ <| cR <| wm rfl ?_
   refine wE rfl (run_call en73 rfl rfl) (hic) ?_
   rintro e w ⟨rfl, hq⟩
   refine ⟨_, rfl, ?_⟩
   replace hs := hs.callE hq
   refine wV rfl (run_not rfl) <| wZ ?_
   repeat (first | refine cQ ?_ | refine cK ?_ | refine CW.condF rfl ?_)
   refine cR <| wm rfl ?_
   refine wE rfl (run_call en89 rfl rfl) (refParts_spec _ hs1) ?_
   rintro e w ⟨u, Lu, rfl, hu, hq⟩
   refine ⟨_, rfl, ?_⟩
   replace hs := hs.call0 hq
   have hform := hu.form
   obtain ⟨a, c, hq2⟩ := hform
   subst hq2
   refine wa rfl <| wZ <| cQ <| cQ <| cR <| wm rfl <| wV rfl (run_lenSl underlying88 rfl) <| wV rfl (run_bT (run_eql rfl rfl) (by omega)) <| wZ ?_
   repeat (first | refine cQ ?_ | refine CW.condT rfl ?_)
   refine cR <| wa rfl <| wa rfl <| wa rfl <| wZ ?_
   refine CW.ret ?_
   refine fin_ret3 rfl ?_
   exact split3 e hs.clear
  ·have hpos : 0 < (partsL p).length := List.length_pos_iff.2 h0
   have hobt : ∃ n, (partsL p).getLast h0 = n := ⟨_, rfl⟩
   obtain ⟨n, hn⟩ := hobt
   have e : splitR p = (joinL (partsL p).dropLast, n, 0) := by
    rw [splitR, if_neg hc, if_neg h0, ← hn]
    congr 2
    exact List.getLastD_eq_getLast?.trans (by rw [List.getLast?_eq_some_getLast h0]; rfl)
   have hgn : (partsL p)[(partsL p).length - 1]? = some n := by rw [← hn, List.getLast_eq_getElem, List.getElem?_eq_getElem]
   have hbd : ((partsL p).dropLast.map fun x => x.length + 1).sum ≤ 9000000 := by
    have := named_join (row := (partsL p).dropLast) (fun q hq => hnm q (List.dropLast_subset _ hq))
    rw [List.length_dropLast] at this
    omega
   refine calls (n := 26) Tryz.func61 rfl rfl rfl ?_
   refine cQ <| cR <| wa rfl <| wa rfl <| wa rfl <| wZ <| cQ <| cQ <| cR <| wm rfl ?_
   refine wE rfl (run_call en73 rfl rfl) (hic) ?_
   rintro e w ⟨rfl, hq⟩
   refine ⟨_, rfl, ?_⟩
   replace hs := hs.callE hq
   refine wV rfl (run_not rfl) <| wZ ?_
   repeat (first | refine cQ ?_ | refine cK ?_ | refine CW.condF rfl ?_)
   refine cR <| wm rfl ?_
   refine wE rfl (run_call en89 rfl rfl) (refParts_spec _ hs1) ?_
   rintro e w ⟨u, Lu, rfl, hu, hq⟩
   refine ⟨_, rfl, ?_⟩
   replace hs : Step [] Lu w0 w := (hs.call0 hq).dropR
   have hsm := hu.some1 hpos
   obtain ⟨b, cap, more, hq2, hqL, hcp⟩ := hsm
   subst hq2
   refine wa rfl <| wZ ?_
   have hcut := hu.cut1 hpos
   have hcell : ∀ {w'}, Step [] Lu w0 w' → w'.cell? ⟨b, 0 + ((partsL p).length - 1) * 1, none⟩ = some (str n) := fun {w'} h' => by
    rw [hqL] at h'
    rw [cell_blk h'.hd, Nat.zero_add, Nat.mul_one, List.getElem?_append_left (by rw [strs_len]; omega)]
    simp [strs, hgn]
   have hcl : (partsL p).length - 1 ≤ cap := by
    rw [List.length_append, strs_len] at hcp
    omega
   refine cQ <| cQ <| cR <| wm rfl <| wV rfl (run_lenSl underlying88 rfl) <| wV rfl (run_bF (run_eql rfl rfl) (by omega)) <| wZ ?_
   repeat (first | refine cQ ?_ | refine cK ?_ | refine CW.condF rfl ?_)
   refine CW.quiet mixedP (by kernel_rfl) hs ?_
   refine qm rfl <| qm rfl <| qV rfl (fun w hs => run_lenSl underlying88 rfl) <| qV rfl (fun w hs => run_sub (c := (((partsL p).length - 1 : Nat) : Int)) rfl rfl (by omega) (by omega)) <| qV rfl (fun w hs => run_sliceSl0  underlying88 ty9 rfl rfl rfl (by simp) (by omega) (by omega)) ?_
   refine QL.enter rfl (fun w => run_call en91 rfl rfl) (fun w hs => refPath_spec _ hcut hs.own0 hbd) ?_
   refine qm rfl <| qm rfl <| qV rfl (fun w hs => run_lenSl underlying88 rfl) <| qV rfl (fun w hs => run_sub (c := (((partsL p).length - 1 : Nat) : Int)) rfl rfl (by omega) (by omega)) <| qV rfl (fun w hs => run_ixSlN underlying88 ty9 rfl rfl (by omega)) <| qV rfl (fun w hs => run_load1 ty9 rfl ((hcell hs))) <| qV rfl (fun w hs => run_assign) <| qV rfl (fun w hs => run_assign) <| qV rfl (fun w hs => run_assign) ?_
   refine QL.nil (fun w hs => ?_)
   refine CW.ret ?_
   refine fin_ret3 rfl ?_
   exact split3 e hs.clear
theorem cnt_take {l : List Tri} {i : Nat} {x : Tri} (hx : l[i]? = some x) (u : List UInt8) : cntL (l.take (i + 1)) u = cntL (l.take i) u + (if (splitR x.1).1 = u then 1 else 0) := cnt_step hx u
theorem cnt_kids {s : VS} (t : s.Tree) (u : List UInt8) : cntL s.itemsL u = s.kids u := by
 have h1 : cntL s.itemsL u = cntL s.itemsU u := ((itemsL_perm s.itemsU).filter _).length_eq
 rw [h1]
 unfold cntL VS.itemsU VS.kids
 rw [List.filter_append, List.length_append, kids_A, kids_B t.nz]
section
variable {bg : Nat} {s : VS} {A Lu Lh : List (Nat × Obj)} {u uh : Value} {R : List RowI} {w0 : World}
set_option maxHeartbeats 2000000 in
theorem rbelow_spec (o : ROpen bg s A u uh R Lu Lh) (sn : s.Sane) (t : s.Tree) (hw : ∀ p ∈ A, w0.heap[p.1]? = some p.2) {d : List UInt8} : Calls Tryz.prog 62 #[.pointer (some ⟨bg, 0, none⟩), str d] w0 (Ret0 (.int .i64 (s.kids d : Nat)) w0) := by
 have hs : Step [] [] w0 w0 := Step.refl w0
 have hlw : ∀ {L : List (Nat × Obj)} {w : World}, Step [] L w0 w → ∀ p ∈ A, w.heap[p.1]? = some p.2 := fun hs p hp => hs.old (hw p hp) (by simp)
 have hln := o.len
 have hn := itemsL_n sn
 have hck := cnt_kids t d
 have hof := o.own.form
 obtain ⟨au, cu, hu⟩ := hof
 have hul : ∀ {L : List (Nat × Obj)} {w : World}, Step [] L w0 w → w.cell? ⟨bg, 0, none⟩ = some (.slice au R.length cu) := fun hs => by
  rw [cell_blk (o.fs (hlw hs)), ← hu]
  rfl
 refine calls (n := 38) Tryz.func62 rfl rfl rfl ?_
 refine cQ <| cR <| wa rfl <| wZ <| cQ <| cR <| wa rfl <| wZ <| cQ <| cQ <| cR <| wa rfl <| wZ <| CW.block ?_
 refine CW.loop (fun m f w => ∃ i, i ≤ R.length ∧ m = R.length - i ∧ cntL (s.itemsL.take i) d ≤ i ∧ Step [] [] w0 w ∧ Holds f [(0, .pointer (some ⟨bg, 0, none⟩)), (1, str d), (5, .int .i64 (cntL (s.itemsL.take i) d : Nat)), (6, .int .i64 (i : Nat))]) (m := R.length) ?_ ?_
 ·exact ⟨0, by omega, rfl, by simp [cntL], hs, rfl, rfl, rfl, rfl, trivial⟩
 clear hs
 rintro m f w ⟨i, hi, rfl, hle, hs, hf⟩
 have hobt := hf.chain
 obtain ⟨g, rfl⟩ := hobt
 by_cases hlt : i < R.length
 ·have hobt : ∃ x, s.itemsL[i]? = some x := ⟨_, List.getElem?_eq_getElem (by omega)⟩
  obtain ⟨x, hx⟩ := hobt
  have hobt := o.row hx
  obtain ⟨r, hr, hrp, _, _⟩ := hobt
  have hobt := o.cells hr
  obtain ⟨b, c, huq, hcell⟩ := hobt
  have hrpl := r.hp
  rw [hrp] at hrpl
  have hst := cnt_take hx d
  have hul2 : ∀ {L : List (Nat × Obj)} {w : World}, Step [] L w0 w → w.cell? ⟨bg, 0, none⟩ = some (.slice (some ⟨b, 0, none⟩) R.length c) := fun hs => by
   rw [cell_blk (o.fs (hlw hs)), ← huq]
   rfl
  have hspl := fun w => refSplit_spec (p := x.1) w (by omega)
  have hobt : ∃ up nm e, splitR x.1 = (up, nm, e) := ⟨_, _, _, rfl⟩
  obtain ⟨up, nm, e, hsp⟩ := hobt
  simp only [hsp] at hspl hst
  refine cQ <| cQ <| cR <| wm rfl <| wm rfl <| wn rfl rfl <| wV rfl (run_field (o' := 0) underlying34 rfl ty22 rfl rfl rfl) <| wV rfl (run_load1 ty22 rfl (hul hs)) <| wV rfl (run_lenSl underlying22 rfl) <| wV rfl (run_bT (run_lss rfl rfl) (by omega)) <| wZ ?_
  refine cC rfl (fun h => ?_) (fun h => ?_)
  ·by_cases hd : up = d
   ·rw [if_pos hd] at hst
    repeat (first | refine cQ ?_ | refine CW.block ?_ | refine cK ?_)
    refine cR <| wm rfl <| wn rfl rfl <| wV rfl (run_field (o' := 0) underlying34 rfl ty22 rfl rfl rfl) <| wV rfl (run_load1 ty22 rfl (hul2 hs)) <| wm rfl <| wV rfl (run_ixSlN underlying22 ty56 rfl rfl (by omega)) <| wV rfl (run_field (o' := 0) underlying56 rfl ty9 rfl rfl rfl) <| wV rfl (run_load1 ty9 rfl (((hcell (hlw hs)).cell (j := 0) (v := str x.1) (by rw [← hrp]; rfl)))) ?_
    refine wE rfl (run_call en61 rfl rfl) (hspl _) ?_
    rintro e w ⟨rfl, hq⟩
    refine ⟨_, rfl, ?_⟩
    replace hs := hs.callE hq
    refine wm rfl <| wx rfl rfl rfl <| wx rfl rfl rfl <| wx rfl rfl rfl <| wa rfl <| wa rfl <| wa rfl <| wZ <| cQ <| cR <| wm rfl <| wm rfl <| wV rfl (run_bT (run_strEq rfl rfl) (by exact hd)) <| wZ ?_
    refine cC rfl (fun h => ?_) (fun h => ?_)
    ·skip
     refine cR <| wm rfl <| wV rfl (run_add (c := ((cntL (s.itemsL.take (i + 1)) d : Nat) : Int)) rfl rfl (by omega) (by omega)) <| wa rfl <| wZ <| cR <| wm rfl <| wV rfl (run_add (c := ((i + 1 : Nat) : Int)) rfl rfl (by omega) (by omega)) <| wa rfl <| wZ ?_
     refine (show _ ∧ _ from ⟨rfl, _, ?_, i + 1, by omega, rfl, by omega, hs, rfl, rfl, rfl, rfl, trivial⟩)
     omega
    ·cases h
   ·rw [if_neg hd] at hst
    have hv2 : Value.int .i64 (cntL (s.itemsL.take i) d : Nat) = .int .i64 (cntL (s.itemsL.take (i + 1)) d : Nat) := by rw [hst, Nat.add_zero]
    repeat (first | refine cQ ?_ | refine CW.block ?_ | refine cK ?_)
    refine cR <| wm rfl <| wn rfl rfl <| wV rfl (run_field (o' := 0) underlying34 rfl ty22 rfl rfl rfl) <| wV rfl (run_load1 ty22 rfl (hul2 hs)) <| wm rfl <| wV rfl (run_ixSlN underlying22 ty56 rfl rfl (by omega)) <| wV rfl (run_field (o' := 0) underlying56 rfl ty9 rfl rfl rfl) <| wV rfl (run_load1 ty9 rfl (((hcell (hlw hs)).cell (j := 0) (v := str x.1) (by rw [← hrp]; rfl)))) ?_
    refine wE rfl (run_call en61 rfl rfl) (hspl _) ?_
    rintro e w ⟨rfl, hq⟩
    refine ⟨_, rfl, ?_⟩
    replace hs := hs.callE hq
    refine wm rfl <| wx rfl rfl rfl <| wx rfl rfl rfl <| wx rfl rfl rfl <| wa rfl <| wa rfl <| wa rfl <| wZ <| cQ <| cR <| wm rfl <| wm rfl <| wV rfl (run_bF (run_strEq rfl rfl) (by exact hd)) <| wZ ?_
    refine cC rfl (fun h => ?_) (fun h => ?_)
    ·cases h
    refine cK <| cR <| wm rfl <| wV rfl (run_add (c := ((i + 1 : Nat) : Int)) rfl rfl (by omega) (by omega)) <| wa rfl <| wZ ?_
    refine (show _ ∧ _ from ⟨rfl, _, ?_, i + 1, by omega, rfl, by omega, hs, rfl, rfl, hv2, rfl, trivial⟩)
    omega
  ·cases h
 ·have hv2 : Value.int .i64 (cntL (s.itemsL.take i) d : Nat) = .int .i64 (s.kids d : Nat) := by rw [List.take_of_length_le (by omega), hck]
  refine cQ <| cQ <| cR <| wm rfl <| wm rfl <| wn rfl rfl <| wV rfl (run_field (o' := 0) underlying34 rfl ty22 rfl rfl rfl) <| wV rfl (run_load1 ty22 rfl (hul hs)) <| wV rfl (run_lenSl underlying22 rfl) <| wV rfl (run_bF (run_lss rfl rfl) (by omega)) <| wZ ?_
  refine cC rfl (fun h => ?_) (fun h => ?_)
  ·cases h
  repeat (first | refine cQ ?_ | refine CW.exit ?_)
  refine cR <| wm rfl <| wa rfl <| wZ ?_
  refine CW.ret ?_
  refine fin_ret1 rfl ?_
  exact ⟨congrArg Ending.returned hv2, hs⟩
end
/-- The document's files, as lists. -/
structure LOpen (bg : Nat) (l : List Tri) (H : List (Option (List UInt8 × Nat × Nat))) (a b c : Int) (A : List (Nat × Obj)) (u uh : Value) (R : List RowI) (Lu Lh : List (Nat × Obj)) : Prop where
 own : OwnSl 56 3 u R.length (rowsI R) Lu
 data : ∀ r ∈ R, OwnSl 5 1 r.v r.x.length (u8s r.x) r.Lv
 abs : absR R = l
 oh : OwnSl 115 4 uh H.length (hsC H) Lh
 A : A = (bg, rO u uh a b c) :: (Lu ++ (Lh ++ R.flatMap (·.Lv)))
theorem ROpen.toL {bg : Nat} {s : VS} {A Lu Lh : List (Nat × Obj)} {u uh : Value} {R : List RowI} (o : ROpen bg s A u uh R Lu Lh) : LOpen bg s.itemsL (hv s) s.qb s.qf s.qo A u uh R Lu Lh := ⟨o.own, o.data, o.abs, o.oh, o.A⟩
theorem sort_ins {l : List Tri} {k : Nat} {x : Tri} (hs : SortT l) (h1 : ∀ (j : Nat) y, j < k → l[j]? = some y → lessP y.1 x.1 = true) (h2 : ∀ (j : Nat) y, k ≤ j → l[j]? = some y → lessP x.1 y.1 = true) : SortT (l.take k ++ x :: l.drop k) := by
 unfold SortT at hs ⊢
 rw [List.pairwise_append, List.pairwise_cons]
 refine ⟨hs.sublist (List.take_sublist _ _), ⟨fun y hy => ?_, hs.sublist (List.drop_sublist _ _)⟩, fun y hy z hz => ?_⟩
 ·have hobt := List.mem_iff_getElem?.1 hy
  obtain ⟨j, hj⟩ := hobt
  rw [List.getElem?_drop] at hj
  exact h2 _ y (by omega) hj
 ·have hobt := List.mem_iff_getElem?.1 hy
  obtain ⟨j, hj⟩ := hobt
  rw [List.getElem?_take] at hj
  split at hj
  ·rename_i hjk
   rcases List.mem_cons.1 hz with rfl | hz
   ·exact h1 j y hjk hj
   ·have hobt := List.mem_iff_getElem?.1 hz
    obtain ⟨i, hi⟩ := hobt
    rw [List.getElem?_drop] at hi
    exact lessP_trans (h1 j y hjk hj) (h2 _ z (by omega) hi)
  ·cases hj
section
variable {α : Type} {x y z : α} {l m n v : List α}
end
end Go.Gx
/-! Vq10 -/
namespace Go.Gx
open Go.Proofs Go.Proofs.Tryz Go.RowKit
set_option maxRecDepth 100000
section
variable {α : Type} {x y z : α} {l m n d h : List α}
theorem perm_qp2 : (l ++ (x :: y :: z :: m)).Perm (z :: (l ++ (x :: y :: m))) := by
 classical
 exact List.perm_iff_count.2 fun z => by
  simp only [List.count_append, List.count_cons]
  omega
theorem perm_qp3 : (z :: (l ++ (x :: y :: (m ++ (h ++ d))))).Perm ((x :: y :: m) ++ (z :: (l ++ (h ++ d)))) := by
 classical
 exact List.perm_iff_count.2 fun z => by
  simp only [List.count_append, List.count_cons]
  omega
theorem perm_qp4 : (x :: (l ++ (y :: m))).Perm (l ++ (x :: y :: m)) := by
 classical
 exact List.perm_iff_count.2 fun z => by
  simp only [List.count_append, List.count_cons]
  omega
end
theorem rowsI_app2 (R Q : List RowI) : rowsI (R ++ Q) = rowsI R ++ rowsI Q := by simp [rowsI]
theorem rowsI_c1 (R : List RowI) : Cells1 (rowsI R) := fun v hv => by
 have hobt := List.mem_flatten.1 hv
 obtain ⟨x, hx, hv⟩ := hobt
 have hobt := List.mem_map.1 hx
 obtain ⟨r, _, rfl⟩ := hobt
 exact r.enc1 v hv
theorem rowsI_take {R : List RowI} {i : Nat} {r : RowI} (h : R[i]? = some r) : rowsI (R.take (i + 1)) = rowsI (R.take i) ++ r.enc := by
 have hobt := List.getElem?_eq_some_iff.1 h
 obtain ⟨h1, h2⟩ := hobt
 rw [← List.take_append_getElem h1, h2, rowsI_app]
theorem rowsI_drop (R : List RowI) (i : Nat) : (rowsI R).drop (i * 3) = rowsI (R.drop i) := by
 by_cases h : i ≤ R.length
 ·have e : rowsI R = rowsI (R.take i) ++ rowsI (R.drop i) := by rw [← rowsI_app2, List.take_append_drop]
  have hl : (rowsI (R.take i)).length = i * 3 := by rw [rowsI_len, List.length_take, Nat.min_eq_left h]
  rw [e, ← hl, List.drop_left]
 ·rw [List.drop_of_length_le (by rw [rowsI_len]; omega), List.drop_of_length_le (by omega)]
  rfl
theorem LOpen.cells {bg : Nat} {l : List Tri} {H : List (Option (List UInt8 × Nat × Nat))} {a b c : Int} {A Lu Lh : List (Nat × Obj)} {u uh : Value} {R : List RowI} (o : LOpen bg l H a b c A u uh R Lu Lh) {k : Nat} {r : RowI} (hr : R[k]? = some r) : ∃ b c, u = .slice (some ⟨b, 0, none⟩) R.length c ∧ ∀ {w : World}, (∀ p ∈ A, w.heap[p.1]? = some p.2) → At w b (0 + k * 3) r.enc := by
 have hlt := (List.getElem?_eq_some_iff.1 hr).1
 have hobt := o.own.some1 (by omega)
 obtain ⟨b, c, more, hq, hL, hc⟩ := hobt
 refine ⟨b, c, hq, fun {w} hw => ?_⟩
 have hb : w.heap[b]? = some (blk 56 (rowsI R ++ more)) := hw (b, blk 56 (rowsI R ++ more)) (by rw [o.A, hL]; simp)
 exact rowsI_blk (b := b) (A := [(b, blk 56 (rowsI R ++ more))]) (T := 56) (more := more) (Step.start (L := [(b, blk 56 (rowsI R ++ more))]) (w := w) (by simp) (fun p hp => by rw [List.mem_singleton.1 hp]; exact hb)) (by simp) hr
theorem LOpen.row {bg : Nat} {l : List Tri} {H : List (Option (List UInt8 × Nat × Nat))} {a b c : Int} {A Lu Lh : List (Nat × Obj)} {u uh : Value} {R : List RowI} (o : LOpen bg l H a b c A u uh R Lu Lh) {k : Nat} {r : RowI} (hr : R[k]? = some r) : l[k]? = some (r.p, r.d, r.x) := by
 rw [← o.abs, absR, List.getElem?_map, hr]
 rfl
section
variable {bg : Nat} {l : List Tri} {H : List (Option (List UInt8 × Nat × Nat))} {a b c : Int} {A Lu Lh : List (Nat × Obj)} {u uh : Value} {R : List RowI} {w0 : World}
set_option maxHeartbeats 4000000 in
theorem rput_spec (o : LOpen bg l H a b c A u uh R Lu Lh) (hso : SortT l) {p : List UInt8} {d : Bool} (hne : ∀ y ∈ l, y.1 ≠ p) (hpl : p.length ≤ 4096) (hn : R.length ≤ 200000) (hw : Step (A.map (·.1)) A w0 w0) : Calls Tryz.prog 63 #[.pointer (some ⟨bg, 0, none⟩), .agg (itC p d (.slice none 0 0)).toArray] w0 fun e w' => e = .returned (.tuple #[]) ∧ ∃ A' l' u' R' Lu', l'.Perm ((p, d, []) :: l) ∧ SortT l' ∧ LOpen bg l' H a b c A' u' uh R' Lu' Lh ∧ Step (A.map (·.1)) A' w0 w' := by
 have hs : Step (A.map (·.1)) A w0 w0 := hw
 have hobt : ∃ S, A.map (·.1) = S := ⟨_, rfl⟩
 obtain ⟨S, hS⟩ := hobt
 rw [hS] at hs ⊢
 have hobt : ∃ Z, Lu ++ (Lh ++ R.flatMap (·.Lv)) = Z := ⟨_, rfl⟩
 obtain ⟨Z, hZ⟩ := hobt
 have hA : A = (bg, rO u uh a b c) :: Z := by rw [o.A, hZ]
 have hof := o.own.form
 obtain ⟨au, cu, hu⟩ := hof
 have hfs : ∀ {w : World}, (∀ p ∈ A, w.heap[p.1]? = some p.2) → w.heap[bg]? = some (rO u uh a b c) := fun hw => hw (bg, rO u uh a b c) (by rw [hA]; simp)
 have hul : ∀ {w : World}, (∀ p ∈ A, w.heap[p.1]? = some p.2) → w.cell? ⟨bg, 0, none⟩ = some (.slice au R.length cu) := fun hw => by
  rw [cell_blk (hfs hw), ← hu]
  rfl
 have hll : l.length = R.length := by rw [← o.abs, absR, List.length_map]
 refine calls (n := 53) Tryz.func63 rfl rfl rfl ?_
 refine cQ <| cR ?_
 refine WL.box (cs := (itC p d (.slice none 0 0))) rfl rfl rfl hs (fun b3 w hs => ?_)
 refine wZ <| cQ <| cR <| wa rfl <| wZ <| cQ <| cR <| wa rfl <| wZ ?_
 have hobt : ∃ X, (b3, blk 56 (itC p d (.slice none 0 0))) = X := ⟨_, rfl⟩
 obtain ⟨X, hX⟩ := hobt
 replace hs : Step S ([] ++ (X :: A)) w0 w := by rw [← hX]; exact hs
 have hAm : ∀ {L : List (Nat × Obj)} {w : World}, Step S (L ++ (X :: A)) w0 w → ∀ p ∈ A, w.heap[p.1]? = some p.2 := fun hs p hp => hs.has p (List.mem_append_right _ (List.mem_cons_of_mem _ hp))
 have hXm : ∀ {L : List (Nat × Obj)} {w : World}, Step S (L ++ (X :: A)) w0 w → At w b3 0 (itC p d (.slice none 0 0)) := fun hs => At.of_blk (hs.has (b3, blk 56 (itC p d (.slice none 0 0))) (List.mem_append_right _ (by rw [hX]; simp)))
 refine CW.seqM (fun f w => ∃ i v4 L4, i ≤ R.length ∧ (∀ (j : Nat) y, j < i → l[j]? = some y → lessP y.1 p = true) ∧ (∀ y, l[i]? = some y → lessP y.1 p = false) ∧ OwnSl 56 3 v4 i (rowsI (R.take i)) L4 ∧ Step S (L4 ++ (X :: A)) w0 w ∧ Holds f [(0, .pointer (some ⟨bg, 0, none⟩)), (3, .pointer (some ⟨b3, 0, none⟩)), (4, v4), (5, .int .i64 (i : Nat))]) ?_ ?_
 ·refine CW.block ?_
  refine CW.loop (fun m f w => ∃ i v4 L4, i ≤ R.length ∧ m = R.length - i ∧ (∀ (j : Nat) y, j < i → l[j]? = some y → lessP y.1 p = true) ∧ OwnSl 56 3 v4 i (rowsI (R.take i)) L4 ∧ Step S (L4 ++ (X :: A)) w0 w ∧ Holds f [(0, .pointer (some ⟨bg, 0, none⟩)), (3, .pointer (some ⟨b3, 0, none⟩)), (4, v4), (5, .int .i64 (i : Nat))]) (m := R.length) ?_ ?_
  ·exact ⟨0, _, [], by omega, rfl, fun j y h => by omega, OwnSl.nil _ _, hs, rfl, rfl, rfl, rfl, trivial⟩
  clear hs
  rintro m f w ⟨i, v4, L4, hi, rfl, hless, hv4, hs, hf⟩
  have hobt := hf.chain
  obtain ⟨g, rfl⟩ := hobt
  by_cases hlt : i < R.length
  ·have hobt : ∃ r, R[i]? = some r := ⟨_, List.getElem?_eq_getElem hlt⟩
   obtain ⟨r, hr⟩ := hobt
   have hrp := r.hp
   have hlr := o.row hr
   have hobt := o.cells hr
   obtain ⟨bu, cu2, huq, hcell⟩ := hobt
   have hul2 : ∀ {w : World}, (∀ p ∈ A, w.heap[p.1]? = some p.2) → w.cell? ⟨bg, 0, none⟩ = some (.slice (some ⟨bu, 0, none⟩) R.length cu2) := fun hw => by
    rw [cell_blk (hfs hw), ← huq]
    rfl
   have hls := fun w => refLessP_spec (s := r.p) (t := p) w (by omega) (by omega)
   have hobt : ∃ b, lessP r.p p = b := ⟨_, rfl⟩
   obtain ⟨ls, hlsE⟩ := hobt
   simp only [hlsE] at hls
   cases ls with
   | true =>
    refine cQ <| cQ ?_
    refine CW.quiet mixedP (by kernel_rfl) hs ?_
    refine qm rfl <| qm rfl <| qn rfl rfl <| qV rfl (fun w hs => run_field (o' := 0) underlying34 rfl ty22 rfl rfl rfl) <| qV rfl (fun w hs => run_load1 ty22 rfl (hul (hAm hs))) <| qV rfl (fun w hs => run_lenSl underlying22 rfl) <| qV rfl (fun w hs => run_bT (run_lss rfl rfl) (by omega)) <| qm rfl <| QL.yes rfl rfl rfl <| qm rfl <| QL.yes rfl rfl rfl <| qn rfl rfl <| QL.yes rfl rfl rfl <| qV rfl (fun w hs => run_field (o' := 0) underlying34 rfl ty22 rfl rfl rfl) ?_
    refine QL.yes rfl rfl rfl <| qV rfl (fun w hs => run_load1 ty22 rfl (hul2 (hAm hs))) <| QL.yes rfl rfl rfl <| qm rfl ?_
    refine QL.yes rfl rfl rfl ?_; (first | refine qV rfl (fun w hs => run_ixSlN underlying22 ty56 rfl rfl (by omega)) ?_ | refine qV rfl (fun w hs => run_ixSl underlying22 ty56 rfl rfl (by omega)) ?_)
    refine QL.yes rfl rfl rfl <| qV rfl (fun w hs => run_field (o' := 0) underlying56 rfl ty9 rfl rfl rfl) <| QL.yes rfl rfl rfl <| qV rfl (fun w hs => run_load1 ty9 rfl (((hcell (hAm hs)).cell (j := 0) (v := str r.p) rfl))) <| QL.yes rfl rfl rfl <| qV rfl (fun w hs => run_field (o' := 0) underlying56 rfl ty9 rfl rfl rfl) <| QL.yes rfl rfl rfl <| qV rfl (fun w hs => run_load1 ty9 rfl (((hXm hs).cell (j := 0) (v := str p) rfl))) <| QL.yes rfl rfl rfl ?_
    refine QL.enter rfl (fun w => run_call en74 rfl rfl) (fun w hs => hls _) ?_
    refine qV rfl (fun w hs => run_pickT rfl) ?_
    refine QL.nil (fun w hs => ?_)
    refine cC rfl (fun h => ?_) (fun h => ?_)
    ·repeat (first | refine cQ ?_ | refine CW.block ?_ | refine cK ?_)
     refine cR <| wm rfl <| wm rfl <| wn rfl rfl <| wV rfl (run_field (o' := 0) underlying34 rfl ty22 rfl rfl rfl) <| wV rfl (run_load1 ty22 rfl (hul2 (hAm hs))) <| wm rfl <| wV rfl (run_ixSlN underlying22 ty56 rfl rfl (by omega)) <| wV rfl (run_loadN ty56 rfl rfl (hcell (hAm hs))) ?_
     refine WL.buildSlice (cs := r.enc) underlying22 ty56 rfl (by decide) rfl (filled1 rfl rfl) rfl hs (fun b34 w hs => ?_)
     have hsl : Sl w 3 (.slice (some ⟨b34, 0, none⟩) 1 1) 1 r.enc := .own1 hs rfl
     refine WL.append underlying22 underlying22 ty56 rfl (by decide) rfl rfl (hv4) ((hs.perm perm_qp4)) (hsl) (r.enc1) (by first | omega | (simp only [List.length_append, List.length_cons, List.length_nil]; omega)) rfl (fun v35 Lv35 w hv35 hs => ?_)
     refine wa rfl <| wZ ?_
     rw [← rowsI_take hr] at hv35
     replace hs := (hs.perm perm_qp4.symm).tail
     refine cR <| wm rfl <| wV rfl (run_add (c := ((i + 1 : Nat) : Int)) rfl rfl (by omega) (by omega)) <| wa rfl <| wZ ?_
     refine (show _ ∧ _ from ⟨rfl, _, ?_, i + 1, v35, Lv35, by omega, rfl, fun j y hj hy => ?_, hv35, hs, rfl, rfl, rfl, rfl, trivial⟩)
     ·omega
     ·by_cases hji : j = i
      ·subst hji
       rw [hlr] at hy
       obtain rfl := Option.some.inj hy
       exact hlsE
      ·exact hless j y (by omega) hy
    ·cases h
   | false =>
    refine cQ <| cQ ?_
    refine CW.quiet mixedP (by kernel_rfl) hs ?_
    refine qm rfl <| qm rfl <| qn rfl rfl <| qV rfl (fun w hs => run_field (o' := 0) underlying34 rfl ty22 rfl rfl rfl) <| qV rfl (fun w hs => run_load1 ty22 rfl (hul (hAm hs))) <| qV rfl (fun w hs => run_lenSl underlying22 rfl) <| qV rfl (fun w hs => run_bT (run_lss rfl rfl) (by omega)) <| qm rfl <| QL.yes rfl rfl rfl <| qm rfl <| QL.yes rfl rfl rfl <| qn rfl rfl <| QL.yes rfl rfl rfl <| qV rfl (fun w hs => run_field (o' := 0) underlying34 rfl ty22 rfl rfl rfl) ?_
    refine QL.yes rfl rfl rfl <| qV rfl (fun w hs => run_load1 ty22 rfl (hul2 (hAm hs))) <| QL.yes rfl rfl rfl <| qm rfl ?_
    refine QL.yes rfl rfl rfl ?_; (first | refine qV rfl (fun w hs => run_ixSlN underlying22 ty56 rfl rfl (by omega)) ?_ | refine qV rfl (fun w hs => run_ixSl underlying22 ty56 rfl rfl (by omega)) ?_)
    refine QL.yes rfl rfl rfl <| qV rfl (fun w hs => run_field (o' := 0) underlying56 rfl ty9 rfl rfl rfl) <| QL.yes rfl rfl rfl <| qV rfl (fun w hs => run_load1 ty9 rfl (((hcell (hAm hs)).cell (j := 0) (v := str r.p) rfl))) <| QL.yes rfl rfl rfl <| qV rfl (fun w hs => run_field (o' := 0) underlying56 rfl ty9 rfl rfl rfl) <| QL.yes rfl rfl rfl <| qV rfl (fun w hs => run_load1 ty9 rfl (((hXm hs).cell (j := 0) (v := str p) rfl))) <| QL.yes rfl rfl rfl ?_
    refine QL.enter rfl (fun w => run_call en74 rfl rfl) (fun w hs => hls _) ?_
    refine qV rfl (fun w hs => run_pickT rfl) ?_
    refine QL.nil (fun w hs => ?_)
    refine cC rfl (fun h => ?_) (fun h => ?_)
    ·cases h
    refine CW.exit ?_
    refine ⟨rfl, i, v4, L4, hi, hless, fun y hy => ?_, hv4, hs, rfl, rfl, rfl, rfl, trivial⟩
    rw [hlr] at hy
    obtain rfl := Option.some.inj hy
    exact hlsE
  ·refine cQ <| cQ ?_
   refine CW.quiet mixedP (by kernel_rfl) hs ?_
   refine qm rfl <| qm rfl <| qn rfl rfl <| qV rfl (fun w hs => run_field (o' := 0) underlying34 rfl ty22 rfl rfl rfl) <| qV rfl (fun w hs => run_load1 ty22 rfl (hul (hAm hs))) <| qV rfl (fun w hs => run_lenSl underlying22 rfl) <| qV rfl (fun w hs => run_bF (run_lss rfl rfl) (by omega)) <| qm rfl <| QL.no rfl rfl rfl (.inl rfl) <| QL.no rfl rfl rfl (.inl rfl) <| QL.no rfl rfl rfl (.inl rfl) <| QL.no rfl rfl rfl (.inl rfl) <| QL.no rfl rfl rfl (.inl rfl) <| QL.no rfl rfl rfl (.inl rfl) ?_
   refine QL.no rfl rfl rfl (.inl rfl) <| QL.no rfl rfl rfl (.inl rfl) <| QL.no rfl rfl rfl (.inl rfl) <| QL.no rfl rfl rfl (.inl rfl) <| QL.no rfl rfl rfl (.inl rfl) <| qV rfl (fun w hs => run_pickF rfl) ?_
   refine QL.nil (fun w hs => ?_)
   refine cC rfl (fun h => ?_) (fun h => ?_)
   ·cases h
   refine CW.exit ?_
   refine ⟨rfl, i, v4, L4, hi, hless, fun y hy => ?_, hv4, hs, rfl, rfl, rfl, rfl, trivial⟩
   have := (List.getElem?_eq_some_iff.1 hy).1
   omega
 clear hs
 rintro f w ⟨i, v4, L4, hi, hless, hstop, hv4, hs, hf⟩
 have hobt := hf.chain
 obtain ⟨g, rfl⟩ := hobt
 refine cQ <| cR <| wm rfl <| wV rfl (run_loadN ty56 rfl rfl (hXm hs)) ?_
 refine WL.buildSlice (cs := (itC p d (.slice none 0 0))) underlying22 ty56 rfl (by decide) rfl (filled1 rfl rfl) rfl hs (fun b40 w hs => ?_)
 have hsl : Sl w 3 (.slice (some ⟨b40, 0, none⟩) 1 1) 1 (itC p d (.slice none 0 0)) := .own1 hs rfl
 refine WL.append underlying22 underlying22 ty56 rfl (by decide) rfl rfl (hv4) ((hs.perm perm_qp4)) (hsl) (Cells1.of_all rfl) (by first | omega | (simp only [List.length_append, List.length_cons, List.length_nil]; omega)) rfl (fun v41 Lv41 w hv41 hs => ?_)
 refine wa rfl <| wZ ?_
 have hAm2 : ∀ {L : List (Nat × Obj)} {Y : Nat × Obj} {w : World}, Step S (L ++ (Y :: X :: A)) w0 w → ∀ p ∈ A, w.heap[p.1]? = some p.2 := fun hs p hp => hs.has p (List.mem_append_right _ (List.mem_cons_of_mem _ (List.mem_cons_of_mem _ hp)))
 have hnew : ∃ r0 : RowI, r0.p = p ∧ r0.d = d ∧ r0.v = .slice none 0 0 ∧ r0.x = [] ∧ r0.Lv = [] := ⟨⟨p, d, .slice none 0 0, [], [], rfl, hpl⟩, rfl, rfl, rfl, rfl, rfl⟩
 obtain ⟨r0, e1, e2, e3, e4, e5⟩ := hnew
 have henc : r0.enc = itC p d (.slice none 0 0) := by unfold RowI.enc; rw [e1, e2, e3]
 rw [← henc] at hv41
 have hperm : (l.take i ++ (p, d, []) :: l.drop i).Perm ((p, d, []) :: l) := by
  have h1 := (List.perm_middle (a := ((p, d, []) : Tri)) (l₁ := l.take i) (l₂ := l.drop i))
  rwa [List.take_append_drop] at h1
 have hso2 : SortT (l.take i ++ (p, d, []) :: l.drop i) := by
  refine sort_ins hso (fun j y hj hy => hless j y hj hy) (fun j y hj hy => ?_)
  have hjl := (List.getElem?_eq_some_iff.1 hy).1
  have hobt : ∃ z, l[i]? = some z := ⟨_, List.getElem?_eq_getElem (by omega)⟩
  obtain ⟨z, hz⟩ := hobt
  have h3 := lessP_tri (hne z (List.mem_of_getElem? hz)) (hstop z hz)
  by_cases hji : j = i
  ·subst hji
   rw [hz] at hy
   obtain rfl := Option.some.inj hy
   exact h3
  ·have hobt := List.getElem?_eq_some_iff.1 hz
   obtain ⟨g1, g2⟩ := hobt
   have hobt := List.getElem?_eq_some_iff.1 hy
   obtain ⟨g3, g4⟩ := hobt
   have := List.pairwise_iff_getElem.1 hso i j g1 g3 (by omega)
   rw [g2, g4] at this
   exact lessP_trans h3 this
 have habs : absR (R.take i ++ r0 :: R.drop i) = l.take i ++ (p, d, []) :: l.drop i := by
  rw [absR, List.map_append, List.map_cons, List.map_take, List.map_drop, ← absR, o.abs, e1, e2, e4]
 have hflat : (R.take i ++ r0 :: R.drop i).flatMap (·.Lv) = R.flatMap (·.Lv) := by
  rw [List.flatMap_append, List.flatMap_cons, e5, List.nil_append, ← List.flatMap_append, List.take_append_drop]
 have hdat : ∀ r ∈ R.take i ++ r0 :: R.drop i, OwnSl 5 1 r.v r.x.length (u8s r.x) r.Lv := fun r hr => by
  rcases List.mem_append.1 hr with h | h
  ·exact o.data r (List.mem_of_mem_take h)
  ·rcases List.mem_cons.1 h with rfl | h
   ·rw [e3, e4, e5]
    exact OwnSl.nil _ _
   ·exact o.data r (List.mem_of_mem_drop h)
 have hrows : rowsI (R.take i) ++ r0.enc ++ rowsI (R.drop i) = rowsI (R.take i ++ r0 :: R.drop i) := by
  rw [rowsI_app2, rowsI_cons, List.append_assoc]
 have hlen : (R.take i ++ r0 :: R.drop i).length = i + 1 + (R.length - i) := by
  rw [List.length_append, List.length_cons, List.length_take, List.length_drop]
  omega
 rw [hA] at hs
 have hobt := o.own
 obtain ⟨hol, hoc⟩ := hobt
 rcases hoc with ⟨h1, h2, h3⟩ | ⟨b9, c9, m9, h1, h2, h3⟩
 ·have hR0 : R.length = 0 := by
   rw [h2] at hol
   simp at hol
   omega
  have hi0 : i = 0 := by omega
  have hRd : rowsI (R.drop i) = [] := by rw [List.drop_of_length_le (by omega)]; rfl
  have hcL : (u :: [uh, .int .i64 a, .int .i64 b, .int .i64 c])[0]? = some (.slice none 0 0) := by rw [← h1]; rfl
  have hvi : Value.int .i64 (i : Nat) = .int .i64 ((0 : Nat) : Int) := by rw [hi0]
  refine cR <| wm rfl <| wm rfl <| wm rfl <| wn rfl rfl <| wV rfl (run_field (o' := 0) underlying34 rfl ty22 rfl rfl rfl) <| wV rfl (run_load1 ty22 rfl ((by rw [cell_blk (hs.has (bg, rO u uh a b c) (by simp))]; exact hcL))) <| wm rfl <| wV rfl (run_sliceNil underlying22 ty56 rfl hvi rfl) ?_
  refine WL.append underlying22 underlying22 ty56 rfl (by decide) rfl rfl (hv41) (hs) (Sl.nil _ _ _) (Cells1.of_all rfl) (by first | omega | (simp only [List.length_append, List.length_cons, List.length_nil]; omega)) rfl (fun v50 Lv50 w hv50 hs => ?_)
  refine wn rfl rfl <| wV rfl (run_field (o' := 0) underlying34 rfl ty22 rfl rfl rfl) ?_
  refine WL.store1 ty22 rfl rfl (hv50.one) ((hs.perm perm_qp2)) (by first | (simp; done) | omega | (simp only [List.length_append, List.length_replicate, List.length_cons, List.length_nil, List.length_set]; omega) | (simp [Ent.cells, u8s]; done) | exact Nat.le_of_ble_eq_true rfl) (fun w hs => ?_)
  refine wZ ?_
  rw [show i + 1 + 0 = i + 1 + (R.length - i) by omega, ← hRd] at hv50
  have hfin : Step S ((bg, rO v50 uh a b c) :: (Lv50 ++ (Lh ++ R.flatMap (·.Lv)))) w0 w := by
   have h1 : Step S ((bg, rO v50 uh a b c) :: (Lv50 ++ ((b40, blk 56 (itC p d (.slice none 0 0))) :: X :: Z))) w0 w := hs
   rw [← hZ] at h1
   exact Step.dropL (h1.perm perm_qp3)
  refine fin_end0 rfl ?_
  exact ⟨rfl, (bg, rO v50 uh a b c) :: (Lv50 ++ (Lh ++ R.flatMap (·.Lv))), _, v50, R.take i ++ r0 :: R.drop i, Lv50, hperm, hso2, ⟨by rw [hlen, ← hrows]; exact hv50, hdat, habs, o.oh, by rw [hflat]⟩, hfin⟩
 ·have hc9 : R.length ≤ c9 := by
   rw [List.length_append, rowsI_len] at h3
   omega
  have hcL : (u :: [uh, .int .i64 a, .int .i64 b, .int .i64 c])[0]? = some (.slice (some ⟨b9, 0, none⟩) R.length c9) := by rw [← h1]; rfl
  have hu9 : (b9, blk 56 (rowsI R ++ m9)) ∈ Z := by rw [← hZ, h2]; simp
  have hat9 : ∀ {L : List (Nat × Obj)} {w : World}, Step S (L ++ ((b40, blk 56 (itC p d (.slice none 0 0))) :: X :: (bg, rO u uh a b c) :: Z)) w0 w → At w b9 0 (rowsI R) := fun hs => (At.of_blk (hs.has (b9, blk 56 (rowsI R ++ m9)) (by simp [hu9]))).left
  have hcut : ((rowsI R).take (R.length * 3)).drop (i * 3) = rowsI (R.drop i) := by rw [List.take_of_length_le (by rw [rowsI_len]; omega), rowsI_drop]
  have hcc : Cells1 (((rowsI R).take (R.length * 3)).drop (i * 3)) := ((rowsI_c1 R).take _).drop _
  refine cR <| wm rfl <| wm rfl <| wm rfl <| wn rfl rfl <| wV rfl (run_field (o' := 0) underlying34 rfl ty22 rfl rfl rfl) <| wV rfl (run_load1 ty22 rfl ((by rw [cell_blk (hs.has (bg, rO u uh a b c) (by simp))]; exact hcL))) <| wm rfl <| wV rfl (run_sliceSlE (lo := i) (hi := R.length) (m := c9) underlying22 ty56 rfl rfl rfl rfl (by simp) (by omega) (by omega) (by omega) rfl) ?_
  refine WL.append underlying22 underlying22 ty56 rfl (by decide) rfl rfl (hv41) (hs) (Sl.cut (hat9 hs) (rowsI_len R) (by omega) (Nat.le_refl _) (by omega)) (hcc) (by first | omega | (simp only [List.length_append, List.length_cons, List.length_nil]; omega)) rfl (fun v50 Lv50 w hv50 hs => ?_)
  refine wn rfl rfl <| wV rfl (run_field (o' := 0) underlying34 rfl ty22 rfl rfl rfl) ?_
  refine WL.store1 ty22 rfl rfl (hv50.one) ((hs.perm perm_qp2)) (by first | (simp; done) | omega | (simp only [List.length_append, List.length_replicate, List.length_cons, List.length_nil, List.length_set]; omega) | (simp [Ent.cells, u8s]; done) | exact Nat.le_of_ble_eq_true rfl) (fun w hs => ?_)
  refine wZ ?_
  rw [hcut] at hv50
  have hfin : Step S ((bg, rO v50 uh a b c) :: (Lv50 ++ (Lh ++ R.flatMap (·.Lv)))) w0 w := by
   have h1 : Step S ((bg, rO v50 uh a b c) :: (Lv50 ++ ((b40, blk 56 (itC p d (.slice none 0 0))) :: X :: Z))) w0 w := hs
   rw [← hZ] at h1
   exact Step.dropL (h1.perm perm_qp3)
  refine fin_end0 rfl ?_
  exact ⟨rfl, (bg, rO v50 uh a b c) :: (Lv50 ++ (Lh ++ R.flatMap (·.Lv))), _, v50, R.take i ++ r0 :: R.drop i, Lv50, hperm, hso2, ⟨by rw [hlen, ← hrows]; exact hv50, hdat, habs, o.oh, by rw [hflat]⟩, hfin⟩
end
end Go.Gx
