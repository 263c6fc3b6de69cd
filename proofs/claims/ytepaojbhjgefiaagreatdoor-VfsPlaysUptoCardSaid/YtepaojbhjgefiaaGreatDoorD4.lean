/- Two states of files alike: what one keeps the other keeps. No program in sight. Files in memory: Twin, the walk. Files in memory: what the law of twins asks. -/
import Derived.Test.YtepaojbhjgefiaaGreatDoorD3
import Derived.Test.YtepaojbhjgefiaaGreatDoorD2
import Derived.Test.YtepaojbhjgefiaaGreatDoorC1
set_option linter.unusedVariables false
set_option linter.unusedSimpArgs false
/-! Vw6 -/
namespace Go.Gx
open Go.Proofs Go.Proofs.Tryz
section
variable {s s' : VS}
theorem Eqv.tree (e : Eqv s s') (t : s.Tree) : s'.Tree := by
 have nD : (s'.D.map (·.1)).Nodup := ((e.D.map _).nodup_iff).1 t.ndD
 have nF : (s'.F.map (·.1)).Nodup := ((e.F.map _).nodup_iff).1 t.ndF
 have hdn := fun p => e.dirN t.ndD nD p
 have hk : ∀ u, s'.kids u = s.kids u := fun u => by
  unfold VS.kids
  rw [(e.D.map _).countP_eq, (e.F.map _).countP_eq]
 refine ⟨nD, nF, fun x hx => ?_, fun r hr h0 => ?_, fun x hx => t.nz x (e.F.mem_iff.2 hx), fun x hx => ?_, fun x hx => t.fan x (e.D.mem_iff.2 hx)⟩
 ·have h1 := t.dj x (e.F.mem_iff.2 hx)
  have h2 := hdn x.1
  rw [h1] at h2
  cases h : s'.dir x.1 with
  | none => rfl
  | some j => rw [h] at h2; cases h2
 ·have hr2 : r ∈ s.D.map (·.1) ∨ r ∈ s.F.map (·.1) := hr.imp (fun h => (e.D.map _).mem_iff.2 h) (fun h => (e.F.map _).mem_iff.2 h)
  have hobt := t.cl r hr2 h0
  obtain ⟨h1, h2⟩ := hobt
  exact ⟨h1, by rw [← hdn]; exact h2⟩
 ·rw [hk]
  exact t.cn x (e.D.mem_iff.2 hx)
theorem Eqv.sane (e : Eqv s s') (sn : s.Sane) (t : s.Tree) (fi : ∀ i pl mo, some (i, pl, mo) ∈ s'.H → i < s'.F.length) : s'.Sane := by
 have ok := sn.ok
 have hl := e.len
 have hD := e.D.length_eq
 have hF := e.F.length_eq
 have hcnt : (s'.H.filter Option.isSome).length = (s.H.filter Option.isSome).length := by
  have h1 : ∀ (l : List HT), (l.filter Option.isSome).length = ((l.map Option.isNone).filter fun b => !b).length := fun l => by
   rw [List.filter_map, List.length_map]
   congr 1
   apply List.filter_congr
   intro x _
   cases x <;> rfl
  rw [h1, h1, e.noneH]
 refine ⟨⟨by rw [← hl]; exact ok.h, by rw [← hF]; exact ok.f, by rw [← hD]; exact ok.d, fun x hx => ok.x x (e.F.mem_iff.2 hx), fun i pl mo hm => ?_, by rw [← e.qb]; exact ok.qb, by rw [← e.qf]; exact ok.qf, by rw [← e.qo]; exact ok.qo, by rw [← e.by_]; exact ok.by_, by rw [← e.op]; exact ok.op⟩, by rw [← e.dirN t.ndD (e.tree t).ndD]; exact sn.root, fun x hx => by rw [← hD, ← hF]; exact sn.cnt x (e.D.mem_iff.2 hx), by rw [← hD, ← hF]; exact sn.lim, ?_, by rw [← hl]; exact sn.hl, by rw [← e.op, hcnt]; exact sn.op, fi⟩
 ·have hobt := List.mem_iff_getElem?.1 hm
  obtain ⟨k, hk⟩ := hobt
  have h1 := e.isH k
  rw [hk] at h1
  cases hx : s.H[k]? with
  | none => rw [hx] at h1; cases h1
  | some a =>
   rw [hx] at h1
   cases a with
   | none => simp at h1
   | some b =>
    obtain ⟨i0, pl0, mo0⟩ := b
    simp only [Option.map_some, Option.some.injEq, Prod.mk.injEq] at h1
    obtain ⟨_, g2, g3⟩ := h1
    rw [← g2, ← g3]
    exact ok.at_ i0 pl0 mo0 (List.mem_of_getElem? hx)
 ·rw [← e.by_, sn.sum]
  exact (e.F.map _).sum_nat
end
end Go.Gx
/-! Vw7 -/
namespace Go.Gx
open Go.Proofs Go.Proofs.Tryz Go.RowKit
set_option maxRecDepth 100000
theorem perm_tw {α : Type} {x y a b c : α} {l : List α} : (x :: y :: a :: b :: c :: l).Perm (a :: b :: c :: x :: (l ++ [y])) := by
 classical
 exact List.perm_iff_count.2 fun z => by
  simp only [List.count_append, List.count_cons, List.count_nil]
  omega
theorem mapDi_keys : ∀ (Ds : List DB) (k : Nat), (mapDi Ds k).map (·.1) = Ds.map (·.p)
 | [], _ => rfl
 | r :: Ds, k => by rw [mapDi, List.map_cons, mapDi_keys Ds (k + 1), List.map_cons]
theorem bld_dirT (d : List UInt8) (n : Nat) (w : World) : (Instr.build 74 #[(0, .agg #[str d]), (1, .int .i64 (n : Nat))]).run Tryz.prog w = .ok (.agg #[str d, .int .i64 (n : Nat)]) w := by kernel_rfl
theorem perm_th {α : Type} {x a b : α} {l d f h : List α} : (x :: (l ++ (a :: b :: (d ++ (f ++ h))))).Perm (x :: a :: b :: (l ++ (f ++ (d ++ h)))) := by
 classical
 exact List.perm_iff_count.2 fun z => by
  simp only [List.count_append, List.count_cons]
  omega
theorem perm_ti {α : Type} {x y : α} {l m : List α} : (x :: y :: (l ++ m)).Perm (l ++ (x :: y :: m)) := by
 classical
 exact List.perm_iff_count.2 fun z => by
  simp only [List.count_append, List.count_cons]
  omega
theorem perm_tj {α : Type} {x y : α} {l m : List α} : (l ++ (x :: y :: m)).Perm (y :: x :: (l ++ m)) := by
 classical
 exact List.perm_iff_count.2 fun z => by
  simp only [List.count_append, List.count_cons]
  omega
theorem perm_tf {α : Type} {x y a b c : α} {l m n : List α} : (x :: y :: (l ++ (a :: b :: c :: (m ++ n)))).Perm (a :: b :: x :: c :: (m ++ (n ++ (y :: l)))) := by
 classical
 exact List.perm_iff_count.2 fun z => by
  simp only [List.count_append, List.count_cons]
  omega
theorem perm_tg {α : Type} {x a b c : α} {l m : List α} : (x :: (l ++ (a :: b :: c :: m))).Perm (c :: x :: (l ++ (a :: b :: m))) := by
 classical
 exact List.perm_iff_count.2 fun z => by
  simp only [List.count_append, List.count_cons]
  omega
theorem mapF_keys : ∀ (Fs : List FB) (k : Nat), (mapF Fs k).map (·.1) = Fs.map (·.p)
 | [], _ => rfl
 | r :: Fs, k => by rw [mapF, List.map_cons, mapF_keys Fs (k + 1), List.map_cons]
theorem bld_fileT (d : List UInt8) (a : Option Addr) (n c : Nat) (w : World) : (Instr.build 67 #[(0, .agg #[str d]), (1, .slice a n c)]).run Tryz.prog w = .ok (.agg #[str d, .slice a n c]) w := by kernel_rfl
/-- The twin's file by its path. -/
theorem look_tw {Fs : List FB} {p : List UInt8} (h : ∃ r ∈ Fs, FB.p r = p) : ∃ (i : Nat) (r : FB), Fs[i]? = some r ∧ r.p = p ∧ ((findS p (mapF Fs 0) 0).map (·.2)).getD (.pointer none) = .pointer (some ⟨r.b, 0, none⟩) := by
 rw [Gx.lookF]
 cases hf : (Fs.map fun r => (r.p, r.x)).findIdx? (fun e => decide (e.1 = p)) with
 | none =>
  rw [List.findIdx?_eq_none_iff] at hf
  obtain ⟨r, hr, hp⟩ := h
  have := hf (r.p, r.x) (List.mem_map.2 ⟨r, hr, rfl⟩)
  exact absurd hp (of_decide_eq_false this)
 | some i =>
  have hobt := List.findIdx?_eq_some_iff_getElem.1 hf
  obtain ⟨h2, h3, _⟩ := hobt
  rw [List.length_map] at h2
  refine ⟨i, Fs[i], List.getElem?_eq_getElem h2, by simpa using h3, ?_⟩
  simp [fVal, h2]
theorem bld_hdlT (b : Addr) (n m : Nat) (w : World) : (Instr.build 77 #[(0, .pointer (some b)), (1, .int .i64 (n : Nat)), (2, .int .i64 (m : Nat))]).run Tryz.prog w = .ok (.agg #[.pointer (some b), .int .i64 (n : Nat), .int .i64 (m : Nat)]) w := by kernel_rfl
theorem perm_tk {α : Type} {x y z : α} {l m : List α} : (x :: y :: z :: (l ++ m)).Perm (l ++ (x :: y :: z :: m)) := by
 classical
 exact List.perm_iff_count.2 fun z => by
  simp only [List.count_append, List.count_cons]
  omega
theorem perm_tl {α : Type} {x y z : α} {l m : List α} : (l ++ (x :: y :: z :: m)).Perm (z :: x :: y :: (l ++ m)) := by
 classical
 exact List.perm_iff_count.2 fun z => by
  simp only [List.count_append, List.count_cons]
  omega
theorem perm_tm {α : Type} {y z a b : α} {l d f h : List α} : (z :: y :: (l ++ (a :: b :: (d ++ (f ++ h))))).Perm (z :: (l ++ (a :: b :: (d ++ (f ++ (h ++ [y])))))) := by
 classical
 exact List.perm_iff_count.2 fun z => by
  simp only [List.count_append, List.count_cons, List.count_nil]
  omega
/-- The twin's handles. -/
def HRel (Fs Fs' : List FB) (Hs Hs' : List (Option HB)) : Prop := ∀ (k : Nat) a, Hs'[k]? = some a → ∃ b, Hs[k]? = some b ∧ (a = none ∧ b = none ∨ ∃ h' h r' r, a = some h' ∧ b = some h ∧ Fs'[h'.i]? = some r' ∧ h'.fb = r'.b ∧ Fs[h.i]? = some r ∧ r'.p = r.p ∧ h'.pl = h.pl ∧ h'.mo = h.mo)
theorem HRel.add {Fs Fs' : List FB} {Hs Hs' : List (Option HB)} {a b : Option HB} (h : HRel Fs Fs' Hs Hs') (hx : Hs[Hs'.length]? = some b) (hr : a = none ∧ b = none ∨ ∃ h' h r' r, a = some h' ∧ b = some h ∧ Fs'[h'.i]? = some r' ∧ h'.fb = r'.b ∧ Fs[h.i]? = some r ∧ r'.p = r.p ∧ h'.pl = h.pl ∧ h'.mo = h.mo) : HRel Fs Fs' Hs (Hs' ++ [a]) := fun k c hk => by
 by_cases hlt : k < Hs'.length
 ·rw [List.getElem?_append_left hlt] at hk
  exact h k c hk
 ·have hk2 := (List.getElem?_eq_some_iff.1 hk).1
  rw [List.length_append] at hk2
  have hk3 : k = Hs'.length := by simp at hk2; omega
  subst hk3
  rw [List.getElem?_append_right (Nat.le_refl _), Nat.sub_self] at hk
  have : a = c := by simpa using hk
  subst this
  exact ⟨b, hx, hr⟩
theorem bld_FSt (mf md : Nat) (a b c x y : Int) (w : World) : (Instr.build 61 #[(0, .map (some mf)), (1, .map (some md)), (3, .agg (quoC a b c).toArray), (4, .int .i64 x), (5, .int .i64 y)]).run Tryz.prog w = .ok (.agg #[.map (some mf), .map (some md), .slice none 0 0, .int .i64 a, .int .i64 b, .int .i64 c, .int .i64 x, .int .i64 y]) w := by kernel_rfl
def trN (Ds : List DB) (p : SEnt) : List UInt8 × Nat := (p.1, ((Ds[p.2.2]?).map (·.n)).getD 0)
theorem mapDi_trN0 : ∀ (Ds A : List DB), (mapDi Ds A.length).map (trN (A ++ Ds)) = Ds.map fun r => (r.p, r.n)
 | [], _ => rfl
 | r :: Ds, A => by
  have ih := mapDi_trN0 Ds (A ++ [r])
  rw [List.append_assoc, List.singleton_append, List.length_append] at ih
  rw [mapDi, List.map_cons, List.map_cons]
  have h0 : (A ++ r :: Ds)[A.length]? = some r := by rw [List.getElem?_append_right (Nat.le_refl _), Nat.sub_self]; rfl
  congr 1
  ·unfold trN
   simp only [h0]
   rfl
theorem mapDi_trN (Ds : List DB) : (mapDi Ds 0).map (trN Ds) = Ds.map fun r => (r.p, r.n) := mapDi_trN0 Ds []
section
variable {bf mf md : Nat} {s : VS} {L Lh : List (Nat × Obj)} {vh : Value} {Fs : List FB} {Ds : List DB} {Hs : List (Option HB)} {w0 : World}
set_option maxHeartbeats 4000000 in
theorem twin_spec (o : VOpen bf s L mf md vh Lh Fs Ds Hs) (sn : s.Sane) (t : s.Tree) (hg : Gl w0) (hw : ∀ p ∈ L, w0.heap[p.1]? = some p.2) : Calls Tryz.prog 11 #[.pointer (some ⟨bf, 0, none⟩)] w0 fun e w' => ∃ bt s' L', e = .returned (.pointer (some ⟨bt, 0, none⟩)) ∧ VRep bt s' L' ∧ Eqv s s' ∧ s'.Sane ∧ s'.Tree ∧ Step [] L' w0 w' := by
 have hs : Step [] [] w0 w0 := Step.refl w0
 have hvf := o.vh.form
 obtain ⟨ah, ch, rfl⟩ := hvf
 have hlw : ∀ {L' w}, Step [] L' w0 w → ∀ p ∈ L, w.heap[p.1]? = some p.2 := fun hs p hp => hs.old (hw p hp) (by simp)
 have hat := fun {w} hw => o.at (w := w) hw
 have hmd := fun {L' w} (hs : Step [] L' w0 w) => o.md_ (hlw hs)
 have hmf := fun {L' w} (hs : Step [] L' w0 w) => o.mf_ (hlw hs)
 have hq3 := fun {L' w} (hs : Step [] L' w0 w) => ((hat (hlw hs)).drop 3).take 3
 refine calls (n := 131) Tryz.func11 rfl rfl rfl ?_
 refine cQ <| cR <| wa rfl <| wZ <| cQ ?_
 refine CW.any (A := fun w => Step [] [] w0 w) (C := fun w => Step [] [] w0 w) 1000000 17 mixedP rfl ?_
 replace hs := hs.drew
 refine AL.val 2 rfl (by kernel_rfl) rfl (fun w hs => run_move) ?_
 refine AL.val 3 rfl (by kernel_rfl) rfl (fun w hs => run_nilCheck rfl) ?_
 refine AL.val 4 rfl (by kernel_rfl) rfl (fun w hs => run_field (o' := 3) underlying61 rfl ty24 rfl rfl rfl) ?_
 refine AL.val 5 rfl (by kernel_rfl) rfl (fun w hs => run_loadN ty24 rfl rfl (hq3 hs)) ?_
 refine AL.val 6 rfl (by kernel_rfl) rfl (fun w hs => run_move) ?_
 refine AL.val 7 rfl (by kernel_rfl) rfl (fun w hs => run_nilCheck rfl) ?_
 refine AL.val 8 rfl (by kernel_rfl) rfl (fun w hs => run_field (o' := 6) underlying61 rfl ty3 rfl rfl rfl) ?_
 refine AL.val 9 rfl (by kernel_rfl) rfl (fun w hs => run_load1 ty3 rfl ((hat (hlw hs)).cell (j := 6) rfl)) ?_
 refine AL.val 10 rfl (by kernel_rfl) rfl (fun w hs => run_move) ?_
 refine AL.val 11 rfl (by kernel_rfl) rfl (fun w hs => run_nilCheck rfl) ?_
 refine AL.val 12 rfl (by kernel_rfl) rfl (fun w hs => run_field (o' := 7) underlying61 rfl ty3 rfl rfl rfl) ?_
 refine AL.val 13 rfl (by kernel_rfl) rfl (fun w hs => run_load1 ty3 rfl ((hat (hlw hs)).cell (j := 7) rfl)) ?_
 refine AL.two 0 1 (by kernel_rfl) rfl rfl (hs.clear) (hs.clear) ?_ ?_
 ·refine WL.makeMapS rfl hs (fun b10 w hs => ?_)
  refine wZ ?_
  refine ⟨rfl, ?_⟩
  refine AL.one 1 (by kernel_rfl) rfl (hs.clear) (hs.clear) ?_
  refine WL.makeMapS rfl hs (fun b11 w hs => ?_)
  refine wZ ?_
  refine ⟨rfl, ?_⟩
  refine AL.val 14 rfl (by kernel_rfl) rfl (fun w hs => run_build rfl (bld_FSt _ _ _ _ _ _ _ _)) ?_
  refine AL.one 15 (by kernel_rfl) rfl (hs.clear) (hs.clear) ?_
  refine WL.box (cs := (fsC b10 b11 (.slice none 0 0) ⟨[], [], [], s.qb, s.qf, s.qo, s.by_, s.op⟩)) rfl rfl rfl hs (fun b25 w hs => ?_)
  refine wZ ?_
  refine ⟨rfl, ?_⟩
  refine AL.val 16 rfl (by kernel_rfl) rfl (fun w hs => run_assign) ?_
  refine AL.end (by kernel_rfl) (hs.clear) (hs.clear) ?_
  replace hs : Step [] [(b25, blk 61 (fsC b10 b11 (.slice none 0 0) ⟨[], [], [], s.qb, s.qf, s.qo, s.by_, s.op⟩)), (b10, mapS [] 0), (b11, mapS [] 0)] w0 w := by first | exact hs | exact hs.perm ((List.Perm.swap _ _ _).cons _)
  refine CW.seqM (fun f w => ∃ Ds' : List DB, (Ds'.map fun r => (r.p, r.n)).Perm s.D ∧ Step [] ((b25, blk 61 (fsC b10 b11 (.slice none 0 0) ⟨[], [], [], s.qb, s.qf, s.qo, s.by_, s.op⟩)) :: (b10, mapS [] 0) :: (b11, mapS (mapDi Ds' 0) Ds'.length) :: Ds'.flatMap DB.own) w0 w ∧ Holds f [(0, .pointer (some ⟨bf, 0, none⟩)), (3, .pointer (some ⟨b25, 0, none⟩))]) ?_ ?_
  ·refine cQ <| cR <| wm rfl <| wn rfl rfl <| wV rfl (run_field (o' := 1) underlying61 rfl ty58 rfl rfl rfl) <| wV rfl (run_load1 ty58 rfl ((hat (hlw hs)).cell (j := 1) rfl)) ?_
   refine WL.rangeS2 underlying58 rfl (hmd hs) rfl hs (fun b30 w hs => ?_)
   refine wZ <| CW.block ?_
   refine CW.loop (fun z f w => ∃ done left Ds', z = left.length ∧ (done ++ left).Perm (mapDi Ds 0) ∧ (Ds'.map fun r : DB => (r.p, r.n)) = done.map (trN Ds) ∧ Step [] ((b30, iterS md Ds.length done) :: (b25, blk 61 (fsC b10 b11 (.slice none 0 0) ⟨[], [], [], s.qb, s.qf, s.qo, s.by_, s.op⟩)) :: (b10, mapS [] 0) :: (b11, mapS (mapDi Ds' 0) Ds'.length) :: Ds'.flatMap DB.own) w0 w ∧ Holds f [(0, .pointer (some ⟨bf, 0, none⟩)), (3, .pointer (some ⟨b25, 0, none⟩)), (30, .pointer (some ⟨b30, 0, none⟩))]) (m := Ds.length) ?_ ?_
   ·exact ⟨[], mapDi Ds 0, [], (mapDi_len Ds 0).symm, List.Perm.refl _, rfl, hs, rfl, rfl, rfl, trivial⟩
   clear hs
   rintro z f w ⟨done, left, Ds', rfl, hperm, hD, hs, hf⟩
   have hobt := hf.chain
   obtain ⟨g, rfl⟩ := hobt
   by_cases hne : left = []
   ·subst hne
    refine cQ <| cR <| wV rfl (run_nextSEnd rfl hs.hd (hmd hs) (bornD Ds) hperm) <| wx rfl rfl rfl <| wZ <| cQ ?_
    refine cC rfl (fun h => ?_) (fun h => ?_)
    ·cases h
    refine CW.exit ?_
    rw [List.append_nil] at hperm
    refine ⟨rfl, Ds', ?_, hs.tail, rfl, rfl, trivial⟩
    rw [hD, ← o.D, ← mapDi_trN Ds]
    exact hperm.map _
   ·refine cQ <| cR ?_
    refine WL.nextS2 rfl rfl hs (hmd hs) (bornD Ds) hperm hne (fun p left' w hleft hperm hs => ?_)
    refine wx rfl rfl rfl <| wZ <| cQ ?_
    refine cC rfl (fun h => ?_) (fun h => ?_)
    ·repeat (first | refine cQ ?_ | refine CW.block ?_ | refine cK ?_)
     refine cR <| wV rfl (run_entryS rfl hs.hd (hmd hs) (bornD Ds) (hperm.mem_iff.1 (by simp))) <| wx rfl rfl rfl <| wx rfl rfl rfl <| wa rfl <| wa rfl <| wZ ?_
     have hleft := hleft.length_eq
     rw [List.length_cons] at hleft
     have hpm : p ∈ mapDi Ds 0 := hperm.mem_iff.1 (by simp)
     have hobt := mapDi_mem hpm
     obtain ⟨i, r, hi, hpe⟩ := hobt
     have hkeys : (((done ++ [p]) ++ left').map (·.1)).Nodup := by
      refine ((hperm.map _).nodup_iff).2 ?_
      have h1 : (mapDi Ds 0).map (·.1) = Ds.map (·.p) := mapDi_keys Ds 0
      rw [h1, show Ds.map (·.p) = s.D.map (·.1) by rw [← o.D, List.map_map]; rfl]
      exact t.ndD
     have hfresh : findS r.p (mapDi Ds' 0) 0 = none := by
      refine findD_none Ds' 0 0 ?_
      rw [hD, List.findIdx?_eq_none_iff]
      intro x hx
      have hobt := List.mem_map.1 hx
      obtain ⟨y, hy, rfl⟩ := hobt
      rw [List.map_append, List.map_append, List.nodup_append] at hkeys
      have h2 := (List.nodup_append.1 hkeys.1).2.2 y.1 (List.mem_map_of_mem hy) p.1 (by simp)
      rw [hpe] at h2
      have h3 : ¬ (trN Ds y).1 = r.p := h2
      exact decide_eq_false h3
     have htr : trN Ds p = (r.p, r.n) := by
      rw [hpe]
      unfold trN
      simp only [Nat.zero_add, hi]
      rfl
     have hdat := fun {L' w} (hs : Step [] L' w0 w) => o.dat (hlw hs) hi
     subst hpe
     refine CW.any (A := fun w => w.heap[b25]? = some (blk 61 (fsC b10 b11 (.slice none 0 0) ⟨[], [], [], s.qb, s.qf, s.qo, s.by_, s.op⟩)) ∧ Step [] [] w0 w) (C := fun w => w.heap[b25]? = some (blk 61 (fsC b10 b11 (.slice none 0 0) ⟨[], [], [], s.qb, s.qf, s.qo, s.by_, s.op⟩)) ∧ Step [] [] w0 w) 1000000 16 mixedP rfl ?_
     replace hs := hs.drew
     refine AL.val 0 rfl (by kernel_rfl) rfl (fun w hs => run_move) ?_
     refine AL.val 1 rfl (by kernel_rfl) rfl (fun w hs => run_nilCheck rfl) ?_
     refine AL.val 2 rfl (by kernel_rfl) rfl (fun w hs => run_field (o' := 1) underlying61 rfl ty58 rfl rfl rfl) ?_
     refine AL.val 3 rfl (by kernel_rfl) rfl (fun w hs => run_load1 ty58 rfl ((by rw [cell_blk hs.1]; rfl))) ?_
     refine AL.val 4 rfl (by kernel_rfl) rfl (fun w hs => run_move) ?_
     refine AL.val 5 rfl (by kernel_rfl) rfl (fun w hs => run_move) ?_
     refine AL.val 6 rfl (by kernel_rfl) rfl (fun w hs => run_nilCheck rfl) ?_
     refine AL.val 7 rfl (by kernel_rfl) rfl (fun w hs => run_field (o' := 0) underlying74 rfl ty65 rfl rfl rfl) ?_
     refine AL.val 8 rfl (by kernel_rfl) rfl (fun w hs => run_loadN ty65 rfl rfl ((hdat hs.2).take 1)) ?_
     refine AL.val 9 rfl (by kernel_rfl) rfl (fun w hs => run_move) ?_
     refine AL.val 10 rfl (by kernel_rfl) rfl (fun w hs => run_nilCheck rfl) ?_
     refine AL.val 11 rfl (by kernel_rfl) rfl (fun w hs => run_field (o' := 1) underlying74 rfl ty3 rfl rfl rfl) ?_
     refine AL.val 12 rfl (by kernel_rfl) rfl (fun w hs => run_load1 ty3 rfl ((hdat hs.2).cell (j := 1) rfl)) ?_
     refine AL.val 13 rfl (by kernel_rfl) rfl (fun w hs => run_build rfl (bld_dirT _ _ _)) ?_
     refine AL.one 14 (by kernel_rfl) rfl (by first | exact ⟨hs.tail.hd, hs.clear⟩ | exact ⟨hs.tail.tail.hd, hs.clear⟩ | exact ⟨hs.tail.tail.tail.hd, hs.clear⟩) (by first | exact ⟨hs.tail.hd, hs.clear⟩ | exact ⟨hs.tail.tail.hd, hs.clear⟩ | exact ⟨hs.tail.tail.tail.hd, hs.clear⟩) ?_
     refine WL.box (cs := [str r.p, .int .i64 (r.n : Nat)]) rfl rfl rfl hs (fun b50 w hs => ?_)
     refine wZ ?_
     refine ⟨rfl, ?_⟩
     refine AL.one 15 (by kernel_rfl) rfl (by first | exact ⟨hs.tail.hd, hs.clear⟩ | exact ⟨hs.tail.tail.hd, hs.clear⟩ | exact ⟨hs.tail.tail.tail.hd, hs.clear⟩) (by first | exact ⟨hs.tail.hd, hs.clear⟩ | exact ⟨hs.tail.tail.hd, hs.clear⟩ | exact ⟨hs.tail.tail.tail.hd, hs.clear⟩) ?_
     refine WL.mapPutS underlying58 underlying9 rfl rfl rfl ((hs.front [_, _, _, _])) (fun w hs => ?_)
     refine wZ ?_
     refine ⟨rfl, ?_⟩
     refine AL.end (by kernel_rfl) (by first | exact ⟨hs.tail.hd, hs.clear⟩ | exact ⟨hs.tail.tail.hd, hs.clear⟩ | exact ⟨hs.tail.tail.tail.hd, hs.clear⟩) (by first | exact ⟨hs.tail.hd, hs.clear⟩ | exact ⟨hs.tail.tail.hd, hs.clear⟩ | exact ⟨hs.tail.tail.tail.hd, hs.clear⟩) ?_
     have hmp : mapS (putMS r.p (.pointer (some ⟨b50, 0, none⟩)) Ds'.length (mapDi Ds' 0)) (putCS r.p Ds'.length (mapDi Ds' 0)) = mapS (mapDi (Ds' ++ [⟨r.p, b50, r.n⟩]) 0) (Ds' ++ [⟨r.p, b50, r.n⟩] : List DB).length := by
      unfold putMS putCS
      rw [hfresh, mapDi_app, Nat.zero_add, List.length_append]
      rfl
     have hs3 : Step [] ((b11, mapS (mapDi (Ds' ++ [⟨r.p, b50, r.n⟩]) 0) (Ds' ++ [⟨r.p, b50, r.n⟩] : List DB).length) :: (b50, blk 74 [str r.p, .int .i64 (r.n : Nat)]) :: (b30, iterS md Ds.length (done ++ [(r.p, .pointer (some ⟨r.b, 0, none⟩), 0 + i)])) :: (b25, blk 61 (fsC b10 b11 (.slice none 0 0) ⟨[], [], [], s.qb, s.qf, s.qo, s.by_, s.op⟩)) :: (b10, mapS [] 0) :: Ds'.flatMap DB.own) w0 w := by rw [← hmp]; exact hs
     have hfl : (Ds' ++ [⟨r.p, b50, r.n⟩] : List DB).flatMap DB.own = Ds'.flatMap DB.own ++ [(b50, blk 74 [str r.p, .int .i64 (r.n : Nat)])] := by simp [DB.own]
     refine (show _ ∧ _ from ⟨rfl, _, ?_, done ++ [(r.p, .pointer (some ⟨r.b, 0, none⟩), 0 + i)], left', Ds' ++ [⟨r.p, b50, r.n⟩], rfl, hperm, (by rw [List.map_append, hD, List.map_append, List.map_cons, List.map_nil, List.map_cons, List.map_nil, htr]), (by rw [hfl]; exact hs3.perm perm_tw), rfl, rfl, rfl, trivial⟩)
     omega
    ·cases h
  clear hs
  rintro f w ⟨Ds', hDp, hs, hf⟩
  have hobt := hf.chain
  obtain ⟨g, rfl⟩ := hobt
  refine CW.seqM (fun f w => ∃ Fs' : List FB, (Fs'.map fun r => (r.p, r.x)).Perm s.F ∧ (∀ r ∈ Fs', OwnSl 5 1 r.v r.x.length (u8s r.x) r.Lv) ∧ Step [] ((b25, blk 61 (fsC b10 b11 (.slice none 0 0) ⟨[], [], [], s.qb, s.qf, s.qo, s.by_, s.op⟩)) :: (b10, mapS (mapF Fs' 0) Fs'.length) :: (b11, mapS (mapDi Ds' 0) Ds'.length) :: (Ds'.flatMap DB.own ++ Fs'.flatMap FB.own)) w0 w ∧ Holds f [(0, .pointer (some ⟨bf, 0, none⟩)), (3, .pointer (some ⟨b25, 0, none⟩))]) ?_ ?_
  ·refine cQ <| cR <| wm rfl <| wn rfl rfl <| wV rfl (run_field (o' := 0) underlying61 rfl ty57 rfl rfl rfl) <| wV rfl (run_load1 ty57 rfl ((hat (hlw hs)).cell (j := 0) rfl)) ?_
   refine WL.rangeS2 underlying57 rfl (hmf hs) rfl hs (fun b55 w hs => ?_)
   refine wZ <| CW.block ?_
   refine CW.loop (fun z f w => ∃ done left Fs', z = left.length ∧ (done ++ left).Perm (mapF Fs 0) ∧ (Fs'.map fun r : FB => (r.p, r.x)) = done.map (fun e => (e.1, (trF Fs e).2.2)) ∧ (∀ r ∈ Fs', OwnSl 5 1 r.v r.x.length (u8s r.x) r.Lv) ∧ Step [] ((b55, iterS mf Fs.length done) :: (b25, blk 61 (fsC b10 b11 (.slice none 0 0) ⟨[], [], [], s.qb, s.qf, s.qo, s.by_, s.op⟩)) :: (b10, mapS (mapF Fs' 0) Fs'.length) :: (b11, mapS (mapDi Ds' 0) Ds'.length) :: (Ds'.flatMap DB.own ++ Fs'.flatMap FB.own)) w0 w ∧ Holds f [(0, .pointer (some ⟨bf, 0, none⟩)), (3, .pointer (some ⟨b25, 0, none⟩)), (55, .pointer (some ⟨b55, 0, none⟩))]) (m := Fs.length) ?_ ?_
   ·exact ⟨[], mapF Fs 0, [], (mapF_len Fs 0).symm, List.Perm.refl _, rfl, fun r hr => (by cases hr), by rw [show Ds'.flatMap DB.own ++ ([] : List FB).flatMap FB.own = Ds'.flatMap DB.own from List.append_nil _]; exact hs, rfl, rfl, rfl, trivial⟩
   clear hs
   rintro z f w ⟨done, left, Fs', rfl, hperm, hF, hFo, hs, hf⟩
   have hobt := hf.chain
   obtain ⟨g, rfl⟩ := hobt
   by_cases hne : left = []
   ·subst hne
    refine cQ <| cR <| wV rfl (run_nextSEnd rfl hs.hd (hmf hs) (bornF Fs) hperm) <| wx rfl rfl rfl <| wZ <| cQ ?_
    refine cC rfl (fun h => ?_) (fun h => ?_)
    ·cases h
    refine CW.exit ?_
    rw [List.append_nil] at hperm
    refine ⟨rfl, Fs', ?_, hFo, hs.tail, rfl, rfl, trivial⟩
    rw [hF, ← o.F]
    have h1 := congrArg (List.map fun t : Tri => (t.1, t.2.2)) (mapF_tr Fs [])
    rw [List.length_nil, List.nil_append, List.map_map, List.map_map] at h1
    exact (hperm.map _).trans (List.Perm.of_eq h1)
   ·refine cQ <| cR ?_
    refine WL.nextS2 rfl rfl hs (hmf hs) (bornF Fs) hperm hne (fun p left' w hleft hperm hs => ?_)
    refine wx rfl rfl rfl <| wZ <| cQ ?_
    refine cC rfl (fun h => ?_) (fun h => ?_)
    ·repeat (first | refine cQ ?_ | refine CW.block ?_ | refine cK ?_)
     refine cR <| wV rfl (run_entryS rfl hs.hd (hmf hs) (bornF Fs) (hperm.mem_iff.1 (by simp))) <| wx rfl rfl rfl <| wx rfl rfl rfl <| wa rfl <| wa rfl <| wZ ?_
     have hleft := hleft.length_eq
     rw [List.length_cons] at hleft
     have hpm : p ∈ mapF Fs 0 := hperm.mem_iff.1 (by simp)
     have hobt := mapF_mem hpm
     obtain ⟨i, r, hi, hpe⟩ := hobt
     have hkeys : (((done ++ [p]) ++ left').map (·.1)).Nodup := by
      refine ((hperm.map _).nodup_iff).2 ?_
      have h1 : (mapF Fs 0).map (·.1) = Fs.map (·.p) := mapF_keys Fs 0
      rw [h1, show Fs.map (·.p) = s.F.map (·.1) by rw [← o.F, List.map_map]; rfl]
      exact t.ndF
     have hfresh : findS r.p (mapF Fs' 0) 0 = none := by
      refine findF_none Fs' 0 0 ?_
      rw [hF, List.findIdx?_eq_none_iff]
      intro x hx
      have hobt := List.mem_map.1 hx
      obtain ⟨y, hy, rfl⟩ := hobt
      rw [List.map_append, List.map_append, List.nodup_append] at hkeys
      have h2 := (List.nodup_append.1 hkeys.1).2.2 y.1 (List.mem_map_of_mem hy) p.1 (by simp)
      rw [hpe] at h2
      exact decide_eq_false h2
     have htr : ((p.1, (trF Fs p).2.2) : List UInt8 × List UInt8) = (r.p, r.x) := by
      rw [hpe]
      unfold trF
      simp only [Nat.zero_add, hi]
      rfl
     have hxl : r.x.length ≤ 1048576 := sn.ok.x (r.p, r.x) (by rw [← o.F]; exact List.mem_map.2 ⟨r, List.mem_of_getElem? hi, rfl⟩)
     have hfat := fun {L' w} (hs : Step [] L' w0 w) => o.fat (hlw hs) hi
     subst hpe
     refine CW.any (A := fun w => w.heap[b25]? = some (blk 61 (fsC b10 b11 (.slice none 0 0) ⟨[], [], [], s.qb, s.qf, s.qo, s.by_, s.op⟩)) ∧ Step [] [] w0 w) (C := fun w => w.heap[b25]? = some (blk 61 (fsC b10 b11 (.slice none 0 0) ⟨[], [], [], s.qb, s.qf, s.qo, s.by_, s.op⟩)) ∧ Step [] [] w0 w) 1000000 17 mixedP rfl ?_
     replace hs := hs.drew
     refine AL.val 0 rfl (by kernel_rfl) rfl (fun w hs => run_move) ?_
     refine AL.val 1 rfl (by kernel_rfl) rfl (fun w hs => run_nilCheck rfl) ?_
     refine AL.val 2 rfl (by kernel_rfl) rfl (fun w hs => run_field (o' := 0) underlying61 rfl ty57 rfl rfl rfl) ?_
     refine AL.val 3 rfl (by kernel_rfl) rfl (fun w hs => run_load1 ty57 rfl ((by rw [cell_blk hs.1]; rfl))) ?_
     refine AL.val 4 rfl (by kernel_rfl) rfl (fun w hs => run_move) ?_
     refine AL.val 5 rfl (by kernel_rfl) rfl (fun w hs => run_move) ?_
     refine AL.val 6 rfl (by kernel_rfl) rfl (fun w hs => run_nilCheck rfl) ?_
     refine AL.val 7 rfl (by kernel_rfl) rfl (fun w hs => run_field (o' := 0) underlying67 rfl ty65 rfl rfl rfl) ?_
     refine AL.val 8 rfl (by kernel_rfl) rfl (fun w hs => run_loadN ty65 rfl rfl ((hfat hs.2).1.take 1)) ?_
     refine AL.val 9 rfl (by kernel_rfl) rfl (fun w hs => run_move) ?_
     refine AL.val 10 rfl (by kernel_rfl) rfl (fun w hs => run_nilCheck rfl) ?_
     refine AL.val 11 rfl (by kernel_rfl) rfl (fun w hs => run_field (o' := 1) underlying67 rfl ty38 rfl rfl rfl) ?_
     refine AL.val 12 rfl (by kernel_rfl) rfl (fun w hs => run_load1 ty38 rfl ((hfat hs.2).1.cell (j := 1) (v := r.v) rfl)) ?_
     refine AL.one 13 (by kernel_rfl) rfl (by first | exact ⟨hs.tail.hd, hs.clear⟩ | exact ⟨(Step.dropL hs).tail.hd, hs.clear⟩ | exact ⟨(Step.dropL hs.tail).tail.hd, hs.clear⟩ | exact ⟨(Step.dropL hs.tail.tail).tail.hd, hs.clear⟩) (by first | exact ⟨hs.tail.hd, hs.clear⟩ | exact ⟨(Step.dropL hs).tail.hd, hs.clear⟩ | exact ⟨(Step.dropL hs.tail).tail.hd, hs.clear⟩ | exact ⟨(Step.dropL hs.tail.tail).tail.hd, hs.clear⟩) ?_
     refine wE rfl (run_call en20 rfl rfl) (clone_spec _ (hfat hs).2 (by omega)) ?_
     rintro e w ⟨v', Lv, rfl, hv', hq⟩
     refine ⟨_, rfl, ?_⟩
     replace hs := hs.call0 hq
     have hvf := hv'.form
     obtain ⟨av, cv, hve⟩ := hvf
     subst hve
     refine wZ ?_
     refine ⟨rfl, ?_⟩
     refine AL.val 14 rfl (by kernel_rfl) rfl (fun w hs => run_build rfl (bld_fileT _ _ _ _ _)) ?_
     refine AL.one 15 (by kernel_rfl) rfl (by first | exact ⟨hs.tail.hd, hs.clear⟩ | exact ⟨(Step.dropL hs).tail.hd, hs.clear⟩ | exact ⟨(Step.dropL hs.tail).tail.hd, hs.clear⟩ | exact ⟨(Step.dropL hs.tail.tail).tail.hd, hs.clear⟩) (by first | exact ⟨hs.tail.hd, hs.clear⟩ | exact ⟨(Step.dropL hs).tail.hd, hs.clear⟩ | exact ⟨(Step.dropL hs.tail).tail.hd, hs.clear⟩ | exact ⟨(Step.dropL hs.tail.tail).tail.hd, hs.clear⟩) ?_
     refine WL.box (cs := [str r.p, .slice av r.x.length cv]) rfl rfl rfl hs (fun b76 w hs => ?_)
     refine wZ ?_
     refine ⟨rfl, ?_⟩
     refine AL.one 16 (by kernel_rfl) rfl (by first | exact ⟨hs.tail.hd, hs.clear⟩ | exact ⟨(Step.dropL hs).tail.hd, hs.clear⟩ | exact ⟨(Step.dropL hs.tail).tail.hd, hs.clear⟩ | exact ⟨(Step.dropL hs.tail.tail).tail.hd, hs.clear⟩) (by first | exact ⟨hs.tail.hd, hs.clear⟩ | exact ⟨(Step.dropL hs).tail.hd, hs.clear⟩ | exact ⟨(Step.dropL hs.tail).tail.hd, hs.clear⟩ | exact ⟨(Step.dropL hs.tail.tail).tail.hd, hs.clear⟩) ?_
     refine WL.mapPutS underlying57 underlying9 rfl rfl rfl ((hs.perm perm_tg)) (fun w hs => ?_)
     refine wZ ?_
     refine ⟨rfl, ?_⟩
     refine AL.end (by kernel_rfl) (by first | exact ⟨hs.tail.hd, hs.clear⟩ | exact ⟨(Step.dropL hs).tail.hd, hs.clear⟩ | exact ⟨(Step.dropL hs.tail).tail.hd, hs.clear⟩ | exact ⟨(Step.dropL hs.tail.tail).tail.hd, hs.clear⟩) (by first | exact ⟨hs.tail.hd, hs.clear⟩ | exact ⟨(Step.dropL hs).tail.hd, hs.clear⟩ | exact ⟨(Step.dropL hs.tail).tail.hd, hs.clear⟩ | exact ⟨(Step.dropL hs.tail.tail).tail.hd, hs.clear⟩) ?_
     have hmp : mapS (putMS r.p (.pointer (some ⟨b76, 0, none⟩)) Fs'.length (mapF Fs' 0)) (putCS r.p Fs'.length (mapF Fs' 0)) = mapS (mapF (Fs' ++ [⟨r.p, b76, .slice av r.x.length cv, r.x, Lv⟩]) 0) (Fs' ++ [⟨r.p, b76, .slice av r.x.length cv, r.x, Lv⟩] : List FB).length := by
      unfold putMS putCS
      rw [hfresh, mapF_app, Nat.zero_add, List.length_append]
      rfl
     have hs3 : Step [] ((b10, mapS (mapF (Fs' ++ [⟨r.p, b76, .slice av r.x.length cv, r.x, Lv⟩]) 0) (Fs' ++ [⟨r.p, b76, .slice av r.x.length cv, r.x, Lv⟩] : List FB).length) :: (b76, blk 67 [str r.p, .slice av r.x.length cv]) :: (Lv ++ ((b55, iterS mf Fs.length (done ++ [(r.p, .pointer (some ⟨r.b, 0, none⟩), 0 + i)])) :: (b25, blk 61 (fsC b10 b11 (.slice none 0 0) ⟨[], [], [], s.qb, s.qf, s.qo, s.by_, s.op⟩)) :: (b11, mapS (mapDi Ds' 0) Ds'.length) :: (Ds'.flatMap DB.own ++ Fs'.flatMap FB.own)))) w0 w := by rw [← hmp]; exact hs
     have hfl : (Fs' ++ [⟨r.p, b76, .slice av r.x.length cv, r.x, Lv⟩] : List FB).flatMap FB.own = Fs'.flatMap FB.own ++ ((b76, blk 67 [str r.p, .slice av r.x.length cv]) :: Lv) := by simp [FB.own]
     refine (show _ ∧ _ from ⟨rfl, _, ?_, done ++ [(r.p, .pointer (some ⟨r.b, 0, none⟩), 0 + i)], left', Fs' ++ [⟨r.p, b76, .slice av r.x.length cv, r.x, Lv⟩], rfl, hperm, (by rw [List.map_append, hF, List.map_append, List.map_cons, List.map_nil, List.map_cons, List.map_nil, htr]), (fun q hq => (List.mem_append.1 hq).elim (hFo q) fun h => by rw [List.mem_singleton.1 h]; exact hv'), (by rw [hfl]; exact hs3.perm perm_tf), rfl, rfl, rfl, trivial⟩)
     omega
    ·cases h
  clear hs
  rintro f w ⟨Fs', hFp, hFo, hs, hf⟩
  have hobt := hf.chain
  obtain ⟨g, rfl⟩ := hobt
  have hhl : Hs.length ≤ 1000 := by have := sn.ok.h; rw [← o.H, List.length_map] at this; exact this
  refine CW.seqM (fun f w => ∃ vh' Lh' Hs', Hs'.length = Hs.length ∧ OwnSl 75 1 vh' Hs'.length (Hs'.map HB.val) Lh' ∧ HRel Fs Fs' Hs Hs' ∧ Step [] ((b25, blk 61 (fsC b10 b11 (vh') ⟨[], [], [], s.qb, s.qf, s.qo, s.by_, s.op⟩)) :: (Lh' ++ ((b10, mapS (mapF Fs' 0) Fs'.length) :: (b11, mapS (mapDi Ds' 0) Ds'.length) :: (Ds'.flatMap DB.own ++ (Fs'.flatMap FB.own ++ Hs'.flatMap HB.own))))) w0 w ∧ Holds f [(3, .pointer (some ⟨b25, 0, none⟩))]) ?_ ?_
  ·refine cQ <| cR <| wm rfl <| wn rfl rfl <| wV rfl (run_field (o' := 2) underlying61 rfl ty59 rfl rfl rfl) <| wV rfl (run_load1 ty59 rfl ((hat (hlw hs)).cell (j := 2) rfl)) <| wV rfl (run_lenSl underlying59 rfl) <| wm rfl <| wZ <| CW.block ?_
   refine CW.loop (fun z f w => ∃ vh' Lh' Hs', Hs'.length ≤ Hs.length ∧ z = Hs.length - Hs'.length ∧ OwnSl 75 1 vh' Hs'.length (Hs'.map HB.val) Lh' ∧ HRel Fs Fs' Hs Hs' ∧ Step [] ((b25, blk 61 (fsC b10 b11 (vh') ⟨[], [], [], s.qb, s.qf, s.qo, s.by_, s.op⟩)) :: (Lh' ++ ((b10, mapS (mapF Fs' 0) Fs'.length) :: (b11, mapS (mapDi Ds' 0) Ds'.length) :: (Ds'.flatMap DB.own ++ (Fs'.flatMap FB.own ++ Hs'.flatMap HB.own))))) w0 w ∧ Holds f [(3, .pointer (some ⟨b25, 0, none⟩)), (80, .slice ah Hs.length ch), (81, .int .i64 Hs.length), (82, .int .i64 Hs'.length)]) (m := Hs.length) ?_ ?_
   ·exact ⟨.slice none 0 0, [], [], by simp, rfl, OwnSl.nil _ _, fun k a h => (by simp at h), by rw [show Fs'.flatMap FB.own ++ ([] : List (Option HB)).flatMap HB.own = Fs'.flatMap FB.own from List.append_nil _]; exact hs, rfl, rfl, rfl, rfl, trivial⟩
   clear hs
   rintro z f w ⟨vh', Lh', Hs', hl, rfl, hv, hrel, hs, hf⟩
   have hobt := hv.form
   obtain ⟨av, cv, rfl⟩ := hobt
   by_cases hlt : Hs'.length < Hs.length
   ·have hobt := (o.hsl hw).based (by omega)
    obtain ⟨bo, oo, co, hqo, hsat⟩ := hobt
    injection hqo with u1 u2 u3
    have hc4 := congrArg (fun z => Value.slice z Hs.length ch) u1
    rw [show Value.slice ah Hs.length ch = Value.slice (some ⟨bo, oo, none⟩) Hs.length ch from hc4] at hf
    have hobt := hf.chain
    obtain ⟨g, rfl⟩ := hobt
    have hobt : ∃ x, Hs[Hs'.length]? = some x := ⟨_, List.getElem?_eq_getElem hlt⟩
    obtain ⟨x, hx⟩ := hobt
    have hcx := fun {L' w} (hs : Step [] L' w0 w) => (hsat.step hs (by simp)).cell (j := Hs'.length * 1) (v := HB.val x) (by rw [Nat.mul_one, List.getElem?_map, hx]; rfl)
    cases x with
    | none =>
     refine cQ <| cR <| wV rfl (run_bT (run_lss rfl rfl) (by omega)) <| wZ <| cQ ?_
     refine cC rfl (fun h => ?_) (fun h => ?_)
     ·repeat (first | refine cQ ?_ | refine CW.block ?_ | refine cK ?_)
      refine cR <| wV rfl (run_ixSlN underlying59 ty75 rfl rfl (by omega)) <| wV rfl (run_load1 ty75 rfl (hcx hs)) <| wa rfl <| wZ <| cQ <| cR <| wm rfl <| wV rfl (run_nilNil underlying75 rfl rfl) <| wZ ?_
      refine cC rfl (fun h2 => ?_) (fun h2 => ?_)
      ·skip
       refine cR <| wm rfl <| wm rfl <| wn rfl rfl <| wV rfl (run_field (o' := 2) underlying61 rfl ty59 rfl rfl rfl) <| wV rfl (run_load1 ty59 rfl (hs.c0 (v := .slice av Hs'.length cv) rfl)) ?_
       refine WL.buildSlice (cs := [.pointer none]) underlying59 ty75 rfl (by decide) rfl (filled_s _ _ rfl) rfl hs (fun b93 w hs => ?_)
       have hsl1 : Sl w 1 (.slice (some ⟨b93, 0, none⟩) 1 1) 1 [.pointer none] := .own1 hs rfl
       refine WL.append underlying59 underlying59 ty75 rfl (by decide) rfl rfl (hv) ((hs.perm perm_ti)) (hsl1) (Cells1.of_all rfl) (by first | omega | (simp only [List.length_append, List.length_cons, List.length_nil]; omega)) rfl (fun v94 Lv94 w hv94 hs => ?_)
       replace hs := hs.perm perm_tj
       refine wn rfl rfl <| wV rfl (run_field (o' := 2) underlying61 rfl ty59 rfl rfl rfl) ?_
       refine WL.store1 ty59 rfl rfl ((by obtain ⟨a, c, he⟩ := hv94.form; rw [he]; rfl)) hs (by first | (simp; done) | omega | (simp only [List.length_append, List.length_replicate, List.length_cons, List.length_nil, List.length_set]; omega) | (simp [Ent.cells, u8s]; done) | exact Nat.le_of_ble_eq_true rfl) (fun w hs => ?_)
       refine wZ ?_
       replace hs := hs.swap.tail
       have hle : (Hs' ++ [none] : List (Option HB)).length = Hs'.length + 1 := by simp
       have hfl : (Hs' ++ [none] : List (Option HB)).flatMap HB.own = Hs'.flatMap HB.own := by simp [HB.own]
       refine cR <| wV rfl (run_add (c := ((Hs'.length + 1 : Nat) : Int)) rfl rfl (by omega) (by omega)) <| wm rfl <| wZ ?_
       refine (show _ ∧ _ from ⟨rfl, _, ?_, v94, Lv94, Hs' ++ [none], by omega, rfl, (by rw [hle, List.map_append]; exact hv94), hrel.add hx (.inl ⟨rfl, rfl⟩), (by rw [hfl]; exact hs), rfl, hc4.symm, rfl, (congrArg (fun z : Nat => Value.int .i64 (z : Int)) hle).symm, trivial⟩)
       omega
      ·cases h2
     ·cases h
    | some hb =>
     have hobt := o.file hx
     obtain ⟨r, hr, hfb⟩ := hobt
     obtain ⟨i', r', hi', hp', hlk⟩ := look_tw (Fs := Fs') (p := r.p) (by
      have h1 : (r.p, r.x) ∈ s.F := by rw [← o.F]; exact List.mem_map.2 ⟨r, List.mem_of_getElem? hr, rfl⟩
      have hobt := List.mem_map.1 (hFp.mem_iff.2 h1)
      obtain ⟨r2, h2, h3⟩ := hobt
      exact ⟨r2, h2, congrArg Prod.fst h3⟩)
     have hhat := fun {L' w} (hs : Step [] L' w0 w) => o.hat (hlw hs) hx
     have hfat := fun {L' w} (hs : Step [] L' w0 w) => (o.fat (hlw hs) hr).1
     rw [hfb] at hhat
     refine cQ <| cR <| wV rfl (run_bT (run_lss rfl rfl) (by omega)) <| wZ <| cQ ?_
     refine cC rfl (fun h => ?_) (fun h => ?_)
     ·repeat (first | refine cQ ?_ | refine CW.block ?_ | refine cK ?_)
      refine cR <| wV rfl (run_ixSlN underlying59 ty75 rfl rfl (by omega)) <| wV rfl (run_load1 ty75 rfl (hcx hs)) <| wa rfl <| wZ <| cQ <| cR <| wm rfl <| wV rfl (run_ptrNil underlying75 rfl rfl) <| wZ ?_
      refine cC rfl (fun h2 => ?_) (fun h2 => ?_)
      ·cases h2
      ·skip
       refine CW.any (A := fun w => Step [] [] w0 w) (C := fun w => (w.heap[b25]? = some (blk 61 (fsC b10 b11 (.slice av Hs'.length cv) ⟨[], [], [], s.qb, s.qf, s.qo, s.by_, s.op⟩)) ∧ w.heap[b10]? = some (mapS (mapF Fs' 0) Fs'.length)) ∧ Step [] [] w0 w) 32 33 mixedP rfl ?_
       replace hs := hs.drew
       refine AL.val 0 rfl (by kernel_rfl) rfl (fun w hs => run_move) ?_
       refine AL.val 1 rfl (by kernel_rfl) rfl (fun w hs => run_move) ?_
       refine AL.val 2 rfl (by kernel_rfl) rfl (fun w hs => run_nilCheck rfl) ?_
       refine AL.val 3 rfl (by kernel_rfl) rfl (fun w hs => run_field (o' := 2) underlying61 rfl ty59 rfl rfl rfl) ?_
       refine AL.val 4 rfl (by kernel_rfl) rfl (fun w hs => run_load1 ty59 rfl ((by rw [cell_blk hs.1.1]; rfl))) ?_
       refine AL.val 5 rfl (by kernel_rfl) rfl (fun w hs => run_move) ?_
       refine AL.val 6 rfl (by kernel_rfl) rfl (fun w hs => run_nilCheck rfl) ?_
       refine AL.val 7 rfl (by kernel_rfl) rfl (fun w hs => run_field (o' := 0) underlying61 rfl ty57 rfl rfl rfl) ?_
       refine AL.val 8 rfl (by kernel_rfl) rfl (fun w hs => run_load1 ty57 rfl ((by rw [cell_blk hs.1.1]; rfl))) ?_
       refine AL.val 9 rfl (by kernel_rfl) rfl (fun w hs => run_move) ?_
       refine AL.val 10 rfl (by kernel_rfl) rfl (fun w hs => run_nilCheck rfl) ?_
       refine AL.val 11 rfl (by kernel_rfl) rfl (fun w hs => run_field (o' := 0) underlying77 rfl ty62 rfl rfl rfl) ?_
       refine AL.val 12 rfl (by kernel_rfl) rfl (fun w hs => run_load1 ty62 rfl ((hhat hs.2).cell (j := 0) rfl)) ?_
       refine AL.val 13 rfl (by kernel_rfl) rfl (fun w hs => run_nilCheck rfl) ?_
       refine AL.val 14 rfl (by kernel_rfl) rfl (fun w hs => run_field (o' := 0) underlying67 rfl ty65 rfl rfl rfl) ?_
       refine AL.val 15 rfl (by kernel_rfl) rfl (fun w hs => run_field (o' := 0) underlying65 rfl ty9 rfl rfl rfl) ?_
       refine AL.val 16 rfl (by kernel_rfl) rfl (fun w hs => run_load1 ty9 rfl ((hfat hs.2).cell (j := 0) rfl)) ?_
       refine AL.val 17 rfl (by kernel_rfl) rfl (fun w hs => run_lookupSE underlying57 underlying9 (zFile _) (hlk) rfl rfl (hs.1.2)) ?_
       refine AL.val 18 rfl (by kernel_rfl) rfl (fun w hs => run_move) ?_
       refine AL.val 19 rfl (by kernel_rfl) rfl (fun w hs => run_nilCheck rfl) ?_
       refine AL.val 20 rfl (by kernel_rfl) rfl (fun w hs => run_field (o' := 1) underlying77 rfl ty3 rfl rfl rfl) ?_
       refine AL.val 21 rfl (by kernel_rfl) rfl (fun w hs => run_load1 ty3 rfl ((hhat hs.2).cell (j := 1) rfl)) ?_
       refine AL.val 22 rfl (by kernel_rfl) rfl (fun w hs => run_move) ?_
       refine AL.val 23 rfl (by kernel_rfl) rfl (fun w hs => run_nilCheck rfl) ?_
       refine AL.val 24 rfl (by kernel_rfl) rfl (fun w hs => run_field (o' := 2) underlying77 rfl ty3 rfl rfl rfl) ?_
       refine AL.val 25 rfl (by kernel_rfl) rfl (fun w hs => run_load1 ty3 rfl ((hhat hs.2).cell (j := 2) rfl)) ?_
       refine AL.val 26 rfl (by kernel_rfl) rfl (fun w hs => run_build rfl (bld_hdlT _ _ _ _)) ?_
       refine AL.one 27 (by kernel_rfl) rfl (hs.clear) (⟨⟨hs.get (by simp), hs.get (by simp)⟩, hs.clear⟩) ?_
       refine WL.box (cs := [.pointer (some ⟨r'.b, 0, none⟩), .int .i64 (hb.pl : Nat), .int .i64 (hb.mo : Nat)]) rfl rfl rfl hs (fun b124 w hs => ?_)
       refine wZ ?_
       refine ⟨rfl, ?_⟩
       refine AL.one 28 (by kernel_rfl) rfl (hs.clear) (⟨⟨hs.get (by simp), hs.get (by simp)⟩, hs.clear⟩) ?_
       refine WL.buildSlice (cs := [.pointer (some ⟨b124, 0, none⟩)]) underlying59 ty75 rfl (by decide) rfl (filled_s _ _ rfl) rfl hs (fun b125 w hs => ?_)
       have hsl1 : Sl w 1 (.slice (some ⟨b125, 0, none⟩) 1 1) 1 [.pointer (some ⟨b124, 0, none⟩)] := .own1 hs rfl
       refine wZ ?_
       refine ⟨rfl, ?_⟩
       refine AL.one 29 (by kernel_rfl) rfl (hs.clear) (⟨⟨hs.get (by simp), hs.get (by simp)⟩, hs.clear⟩) ?_
       refine WL.append underlying59 underlying59 ty75 rfl (by decide) rfl rfl (hv) ((hs.perm perm_tk)) (hsl1) (Cells1.of_all rfl) (by first | omega | (simp only [List.length_append, List.length_cons, List.length_nil]; omega)) rfl (fun v126 Lv126 w hv126 hs => ?_)
       replace hs := hs.perm perm_tl
       refine wZ ?_
       refine ⟨rfl, ?_⟩
       refine AL.valA 30 rfl (by kernel_rfl) rfl (fun w hs => run_nilCheck rfl) ?_
       refine AL.val 31 rfl (by kernel_rfl) rfl (fun w hs => run_field (o' := 2) underlying61 rfl ty59 rfl rfl rfl) ?_
       refine AL.one 32 (by kernel_rfl) rfl (hs.clear) (⟨⟨hs.get (by simp), hs.get (by simp)⟩, hs.clear⟩) ?_
       refine WL.store1 ty59 rfl rfl ((by obtain ⟨a, c, he⟩ := hv126.form; rw [he]; rfl)) hs (by first | (simp; done) | omega | (simp only [List.length_append, List.length_replicate, List.length_cons, List.length_nil, List.length_set]; omega) | (simp [Ent.cells, u8s]; done) | exact Nat.le_of_ble_eq_true rfl) (fun w hs => ?_)
       refine wZ ?_
       refine ⟨rfl, ?_⟩
       refine AL.relax (by kernel_rfl) ?_
       refine AL.end (by kernel_rfl) (hs.clear) (trivial) ?_
       replace hs := hs.swap.tail
       have hle : (Hs' ++ [some ⟨b124, r'.b, i', hb.pl, hb.mo⟩] : List (Option HB)).length = Hs'.length + 1 := by simp
       have hfl : (Hs' ++ [some ⟨b124, r'.b, i', hb.pl, hb.mo⟩] : List (Option HB)).flatMap HB.own = Hs'.flatMap HB.own ++ [(b124, blk 77 [.pointer (some ⟨r'.b, 0, none⟩), .int .i64 (hb.pl : Nat), .int .i64 (hb.mo : Nat)])] := by simp [HB.own]
       replace hs := hs.perm perm_tm
       refine cR <| wV rfl (run_add (c := ((Hs'.length + 1 : Nat) : Int)) rfl rfl (by omega) (by omega)) <| wm rfl <| wZ ?_
       refine (show _ ∧ _ from ⟨rfl, _, ?_, v126, Lv126, Hs' ++ [some ⟨b124, r'.b, i', hb.pl, hb.mo⟩], by omega, rfl, (by rw [hle, List.map_append]; exact hv126), hrel.add hx (.inr ⟨_, _, r', r, rfl, rfl, hi', rfl, hr, hp', rfl, rfl⟩), (by rw [hfl]; exact hs), rfl, hc4.symm, rfl, Eq.trans (b := Value.int .i64 ((Hs'.length + 1 : Nat) : Int)) (by kernel_rfl) (congrArg (fun z : Nat => Value.int .i64 (z : Int)) hle).symm, trivial⟩)
       omega
     ·cases h
   ·have hobt := hf.chain
    obtain ⟨g, rfl⟩ := hobt
    refine cQ <| cR <| wV rfl (run_bF (run_lss rfl rfl) (by omega)) <| wZ <| cQ ?_
    refine cC rfl (fun h => ?_) (fun h => ?_)
    ·cases h
    refine CW.exit ?_
    exact ⟨rfl, _, Lh', Hs', by omega, hv, hrel, hs, rfl, trivial⟩
  clear hs
  rintro f w ⟨vh', Lh', Hs', hl, hv, hrel, hs, hf⟩
  have hobt := hf.chain
  obtain ⟨g, rfl⟩ := hobt
  refine cQ <| cR <| wm rfl <| wa rfl <| wZ ?_
  refine CW.ret ?_
  refine fin_ret1 rfl ?_
  have he : Eqv s ⟨Fs'.map (fun r => (r.p, r.x)), Ds'.map (fun r => (r.p, r.n)), Hs'.map (Option.map fun h => (h.i, h.pl, h.mo)), s.qb, s.qf, s.qo, s.by_, s.op⟩ := by
   refine ⟨hFp.symm, hDp.symm, ?_, rfl, rfl, rfl, rfl, rfl⟩
   unfold Go.Gx.hv
   rw [← o.H]
   apply List.ext_getElem?
   intro k
   simp only [List.getElem?_map]
   cases hk : Hs'[k]? with
   | none =>
    have h1 : Hs[k]? = none := by
     rw [List.getElem?_eq_none_iff] at hk ⊢
     omega
    rw [h1]
    rfl
   | some a =>
    have hobt := hrel k a hk
    obtain ⟨b, hb, hc⟩ := hobt
    rw [hb]
    rcases hc with ⟨rfl, rfl⟩ | ⟨h', h, r', r, rfl, rfl, g1, g2, g3, g4, g5, g6⟩
    ·rfl
    ·have p1 : s.pth h.i = r.p := by
      unfold VS.pth
      rw [← o.F, List.getElem?_map, g3]
      rfl
     have p2 : ((((Fs'.map fun r : FB => (r.p, r.x))[h'.i]?).map (·.1)).getD []) = r'.p := by
      rw [List.getElem?_map, g1]
      rfl
     show some (some (s.pth h.i, h.pl, h.mo)) = some (some (((((Fs'.map fun r : FB => (r.p, r.x))[h'.i]?).map (·.1)).getD []), h'.pl, h'.mo))
     rw [p1, p2, g4, g5, g6]
  have hfi : ∀ i pl mo, some (i, pl, mo) ∈ (Hs'.map (Option.map fun h => (h.i, h.pl, h.mo))) → i < (Fs'.map fun r => (r.p, r.x)).length := by
   intro i pl mo hm
   have hobt := List.mem_map.1 hm
   obtain ⟨a, ha, hae⟩ := hobt
   have hobt := List.mem_iff_getElem?.1 ha
   obtain ⟨k, hk⟩ := hobt
   have hobt := hrel k a hk
   obtain ⟨b, hb, hc⟩ := hobt
   rcases hc with ⟨rfl, rfl⟩ | ⟨h', h, r', r, rfl, rfl, g1, g2, g3, g4, g5, g6⟩
   ·cases hae
   ·simp only [Option.map_some, Option.some.injEq, Prod.mk.injEq] at hae
    rw [List.length_map, ← hae.1]
    exact (List.getElem?_eq_some_iff.1 g1).1
  refine ⟨b25, _, _, rfl, ⟨b10, b11, vh', Lh', Fs', Ds', Hs', ⟨rfl, hv, hFo, ?_, rfl, rfl, rfl⟩⟩, he, he.sane sn t hfi, he.tree t, ?_⟩
  ·intro h hm
   have hobt := List.mem_iff_getElem?.1 hm
   obtain ⟨k, hk⟩ := hobt
   have hobt := hrel k _ hk
   obtain ⟨b, hb, hc⟩ := hobt
   rcases hc with ⟨h1, _⟩ | ⟨h', h2, r', r, e1, _, g1, g2, _⟩
   ·cases h1
   ·cases e1
    exact ⟨r', g1, g2⟩
  ·exact hs.perm perm_th
 ·refine WL.makeMapS rfl hs (fun b11 w hs => ?_)
  refine wZ ?_
  refine ⟨rfl, ?_⟩
  refine AL.one 0 (by kernel_rfl) rfl (hs.clear) (hs.clear) ?_
  refine WL.makeMapS rfl hs (fun b10 w hs => ?_)
  refine wZ ?_
  refine ⟨rfl, ?_⟩
  refine AL.val 14 rfl (by kernel_rfl) rfl (fun w hs => run_build rfl (bld_FSt _ _ _ _ _ _ _ _)) ?_
  refine AL.one 15 (by kernel_rfl) rfl (hs.clear) (hs.clear) ?_
  refine WL.box (cs := (fsC b10 b11 (.slice none 0 0) ⟨[], [], [], s.qb, s.qf, s.qo, s.by_, s.op⟩)) rfl rfl rfl hs (fun b25 w hs => ?_)
  refine wZ ?_
  refine ⟨rfl, ?_⟩
  refine AL.val 16 rfl (by kernel_rfl) rfl (fun w hs => run_assign) ?_
  refine AL.end (by kernel_rfl) (hs.clear) (hs.clear) ?_
  replace hs : Step [] [(b25, blk 61 (fsC b10 b11 (.slice none 0 0) ⟨[], [], [], s.qb, s.qf, s.qo, s.by_, s.op⟩)), (b10, mapS [] 0), (b11, mapS [] 0)] w0 w := by first | exact hs | exact hs.perm ((List.Perm.swap _ _ _).cons _)
  refine CW.seqM (fun f w => ∃ Ds' : List DB, (Ds'.map fun r => (r.p, r.n)).Perm s.D ∧ Step [] ((b25, blk 61 (fsC b10 b11 (.slice none 0 0) ⟨[], [], [], s.qb, s.qf, s.qo, s.by_, s.op⟩)) :: (b10, mapS [] 0) :: (b11, mapS (mapDi Ds' 0) Ds'.length) :: Ds'.flatMap DB.own) w0 w ∧ Holds f [(0, .pointer (some ⟨bf, 0, none⟩)), (3, .pointer (some ⟨b25, 0, none⟩))]) ?_ ?_
  ·refine cQ <| cR <| wm rfl <| wn rfl rfl <| wV rfl (run_field (o' := 1) underlying61 rfl ty58 rfl rfl rfl) <| wV rfl (run_load1 ty58 rfl ((hat (hlw hs)).cell (j := 1) rfl)) ?_
   refine WL.rangeS2 underlying58 rfl (hmd hs) rfl hs (fun b30 w hs => ?_)
   refine wZ <| CW.block ?_
   refine CW.loop (fun z f w => ∃ done left Ds', z = left.length ∧ (done ++ left).Perm (mapDi Ds 0) ∧ (Ds'.map fun r : DB => (r.p, r.n)) = done.map (trN Ds) ∧ Step [] ((b30, iterS md Ds.length done) :: (b25, blk 61 (fsC b10 b11 (.slice none 0 0) ⟨[], [], [], s.qb, s.qf, s.qo, s.by_, s.op⟩)) :: (b10, mapS [] 0) :: (b11, mapS (mapDi Ds' 0) Ds'.length) :: Ds'.flatMap DB.own) w0 w ∧ Holds f [(0, .pointer (some ⟨bf, 0, none⟩)), (3, .pointer (some ⟨b25, 0, none⟩)), (30, .pointer (some ⟨b30, 0, none⟩))]) (m := Ds.length) ?_ ?_
   ·exact ⟨[], mapDi Ds 0, [], (mapDi_len Ds 0).symm, List.Perm.refl _, rfl, hs, rfl, rfl, rfl, trivial⟩
   clear hs
   rintro z f w ⟨done, left, Ds', rfl, hperm, hD, hs, hf⟩
   have hobt := hf.chain
   obtain ⟨g, rfl⟩ := hobt
   by_cases hne : left = []
   ·subst hne
    refine cQ <| cR <| wV rfl (run_nextSEnd rfl hs.hd (hmd hs) (bornD Ds) hperm) <| wx rfl rfl rfl <| wZ <| cQ ?_
    refine cC rfl (fun h => ?_) (fun h => ?_)
    ·cases h
    refine CW.exit ?_
    rw [List.append_nil] at hperm
    refine ⟨rfl, Ds', ?_, hs.tail, rfl, rfl, trivial⟩
    rw [hD, ← o.D, ← mapDi_trN Ds]
    exact hperm.map _
   ·refine cQ <| cR ?_
    refine WL.nextS2 rfl rfl hs (hmd hs) (bornD Ds) hperm hne (fun p left' w hleft hperm hs => ?_)
    refine wx rfl rfl rfl <| wZ <| cQ ?_
    refine cC rfl (fun h => ?_) (fun h => ?_)
    ·repeat (first | refine cQ ?_ | refine CW.block ?_ | refine cK ?_)
     refine cR <| wV rfl (run_entryS rfl hs.hd (hmd hs) (bornD Ds) (hperm.mem_iff.1 (by simp))) <| wx rfl rfl rfl <| wx rfl rfl rfl <| wa rfl <| wa rfl <| wZ ?_
     have hleft := hleft.length_eq
     rw [List.length_cons] at hleft
     have hpm : p ∈ mapDi Ds 0 := hperm.mem_iff.1 (by simp)
     have hobt := mapDi_mem hpm
     obtain ⟨i, r, hi, hpe⟩ := hobt
     have hkeys : (((done ++ [p]) ++ left').map (·.1)).Nodup := by
      refine ((hperm.map _).nodup_iff).2 ?_
      have h1 : (mapDi Ds 0).map (·.1) = Ds.map (·.p) := mapDi_keys Ds 0
      rw [h1, show Ds.map (·.p) = s.D.map (·.1) by rw [← o.D, List.map_map]; rfl]
      exact t.ndD
     have hfresh : findS r.p (mapDi Ds' 0) 0 = none := by
      refine findD_none Ds' 0 0 ?_
      rw [hD, List.findIdx?_eq_none_iff]
      intro x hx
      have hobt := List.mem_map.1 hx
      obtain ⟨y, hy, rfl⟩ := hobt
      rw [List.map_append, List.map_append, List.nodup_append] at hkeys
      have h2 := (List.nodup_append.1 hkeys.1).2.2 y.1 (List.mem_map_of_mem hy) p.1 (by simp)
      rw [hpe] at h2
      have h3 : ¬ (trN Ds y).1 = r.p := h2
      exact decide_eq_false h3
     have htr : trN Ds p = (r.p, r.n) := by
      rw [hpe]
      unfold trN
      simp only [Nat.zero_add, hi]
      rfl
     have hdat := fun {L' w} (hs : Step [] L' w0 w) => o.dat (hlw hs) hi
     subst hpe
     refine CW.any (A := fun w => w.heap[b25]? = some (blk 61 (fsC b10 b11 (.slice none 0 0) ⟨[], [], [], s.qb, s.qf, s.qo, s.by_, s.op⟩)) ∧ Step [] [] w0 w) (C := fun w => w.heap[b25]? = some (blk 61 (fsC b10 b11 (.slice none 0 0) ⟨[], [], [], s.qb, s.qf, s.qo, s.by_, s.op⟩)) ∧ Step [] [] w0 w) 1000000 16 mixedP rfl ?_
     replace hs := hs.drew
     refine AL.val 0 rfl (by kernel_rfl) rfl (fun w hs => run_move) ?_
     refine AL.val 1 rfl (by kernel_rfl) rfl (fun w hs => run_nilCheck rfl) ?_
     refine AL.val 2 rfl (by kernel_rfl) rfl (fun w hs => run_field (o' := 1) underlying61 rfl ty58 rfl rfl rfl) ?_
     refine AL.val 3 rfl (by kernel_rfl) rfl (fun w hs => run_load1 ty58 rfl ((by rw [cell_blk hs.1]; rfl))) ?_
     refine AL.val 4 rfl (by kernel_rfl) rfl (fun w hs => run_move) ?_
     refine AL.val 5 rfl (by kernel_rfl) rfl (fun w hs => run_move) ?_
     refine AL.val 6 rfl (by kernel_rfl) rfl (fun w hs => run_nilCheck rfl) ?_
     refine AL.val 7 rfl (by kernel_rfl) rfl (fun w hs => run_field (o' := 0) underlying74 rfl ty65 rfl rfl rfl) ?_
     refine AL.val 8 rfl (by kernel_rfl) rfl (fun w hs => run_loadN ty65 rfl rfl ((hdat hs.2).take 1)) ?_
     refine AL.val 9 rfl (by kernel_rfl) rfl (fun w hs => run_move) ?_
     refine AL.val 10 rfl (by kernel_rfl) rfl (fun w hs => run_nilCheck rfl) ?_
     refine AL.val 11 rfl (by kernel_rfl) rfl (fun w hs => run_field (o' := 1) underlying74 rfl ty3 rfl rfl rfl) ?_
     refine AL.val 12 rfl (by kernel_rfl) rfl (fun w hs => run_load1 ty3 rfl ((hdat hs.2).cell (j := 1) rfl)) ?_
     refine AL.val 13 rfl (by kernel_rfl) rfl (fun w hs => run_build rfl (bld_dirT _ _ _)) ?_
     refine AL.one 14 (by kernel_rfl) rfl (by first | exact ⟨hs.tail.hd, hs.clear⟩ | exact ⟨hs.tail.tail.hd, hs.clear⟩ | exact ⟨hs.tail.tail.tail.hd, hs.clear⟩) (by first | exact ⟨hs.tail.hd, hs.clear⟩ | exact ⟨hs.tail.tail.hd, hs.clear⟩ | exact ⟨hs.tail.tail.tail.hd, hs.clear⟩) ?_
     refine WL.box (cs := [str r.p, .int .i64 (r.n : Nat)]) rfl rfl rfl hs (fun b50 w hs => ?_)
     refine wZ ?_
     refine ⟨rfl, ?_⟩
     refine AL.one 15 (by kernel_rfl) rfl (by first | exact ⟨hs.tail.hd, hs.clear⟩ | exact ⟨hs.tail.tail.hd, hs.clear⟩ | exact ⟨hs.tail.tail.tail.hd, hs.clear⟩) (by first | exact ⟨hs.tail.hd, hs.clear⟩ | exact ⟨hs.tail.tail.hd, hs.clear⟩ | exact ⟨hs.tail.tail.tail.hd, hs.clear⟩) ?_
     refine WL.mapPutS underlying58 underlying9 rfl rfl rfl ((hs.front [_, _, _, _])) (fun w hs => ?_)
     refine wZ ?_
     refine ⟨rfl, ?_⟩
     refine AL.end (by kernel_rfl) (by first | exact ⟨hs.tail.hd, hs.clear⟩ | exact ⟨hs.tail.tail.hd, hs.clear⟩ | exact ⟨hs.tail.tail.tail.hd, hs.clear⟩) (by first | exact ⟨hs.tail.hd, hs.clear⟩ | exact ⟨hs.tail.tail.hd, hs.clear⟩ | exact ⟨hs.tail.tail.tail.hd, hs.clear⟩) ?_
     have hmp : mapS (putMS r.p (.pointer (some ⟨b50, 0, none⟩)) Ds'.length (mapDi Ds' 0)) (putCS r.p Ds'.length (mapDi Ds' 0)) = mapS (mapDi (Ds' ++ [⟨r.p, b50, r.n⟩]) 0) (Ds' ++ [⟨r.p, b50, r.n⟩] : List DB).length := by
      unfold putMS putCS
      rw [hfresh, mapDi_app, Nat.zero_add, List.length_append]
      rfl
     have hs3 : Step [] ((b11, mapS (mapDi (Ds' ++ [⟨r.p, b50, r.n⟩]) 0) (Ds' ++ [⟨r.p, b50, r.n⟩] : List DB).length) :: (b50, blk 74 [str r.p, .int .i64 (r.n : Nat)]) :: (b30, iterS md Ds.length (done ++ [(r.p, .pointer (some ⟨r.b, 0, none⟩), 0 + i)])) :: (b25, blk 61 (fsC b10 b11 (.slice none 0 0) ⟨[], [], [], s.qb, s.qf, s.qo, s.by_, s.op⟩)) :: (b10, mapS [] 0) :: Ds'.flatMap DB.own) w0 w := by rw [← hmp]; exact hs
     have hfl : (Ds' ++ [⟨r.p, b50, r.n⟩] : List DB).flatMap DB.own = Ds'.flatMap DB.own ++ [(b50, blk 74 [str r.p, .int .i64 (r.n : Nat)])] := by simp [DB.own]
     refine (show _ ∧ _ from ⟨rfl, _, ?_, done ++ [(r.p, .pointer (some ⟨r.b, 0, none⟩), 0 + i)], left', Ds' ++ [⟨r.p, b50, r.n⟩], rfl, hperm, (by rw [List.map_append, hD, List.map_append, List.map_cons, List.map_nil, List.map_cons, List.map_nil, htr]), (by rw [hfl]; exact hs3.perm perm_tw), rfl, rfl, rfl, trivial⟩)
     omega
    ·cases h
  clear hs
  rintro f w ⟨Ds', hDp, hs, hf⟩
  have hobt := hf.chain
  obtain ⟨g, rfl⟩ := hobt
  refine CW.seqM (fun f w => ∃ Fs' : List FB, (Fs'.map fun r => (r.p, r.x)).Perm s.F ∧ (∀ r ∈ Fs', OwnSl 5 1 r.v r.x.length (u8s r.x) r.Lv) ∧ Step [] ((b25, blk 61 (fsC b10 b11 (.slice none 0 0) ⟨[], [], [], s.qb, s.qf, s.qo, s.by_, s.op⟩)) :: (b10, mapS (mapF Fs' 0) Fs'.length) :: (b11, mapS (mapDi Ds' 0) Ds'.length) :: (Ds'.flatMap DB.own ++ Fs'.flatMap FB.own)) w0 w ∧ Holds f [(0, .pointer (some ⟨bf, 0, none⟩)), (3, .pointer (some ⟨b25, 0, none⟩))]) ?_ ?_
  ·refine cQ <| cR <| wm rfl <| wn rfl rfl <| wV rfl (run_field (o' := 0) underlying61 rfl ty57 rfl rfl rfl) <| wV rfl (run_load1 ty57 rfl ((hat (hlw hs)).cell (j := 0) rfl)) ?_
   refine WL.rangeS2 underlying57 rfl (hmf hs) rfl hs (fun b55 w hs => ?_)
   refine wZ <| CW.block ?_
   refine CW.loop (fun z f w => ∃ done left Fs', z = left.length ∧ (done ++ left).Perm (mapF Fs 0) ∧ (Fs'.map fun r : FB => (r.p, r.x)) = done.map (fun e => (e.1, (trF Fs e).2.2)) ∧ (∀ r ∈ Fs', OwnSl 5 1 r.v r.x.length (u8s r.x) r.Lv) ∧ Step [] ((b55, iterS mf Fs.length done) :: (b25, blk 61 (fsC b10 b11 (.slice none 0 0) ⟨[], [], [], s.qb, s.qf, s.qo, s.by_, s.op⟩)) :: (b10, mapS (mapF Fs' 0) Fs'.length) :: (b11, mapS (mapDi Ds' 0) Ds'.length) :: (Ds'.flatMap DB.own ++ Fs'.flatMap FB.own)) w0 w ∧ Holds f [(0, .pointer (some ⟨bf, 0, none⟩)), (3, .pointer (some ⟨b25, 0, none⟩)), (55, .pointer (some ⟨b55, 0, none⟩))]) (m := Fs.length) ?_ ?_
   ·exact ⟨[], mapF Fs 0, [], (mapF_len Fs 0).symm, List.Perm.refl _, rfl, fun r hr => (by cases hr), by rw [show Ds'.flatMap DB.own ++ ([] : List FB).flatMap FB.own = Ds'.flatMap DB.own from List.append_nil _]; exact hs, rfl, rfl, rfl, trivial⟩
   clear hs
   rintro z f w ⟨done, left, Fs', rfl, hperm, hF, hFo, hs, hf⟩
   have hobt := hf.chain
   obtain ⟨g, rfl⟩ := hobt
   by_cases hne : left = []
   ·subst hne
    refine cQ <| cR <| wV rfl (run_nextSEnd rfl hs.hd (hmf hs) (bornF Fs) hperm) <| wx rfl rfl rfl <| wZ <| cQ ?_
    refine cC rfl (fun h => ?_) (fun h => ?_)
    ·cases h
    refine CW.exit ?_
    rw [List.append_nil] at hperm
    refine ⟨rfl, Fs', ?_, hFo, hs.tail, rfl, rfl, trivial⟩
    rw [hF, ← o.F]
    have h1 := congrArg (List.map fun t : Tri => (t.1, t.2.2)) (mapF_tr Fs [])
    rw [List.length_nil, List.nil_append, List.map_map, List.map_map] at h1
    exact (hperm.map _).trans (List.Perm.of_eq h1)
   ·refine cQ <| cR ?_
    refine WL.nextS2 rfl rfl hs (hmf hs) (bornF Fs) hperm hne (fun p left' w hleft hperm hs => ?_)
    refine wx rfl rfl rfl <| wZ <| cQ ?_
    refine cC rfl (fun h => ?_) (fun h => ?_)
    ·repeat (first | refine cQ ?_ | refine CW.block ?_ | refine cK ?_)
     refine cR <| wV rfl (run_entryS rfl hs.hd (hmf hs) (bornF Fs) (hperm.mem_iff.1 (by simp))) <| wx rfl rfl rfl <| wx rfl rfl rfl <| wa rfl <| wa rfl <| wZ ?_
     have hleft := hleft.length_eq
     rw [List.length_cons] at hleft
     have hpm : p ∈ mapF Fs 0 := hperm.mem_iff.1 (by simp)
     have hobt := mapF_mem hpm
     obtain ⟨i, r, hi, hpe⟩ := hobt
     have hkeys : (((done ++ [p]) ++ left').map (·.1)).Nodup := by
      refine ((hperm.map _).nodup_iff).2 ?_
      have h1 : (mapF Fs 0).map (·.1) = Fs.map (·.p) := mapF_keys Fs 0
      rw [h1, show Fs.map (·.p) = s.F.map (·.1) by rw [← o.F, List.map_map]; rfl]
      exact t.ndF
     have hfresh : findS r.p (mapF Fs' 0) 0 = none := by
      refine findF_none Fs' 0 0 ?_
      rw [hF, List.findIdx?_eq_none_iff]
      intro x hx
      have hobt := List.mem_map.1 hx
      obtain ⟨y, hy, rfl⟩ := hobt
      rw [List.map_append, List.map_append, List.nodup_append] at hkeys
      have h2 := (List.nodup_append.1 hkeys.1).2.2 y.1 (List.mem_map_of_mem hy) p.1 (by simp)
      rw [hpe] at h2
      exact decide_eq_false h2
     have htr : ((p.1, (trF Fs p).2.2) : List UInt8 × List UInt8) = (r.p, r.x) := by
      rw [hpe]
      unfold trF
      simp only [Nat.zero_add, hi]
      rfl
     have hxl : r.x.length ≤ 1048576 := sn.ok.x (r.p, r.x) (by rw [← o.F]; exact List.mem_map.2 ⟨r, List.mem_of_getElem? hi, rfl⟩)
     have hfat := fun {L' w} (hs : Step [] L' w0 w) => o.fat (hlw hs) hi
     subst hpe
     refine CW.any (A := fun w => w.heap[b25]? = some (blk 61 (fsC b10 b11 (.slice none 0 0) ⟨[], [], [], s.qb, s.qf, s.qo, s.by_, s.op⟩)) ∧ Step [] [] w0 w) (C := fun w => w.heap[b25]? = some (blk 61 (fsC b10 b11 (.slice none 0 0) ⟨[], [], [], s.qb, s.qf, s.qo, s.by_, s.op⟩)) ∧ Step [] [] w0 w) 1000000 17 mixedP rfl ?_
     replace hs := hs.drew
     refine AL.val 0 rfl (by kernel_rfl) rfl (fun w hs => run_move) ?_
     refine AL.val 1 rfl (by kernel_rfl) rfl (fun w hs => run_nilCheck rfl) ?_
     refine AL.val 2 rfl (by kernel_rfl) rfl (fun w hs => run_field (o' := 0) underlying61 rfl ty57 rfl rfl rfl) ?_
     refine AL.val 3 rfl (by kernel_rfl) rfl (fun w hs => run_load1 ty57 rfl ((by rw [cell_blk hs.1]; rfl))) ?_
     refine AL.val 4 rfl (by kernel_rfl) rfl (fun w hs => run_move) ?_
     refine AL.val 5 rfl (by kernel_rfl) rfl (fun w hs => run_move) ?_
     refine AL.val 6 rfl (by kernel_rfl) rfl (fun w hs => run_nilCheck rfl) ?_
     refine AL.val 7 rfl (by kernel_rfl) rfl (fun w hs => run_field (o' := 0) underlying67 rfl ty65 rfl rfl rfl) ?_
     refine AL.val 8 rfl (by kernel_rfl) rfl (fun w hs => run_loadN ty65 rfl rfl ((hfat hs.2).1.take 1)) ?_
     refine AL.val 9 rfl (by kernel_rfl) rfl (fun w hs => run_move) ?_
     refine AL.val 10 rfl (by kernel_rfl) rfl (fun w hs => run_nilCheck rfl) ?_
     refine AL.val 11 rfl (by kernel_rfl) rfl (fun w hs => run_field (o' := 1) underlying67 rfl ty38 rfl rfl rfl) ?_
     refine AL.val 12 rfl (by kernel_rfl) rfl (fun w hs => run_load1 ty38 rfl ((hfat hs.2).1.cell (j := 1) (v := r.v) rfl)) ?_
     refine AL.one 13 (by kernel_rfl) rfl (by first | exact ⟨hs.tail.hd, hs.clear⟩ | exact ⟨(Step.dropL hs).tail.hd, hs.clear⟩ | exact ⟨(Step.dropL hs.tail).tail.hd, hs.clear⟩ | exact ⟨(Step.dropL hs.tail.tail).tail.hd, hs.clear⟩) (by first | exact ⟨hs.tail.hd, hs.clear⟩ | exact ⟨(Step.dropL hs).tail.hd, hs.clear⟩ | exact ⟨(Step.dropL hs.tail).tail.hd, hs.clear⟩ | exact ⟨(Step.dropL hs.tail.tail).tail.hd, hs.clear⟩) ?_
     refine wE rfl (run_call en20 rfl rfl) (clone_spec _ (hfat hs).2 (by omega)) ?_
     rintro e w ⟨v', Lv, rfl, hv', hq⟩
     refine ⟨_, rfl, ?_⟩
     replace hs := hs.call0 hq
     have hvf := hv'.form
     obtain ⟨av, cv, hve⟩ := hvf
     subst hve
     refine wZ ?_
     refine ⟨rfl, ?_⟩
     refine AL.val 14 rfl (by kernel_rfl) rfl (fun w hs => run_build rfl (bld_fileT _ _ _ _ _)) ?_
     refine AL.one 15 (by kernel_rfl) rfl (by first | exact ⟨hs.tail.hd, hs.clear⟩ | exact ⟨(Step.dropL hs).tail.hd, hs.clear⟩ | exact ⟨(Step.dropL hs.tail).tail.hd, hs.clear⟩ | exact ⟨(Step.dropL hs.tail.tail).tail.hd, hs.clear⟩) (by first | exact ⟨hs.tail.hd, hs.clear⟩ | exact ⟨(Step.dropL hs).tail.hd, hs.clear⟩ | exact ⟨(Step.dropL hs.tail).tail.hd, hs.clear⟩ | exact ⟨(Step.dropL hs.tail.tail).tail.hd, hs.clear⟩) ?_
     refine WL.box (cs := [str r.p, .slice av r.x.length cv]) rfl rfl rfl hs (fun b76 w hs => ?_)
     refine wZ ?_
     refine ⟨rfl, ?_⟩
     refine AL.one 16 (by kernel_rfl) rfl (by first | exact ⟨hs.tail.hd, hs.clear⟩ | exact ⟨(Step.dropL hs).tail.hd, hs.clear⟩ | exact ⟨(Step.dropL hs.tail).tail.hd, hs.clear⟩ | exact ⟨(Step.dropL hs.tail.tail).tail.hd, hs.clear⟩) (by first | exact ⟨hs.tail.hd, hs.clear⟩ | exact ⟨(Step.dropL hs).tail.hd, hs.clear⟩ | exact ⟨(Step.dropL hs.tail).tail.hd, hs.clear⟩ | exact ⟨(Step.dropL hs.tail.tail).tail.hd, hs.clear⟩) ?_
     refine WL.mapPutS underlying57 underlying9 rfl rfl rfl ((hs.perm perm_tg)) (fun w hs => ?_)
     refine wZ ?_
     refine ⟨rfl, ?_⟩
     refine AL.end (by kernel_rfl) (by first | exact ⟨hs.tail.hd, hs.clear⟩ | exact ⟨(Step.dropL hs).tail.hd, hs.clear⟩ | exact ⟨(Step.dropL hs.tail).tail.hd, hs.clear⟩ | exact ⟨(Step.dropL hs.tail.tail).tail.hd, hs.clear⟩) (by first | exact ⟨hs.tail.hd, hs.clear⟩ | exact ⟨(Step.dropL hs).tail.hd, hs.clear⟩ | exact ⟨(Step.dropL hs.tail).tail.hd, hs.clear⟩ | exact ⟨(Step.dropL hs.tail.tail).tail.hd, hs.clear⟩) ?_
     have hmp : mapS (putMS r.p (.pointer (some ⟨b76, 0, none⟩)) Fs'.length (mapF Fs' 0)) (putCS r.p Fs'.length (mapF Fs' 0)) = mapS (mapF (Fs' ++ [⟨r.p, b76, .slice av r.x.length cv, r.x, Lv⟩]) 0) (Fs' ++ [⟨r.p, b76, .slice av r.x.length cv, r.x, Lv⟩] : List FB).length := by
      unfold putMS putCS
      rw [hfresh, mapF_app, Nat.zero_add, List.length_append]
      rfl
     have hs3 : Step [] ((b10, mapS (mapF (Fs' ++ [⟨r.p, b76, .slice av r.x.length cv, r.x, Lv⟩]) 0) (Fs' ++ [⟨r.p, b76, .slice av r.x.length cv, r.x, Lv⟩] : List FB).length) :: (b76, blk 67 [str r.p, .slice av r.x.length cv]) :: (Lv ++ ((b55, iterS mf Fs.length (done ++ [(r.p, .pointer (some ⟨r.b, 0, none⟩), 0 + i)])) :: (b25, blk 61 (fsC b10 b11 (.slice none 0 0) ⟨[], [], [], s.qb, s.qf, s.qo, s.by_, s.op⟩)) :: (b11, mapS (mapDi Ds' 0) Ds'.length) :: (Ds'.flatMap DB.own ++ Fs'.flatMap FB.own)))) w0 w := by rw [← hmp]; exact hs
     have hfl : (Fs' ++ [⟨r.p, b76, .slice av r.x.length cv, r.x, Lv⟩] : List FB).flatMap FB.own = Fs'.flatMap FB.own ++ ((b76, blk 67 [str r.p, .slice av r.x.length cv]) :: Lv) := by simp [FB.own]
     refine (show _ ∧ _ from ⟨rfl, _, ?_, done ++ [(r.p, .pointer (some ⟨r.b, 0, none⟩), 0 + i)], left', Fs' ++ [⟨r.p, b76, .slice av r.x.length cv, r.x, Lv⟩], rfl, hperm, (by rw [List.map_append, hF, List.map_append, List.map_cons, List.map_nil, List.map_cons, List.map_nil, htr]), (fun q hq => (List.mem_append.1 hq).elim (hFo q) fun h => by rw [List.mem_singleton.1 h]; exact hv'), (by rw [hfl]; exact hs3.perm perm_tf), rfl, rfl, rfl, trivial⟩)
     omega
    ·cases h
  clear hs
  rintro f w ⟨Fs', hFp, hFo, hs, hf⟩
  have hobt := hf.chain
  obtain ⟨g, rfl⟩ := hobt
  have hhl : Hs.length ≤ 1000 := by have := sn.ok.h; rw [← o.H, List.length_map] at this; exact this
  refine CW.seqM (fun f w => ∃ vh' Lh' Hs', Hs'.length = Hs.length ∧ OwnSl 75 1 vh' Hs'.length (Hs'.map HB.val) Lh' ∧ HRel Fs Fs' Hs Hs' ∧ Step [] ((b25, blk 61 (fsC b10 b11 (vh') ⟨[], [], [], s.qb, s.qf, s.qo, s.by_, s.op⟩)) :: (Lh' ++ ((b10, mapS (mapF Fs' 0) Fs'.length) :: (b11, mapS (mapDi Ds' 0) Ds'.length) :: (Ds'.flatMap DB.own ++ (Fs'.flatMap FB.own ++ Hs'.flatMap HB.own))))) w0 w ∧ Holds f [(3, .pointer (some ⟨b25, 0, none⟩))]) ?_ ?_
  ·refine cQ <| cR <| wm rfl <| wn rfl rfl <| wV rfl (run_field (o' := 2) underlying61 rfl ty59 rfl rfl rfl) <| wV rfl (run_load1 ty59 rfl ((hat (hlw hs)).cell (j := 2) rfl)) <| wV rfl (run_lenSl underlying59 rfl) <| wm rfl <| wZ <| CW.block ?_
   refine CW.loop (fun z f w => ∃ vh' Lh' Hs', Hs'.length ≤ Hs.length ∧ z = Hs.length - Hs'.length ∧ OwnSl 75 1 vh' Hs'.length (Hs'.map HB.val) Lh' ∧ HRel Fs Fs' Hs Hs' ∧ Step [] ((b25, blk 61 (fsC b10 b11 (vh') ⟨[], [], [], s.qb, s.qf, s.qo, s.by_, s.op⟩)) :: (Lh' ++ ((b10, mapS (mapF Fs' 0) Fs'.length) :: (b11, mapS (mapDi Ds' 0) Ds'.length) :: (Ds'.flatMap DB.own ++ (Fs'.flatMap FB.own ++ Hs'.flatMap HB.own))))) w0 w ∧ Holds f [(3, .pointer (some ⟨b25, 0, none⟩)), (80, .slice ah Hs.length ch), (81, .int .i64 Hs.length), (82, .int .i64 Hs'.length)]) (m := Hs.length) ?_ ?_
   ·exact ⟨.slice none 0 0, [], [], by simp, rfl, OwnSl.nil _ _, fun k a h => (by simp at h), by rw [show Fs'.flatMap FB.own ++ ([] : List (Option HB)).flatMap HB.own = Fs'.flatMap FB.own from List.append_nil _]; exact hs, rfl, rfl, rfl, rfl, trivial⟩
   clear hs
   rintro z f w ⟨vh', Lh', Hs', hl, rfl, hv, hrel, hs, hf⟩
   have hobt := hv.form
   obtain ⟨av, cv, rfl⟩ := hobt
   by_cases hlt : Hs'.length < Hs.length
   ·have hobt := (o.hsl hw).based (by omega)
    obtain ⟨bo, oo, co, hqo, hsat⟩ := hobt
    injection hqo with u1 u2 u3
    have hc4 := congrArg (fun z => Value.slice z Hs.length ch) u1
    rw [show Value.slice ah Hs.length ch = Value.slice (some ⟨bo, oo, none⟩) Hs.length ch from hc4] at hf
    have hobt := hf.chain
    obtain ⟨g, rfl⟩ := hobt
    have hobt : ∃ x, Hs[Hs'.length]? = some x := ⟨_, List.getElem?_eq_getElem hlt⟩
    obtain ⟨x, hx⟩ := hobt
    have hcx := fun {L' w} (hs : Step [] L' w0 w) => (hsat.step hs (by simp)).cell (j := Hs'.length * 1) (v := HB.val x) (by rw [Nat.mul_one, List.getElem?_map, hx]; rfl)
    cases x with
    | none =>
     refine cQ <| cR <| wV rfl (run_bT (run_lss rfl rfl) (by omega)) <| wZ <| cQ ?_
     refine cC rfl (fun h => ?_) (fun h => ?_)
     ·repeat (first | refine cQ ?_ | refine CW.block ?_ | refine cK ?_)
      refine cR <| wV rfl (run_ixSlN underlying59 ty75 rfl rfl (by omega)) <| wV rfl (run_load1 ty75 rfl (hcx hs)) <| wa rfl <| wZ <| cQ <| cR <| wm rfl <| wV rfl (run_nilNil underlying75 rfl rfl) <| wZ ?_
      refine cC rfl (fun h2 => ?_) (fun h2 => ?_)
      ·skip
       refine cR <| wm rfl <| wm rfl <| wn rfl rfl <| wV rfl (run_field (o' := 2) underlying61 rfl ty59 rfl rfl rfl) <| wV rfl (run_load1 ty59 rfl (hs.c0 (v := .slice av Hs'.length cv) rfl)) ?_
       refine WL.buildSlice (cs := [.pointer none]) underlying59 ty75 rfl (by decide) rfl (filled_s _ _ rfl) rfl hs (fun b93 w hs => ?_)
       have hsl1 : Sl w 1 (.slice (some ⟨b93, 0, none⟩) 1 1) 1 [.pointer none] := .own1 hs rfl
       refine WL.append underlying59 underlying59 ty75 rfl (by decide) rfl rfl (hv) ((hs.perm perm_ti)) (hsl1) (Cells1.of_all rfl) (by first | omega | (simp only [List.length_append, List.length_cons, List.length_nil]; omega)) rfl (fun v94 Lv94 w hv94 hs => ?_)
       replace hs := hs.perm perm_tj
       refine wn rfl rfl <| wV rfl (run_field (o' := 2) underlying61 rfl ty59 rfl rfl rfl) ?_
       refine WL.store1 ty59 rfl rfl ((by obtain ⟨a, c, he⟩ := hv94.form; rw [he]; rfl)) hs (by first | (simp; done) | omega | (simp only [List.length_append, List.length_replicate, List.length_cons, List.length_nil, List.length_set]; omega) | (simp [Ent.cells, u8s]; done) | exact Nat.le_of_ble_eq_true rfl) (fun w hs => ?_)
       refine wZ ?_
       replace hs := hs.swap.tail
       have hle : (Hs' ++ [none] : List (Option HB)).length = Hs'.length + 1 := by simp
       have hfl : (Hs' ++ [none] : List (Option HB)).flatMap HB.own = Hs'.flatMap HB.own := by simp [HB.own]
       refine cR <| wV rfl (run_add (c := ((Hs'.length + 1 : Nat) : Int)) rfl rfl (by omega) (by omega)) <| wm rfl <| wZ ?_
       refine (show _ ∧ _ from ⟨rfl, _, ?_, v94, Lv94, Hs' ++ [none], by omega, rfl, (by rw [hle, List.map_append]; exact hv94), hrel.add hx (.inl ⟨rfl, rfl⟩), (by rw [hfl]; exact hs), rfl, hc4.symm, rfl, (congrArg (fun z : Nat => Value.int .i64 (z : Int)) hle).symm, trivial⟩)
       omega
      ·cases h2
     ·cases h
    | some hb =>
     have hobt := o.file hx
     obtain ⟨r, hr, hfb⟩ := hobt
     obtain ⟨i', r', hi', hp', hlk⟩ := look_tw (Fs := Fs') (p := r.p) (by
      have h1 : (r.p, r.x) ∈ s.F := by rw [← o.F]; exact List.mem_map.2 ⟨r, List.mem_of_getElem? hr, rfl⟩
      have hobt := List.mem_map.1 (hFp.mem_iff.2 h1)
      obtain ⟨r2, h2, h3⟩ := hobt
      exact ⟨r2, h2, congrArg Prod.fst h3⟩)
     have hhat := fun {L' w} (hs : Step [] L' w0 w) => o.hat (hlw hs) hx
     have hfat := fun {L' w} (hs : Step [] L' w0 w) => (o.fat (hlw hs) hr).1
     rw [hfb] at hhat
     refine cQ <| cR <| wV rfl (run_bT (run_lss rfl rfl) (by omega)) <| wZ <| cQ ?_
     refine cC rfl (fun h => ?_) (fun h => ?_)
     ·repeat (first | refine cQ ?_ | refine CW.block ?_ | refine cK ?_)
      refine cR <| wV rfl (run_ixSlN underlying59 ty75 rfl rfl (by omega)) <| wV rfl (run_load1 ty75 rfl (hcx hs)) <| wa rfl <| wZ <| cQ <| cR <| wm rfl <| wV rfl (run_ptrNil underlying75 rfl rfl) <| wZ ?_
      refine cC rfl (fun h2 => ?_) (fun h2 => ?_)
      ·cases h2
      ·skip
       refine CW.any (A := fun w => Step [] [] w0 w) (C := fun w => (w.heap[b25]? = some (blk 61 (fsC b10 b11 (.slice av Hs'.length cv) ⟨[], [], [], s.qb, s.qf, s.qo, s.by_, s.op⟩)) ∧ w.heap[b10]? = some (mapS (mapF Fs' 0) Fs'.length)) ∧ Step [] [] w0 w) 32 33 mixedP rfl ?_
       replace hs := hs.drew
       refine AL.val 0 rfl (by kernel_rfl) rfl (fun w hs => run_move) ?_
       refine AL.val 1 rfl (by kernel_rfl) rfl (fun w hs => run_move) ?_
       refine AL.val 2 rfl (by kernel_rfl) rfl (fun w hs => run_nilCheck rfl) ?_
       refine AL.val 3 rfl (by kernel_rfl) rfl (fun w hs => run_field (o' := 2) underlying61 rfl ty59 rfl rfl rfl) ?_
       refine AL.val 4 rfl (by kernel_rfl) rfl (fun w hs => run_load1 ty59 rfl ((by rw [cell_blk hs.1.1]; rfl))) ?_
       refine AL.val 5 rfl (by kernel_rfl) rfl (fun w hs => run_move) ?_
       refine AL.val 6 rfl (by kernel_rfl) rfl (fun w hs => run_nilCheck rfl) ?_
       refine AL.val 7 rfl (by kernel_rfl) rfl (fun w hs => run_field (o' := 0) underlying61 rfl ty57 rfl rfl rfl) ?_
       refine AL.val 8 rfl (by kernel_rfl) rfl (fun w hs => run_load1 ty57 rfl ((by rw [cell_blk hs.1.1]; rfl))) ?_
       refine AL.val 9 rfl (by kernel_rfl) rfl (fun w hs => run_move) ?_
       refine AL.val 10 rfl (by kernel_rfl) rfl (fun w hs => run_nilCheck rfl) ?_
       refine AL.val 11 rfl (by kernel_rfl) rfl (fun w hs => run_field (o' := 0) underlying77 rfl ty62 rfl rfl rfl) ?_
       refine AL.val 12 rfl (by kernel_rfl) rfl (fun w hs => run_load1 ty62 rfl ((hhat hs.2).cell (j := 0) rfl)) ?_
       refine AL.val 13 rfl (by kernel_rfl) rfl (fun w hs => run_nilCheck rfl) ?_
       refine AL.val 14 rfl (by kernel_rfl) rfl (fun w hs => run_field (o' := 0) underlying67 rfl ty65 rfl rfl rfl) ?_
       refine AL.val 15 rfl (by kernel_rfl) rfl (fun w hs => run_field (o' := 0) underlying65 rfl ty9 rfl rfl rfl) ?_
       refine AL.val 16 rfl (by kernel_rfl) rfl (fun w hs => run_load1 ty9 rfl ((hfat hs.2).cell (j := 0) rfl)) ?_
       refine AL.val 17 rfl (by kernel_rfl) rfl (fun w hs => run_lookupSE underlying57 underlying9 (zFile _) (hlk) rfl rfl (hs.1.2)) ?_
       refine AL.val 18 rfl (by kernel_rfl) rfl (fun w hs => run_move) ?_
       refine AL.val 19 rfl (by kernel_rfl) rfl (fun w hs => run_nilCheck rfl) ?_
       refine AL.val 20 rfl (by kernel_rfl) rfl (fun w hs => run_field (o' := 1) underlying77 rfl ty3 rfl rfl rfl) ?_
       refine AL.val 21 rfl (by kernel_rfl) rfl (fun w hs => run_load1 ty3 rfl ((hhat hs.2).cell (j := 1) rfl)) ?_
       refine AL.val 22 rfl (by kernel_rfl) rfl (fun w hs => run_move) ?_
       refine AL.val 23 rfl (by kernel_rfl) rfl (fun w hs => run_nilCheck rfl) ?_
       refine AL.val 24 rfl (by kernel_rfl) rfl (fun w hs => run_field (o' := 2) underlying77 rfl ty3 rfl rfl rfl) ?_
       refine AL.val 25 rfl (by kernel_rfl) rfl (fun w hs => run_load1 ty3 rfl ((hhat hs.2).cell (j := 2) rfl)) ?_
       refine AL.val 26 rfl (by kernel_rfl) rfl (fun w hs => run_build rfl (bld_hdlT _ _ _ _)) ?_
       refine AL.one 27 (by kernel_rfl) rfl (hs.clear) (⟨⟨hs.get (by simp), hs.get (by simp)⟩, hs.clear⟩) ?_
       refine WL.box (cs := [.pointer (some ⟨r'.b, 0, none⟩), .int .i64 (hb.pl : Nat), .int .i64 (hb.mo : Nat)]) rfl rfl rfl hs (fun b124 w hs => ?_)
       refine wZ ?_
       refine ⟨rfl, ?_⟩
       refine AL.one 28 (by kernel_rfl) rfl (hs.clear) (⟨⟨hs.get (by simp), hs.get (by simp)⟩, hs.clear⟩) ?_
       refine WL.buildSlice (cs := [.pointer (some ⟨b124, 0, none⟩)]) underlying59 ty75 rfl (by decide) rfl (filled_s _ _ rfl) rfl hs (fun b125 w hs => ?_)
       have hsl1 : Sl w 1 (.slice (some ⟨b125, 0, none⟩) 1 1) 1 [.pointer (some ⟨b124, 0, none⟩)] := .own1 hs rfl
       refine wZ ?_
       refine ⟨rfl, ?_⟩
       refine AL.one 29 (by kernel_rfl) rfl (hs.clear) (⟨⟨hs.get (by simp), hs.get (by simp)⟩, hs.clear⟩) ?_
       refine WL.append underlying59 underlying59 ty75 rfl (by decide) rfl rfl (hv) ((hs.perm perm_tk)) (hsl1) (Cells1.of_all rfl) (by first | omega | (simp only [List.length_append, List.length_cons, List.length_nil]; omega)) rfl (fun v126 Lv126 w hv126 hs => ?_)
       replace hs := hs.perm perm_tl
       refine wZ ?_
       refine ⟨rfl, ?_⟩
       refine AL.valA 30 rfl (by kernel_rfl) rfl (fun w hs => run_nilCheck rfl) ?_
       refine AL.val 31 rfl (by kernel_rfl) rfl (fun w hs => run_field (o' := 2) underlying61 rfl ty59 rfl rfl rfl) ?_
       refine AL.one 32 (by kernel_rfl) rfl (hs.clear) (⟨⟨hs.get (by simp), hs.get (by simp)⟩, hs.clear⟩) ?_
       refine WL.store1 ty59 rfl rfl ((by obtain ⟨a, c, he⟩ := hv126.form; rw [he]; rfl)) hs (by first | (simp; done) | omega | (simp only [List.length_append, List.length_replicate, List.length_cons, List.length_nil, List.length_set]; omega) | (simp [Ent.cells, u8s]; done) | exact Nat.le_of_ble_eq_true rfl) (fun w hs => ?_)
       refine wZ ?_
       refine ⟨rfl, ?_⟩
       refine AL.relax (by kernel_rfl) ?_
       refine AL.end (by kernel_rfl) (hs.clear) (trivial) ?_
       replace hs := hs.swap.tail
       have hle : (Hs' ++ [some ⟨b124, r'.b, i', hb.pl, hb.mo⟩] : List (Option HB)).length = Hs'.length + 1 := by simp
       have hfl : (Hs' ++ [some ⟨b124, r'.b, i', hb.pl, hb.mo⟩] : List (Option HB)).flatMap HB.own = Hs'.flatMap HB.own ++ [(b124, blk 77 [.pointer (some ⟨r'.b, 0, none⟩), .int .i64 (hb.pl : Nat), .int .i64 (hb.mo : Nat)])] := by simp [HB.own]
       replace hs := hs.perm perm_tm
       refine cR <| wV rfl (run_add (c := ((Hs'.length + 1 : Nat) : Int)) rfl rfl (by omega) (by omega)) <| wm rfl <| wZ ?_
       refine (show _ ∧ _ from ⟨rfl, _, ?_, v126, Lv126, Hs' ++ [some ⟨b124, r'.b, i', hb.pl, hb.mo⟩], by omega, rfl, (by rw [hle, List.map_append]; exact hv126), hrel.add hx (.inr ⟨_, _, r', r, rfl, rfl, hi', rfl, hr, hp', rfl, rfl⟩), (by rw [hfl]; exact hs), rfl, hc4.symm, rfl, Eq.trans (b := Value.int .i64 ((Hs'.length + 1 : Nat) : Int)) (by kernel_rfl) (congrArg (fun z : Nat => Value.int .i64 (z : Int)) hle).symm, trivial⟩)
       omega
     ·cases h
   ·have hobt := hf.chain
    obtain ⟨g, rfl⟩ := hobt
    refine cQ <| cR <| wV rfl (run_bF (run_lss rfl rfl) (by omega)) <| wZ <| cQ ?_
    refine cC rfl (fun h => ?_) (fun h => ?_)
    ·cases h
    refine CW.exit ?_
    exact ⟨rfl, _, Lh', Hs', by omega, hv, hrel, hs, rfl, trivial⟩
  clear hs
  rintro f w ⟨vh', Lh', Hs', hl, hv, hrel, hs, hf⟩
  have hobt := hf.chain
  obtain ⟨g, rfl⟩ := hobt
  refine cQ <| cR <| wm rfl <| wa rfl <| wZ ?_
  refine CW.ret ?_
  refine fin_ret1 rfl ?_
  have he : Eqv s ⟨Fs'.map (fun r => (r.p, r.x)), Ds'.map (fun r => (r.p, r.n)), Hs'.map (Option.map fun h => (h.i, h.pl, h.mo)), s.qb, s.qf, s.qo, s.by_, s.op⟩ := by
   refine ⟨hFp.symm, hDp.symm, ?_, rfl, rfl, rfl, rfl, rfl⟩
   unfold Go.Gx.hv
   rw [← o.H]
   apply List.ext_getElem?
   intro k
   simp only [List.getElem?_map]
   cases hk : Hs'[k]? with
   | none =>
    have h1 : Hs[k]? = none := by
     rw [List.getElem?_eq_none_iff] at hk ⊢
     omega
    rw [h1]
    rfl
   | some a =>
    have hobt := hrel k a hk
    obtain ⟨b, hb, hc⟩ := hobt
    rw [hb]
    rcases hc with ⟨rfl, rfl⟩ | ⟨h', h, r', r, rfl, rfl, g1, g2, g3, g4, g5, g6⟩
    ·rfl
    ·have p1 : s.pth h.i = r.p := by
      unfold VS.pth
      rw [← o.F, List.getElem?_map, g3]
      rfl
     have p2 : ((((Fs'.map fun r : FB => (r.p, r.x))[h'.i]?).map (·.1)).getD []) = r'.p := by
      rw [List.getElem?_map, g1]
      rfl
     show some (some (s.pth h.i, h.pl, h.mo)) = some (some (((((Fs'.map fun r : FB => (r.p, r.x))[h'.i]?).map (·.1)).getD []), h'.pl, h'.mo))
     rw [p1, p2, g4, g5, g6]
  have hfi : ∀ i pl mo, some (i, pl, mo) ∈ (Hs'.map (Option.map fun h => (h.i, h.pl, h.mo))) → i < (Fs'.map fun r => (r.p, r.x)).length := by
   intro i pl mo hm
   have hobt := List.mem_map.1 hm
   obtain ⟨a, ha, hae⟩ := hobt
   have hobt := List.mem_iff_getElem?.1 ha
   obtain ⟨k, hk⟩ := hobt
   have hobt := hrel k a hk
   obtain ⟨b, hb, hc⟩ := hobt
   rcases hc with ⟨rfl, rfl⟩ | ⟨h', h, r', r, rfl, rfl, g1, g2, g3, g4, g5, g6⟩
   ·cases hae
   ·simp only [Option.map_some, Option.some.injEq, Prod.mk.injEq] at hae
    rw [List.length_map, ← hae.1]
    exact (List.getElem?_eq_some_iff.1 g1).1
  refine ⟨b25, _, _, rfl, ⟨b10, b11, vh', Lh', Fs', Ds', Hs', ⟨rfl, hv, hFo, ?_, rfl, rfl, rfl⟩⟩, he, he.sane sn t hfi, he.tree t, ?_⟩
  ·intro h hm
   have hobt := List.mem_iff_getElem?.1 hm
   obtain ⟨k, hk⟩ := hobt
   have hobt := hrel k _ hk
   obtain ⟨b, hb, hc⟩ := hobt
   rcases hc with ⟨h1, _⟩ | ⟨h', h2, r', r, e1, _, g1, g2, _⟩
   ·cases h1
   ·cases e1
    exact ⟨r', g1, g2⟩
  ·exact hs.perm perm_th
end
end Go.Gx
/-! Vw8 -/
namespace Go.Gx
open Go.Proofs Go.Proofs.Tryz Go.RowKit
set_option maxRecDepth 100000
section
variable {P : Program} {f : Slots} {w : World} {d : Option Tmp} {ty : TypeId} {pos : String} {af : Array Edge} {x y : Operand} {T T' : TypeId}
end
section
variable {f : Slots} {w : World} {d : Option Tmp} {ty : TypeId} {pos : String} {af : Array Edge} {x y : Operand} {T' : TypeId} {a b c a' b' c' : Int}
end
section
variable {bf bf' : Nat} {s s' : VS} {L L' R : List (Nat × Obj)} {w0 w : World}
theorem twin_at (hs : Step [] R w0 w) (hR : VRep bf s L) (hL : ∀ p ∈ L, p ∈ R) (sn : s.Sane) (t : s.Tree) (hg : Gl w0) : Calls Tryz.prog 11 #[.pointer (some ⟨bf, 0, none⟩)] w fun e w' => ∃ bt s' L', e = .returned (.pointer (some ⟨bt, 0, none⟩)) ∧ VRep bt s' L' ∧ Eqv s s' ∧ s'.Sane ∧ s'.Tree ∧ Step [] (L' ++ R) w0 w' := by
 obtain ⟨mf, md, vh, Lh, Fs, Ds, Hs, o⟩ := hR
 exact (twin_spec o sn t (hg.step hs) fun p hp => hs.has p (hL p hp)).mono fun e w' ⟨bt, s', L', h1, h2, h3, h4, h5, h6⟩ => ⟨bt, s', L', h1, h2, h3, h4, h5, hs.call0 h6⟩
end
end Go.Gx
