/- Files out of a tree: New, the walk. Files in memory: how they are kept, whatever is done. No program in sight. Files in memory: always a tree. No program in sight. Files in memory: Open keeps all. No program in sight. -/
import Derived.Test.YtepaojbhjgefiaaGreatDoorC7
import Derived.Test.YtepaojbhjgefiaaGreatDoorC6
import Derived.Test.YtepaojbhjgefiaaGreatDoorC1
set_option linter.unusedVariables false
set_option linter.unusedSimpArgs false
/-! Vt4 -/
namespace Go.Gx
open Go.Proofs Go.Proofs.Tryz
set_option maxRecDepth 100000
def newS (a b c : Int) (l : List It) : VS := l.foldl VS.addIt (newV a b c)
def newE (a b : Int) (l : List It) : Int := if chkE l ≠ 0 then chkE l else if min a 67108864 < (sumL l : Int) then 96 else if min b 65535 < (l.length : Int) then 97 else 0
theorem newV_inv (a b c : Int) : NInv (newV a b c) none 0 := by
 refine ⟨fun e he => ?_, fun e he => (by cases he), rfl, fun e he => ?_, rfl, fun e he => (by cases he), rfl, rfl, rfl⟩
 ·rw [List.mem_singleton.1 he]; exact .inl rfl
 ·rw [List.mem_singleton.1 he]; exact ⟨Nat.zero_le _, Nat.zero_le _⟩
theorem addIt_q (s : VS) (x : It) : (s.addIt x).qb = s.qb ∧ (s.addIt x).qf = s.qf ∧ (s.addIt x).qo = s.qo := by
 unfold VS.addIt
 split
 ·have h := addDir_F s x.p
  exact ⟨h.2.2.2.2.1, h.2.2.2.2.2.1, h.2.2.2.2.2.2⟩
 ·unfold VS.addFile
  split <;> exact ⟨rfl, rfl, rfl⟩
theorem foldIt_q : ∀ (l : List It) (s : VS), (l.foldl VS.addIt s).qb = s.qb ∧ (l.foldl VS.addIt s).qf = s.qf ∧ (l.foldl VS.addIt s).qo = s.qo
 | [], s => ⟨rfl, rfl, rfl⟩
 | x :: l, s => by
  have hobt := addIt_q s x
  obtain ⟨h1, h2, h3⟩ := hobt
  have hobt := foldIt_q l (s.addIt x)
  obtain ⟨g1, g2, g3⟩ := hobt
  rw [List.foldl_cons]
  exact ⟨g1.trans h1, g2.trans h2, g3.trans h3⟩
/-- All items checked: all can be laid. -/
theorem chk_fold : ∀ (l : List It) (s : VS) (prev : Option (List UInt8)) (k : Nat) (D' : DL), chkGo s.D prev l = some D' → NInv s prev k → (∃ q, NInv (l.foldl VS.addIt s) q (k + l.length)) ∧ (l.foldl VS.addIt s).by_ = s.by_ + sumL l
 | [], s, prev, k, D', _, v => ⟨⟨prev, v⟩, rfl⟩
 | x :: l, s, prev, k, D', h, v => by
  rw [chkGo] at h
  cases hc : chkStep s.D prev x with
  | none => rw [hc] at h; cases h
  | some D1 =>
   rw [hc] at h
   have hobt := v.step hc
   obtain ⟨_, h1, h2, h3, _⟩ := hobt
   have h : chkGo D1 (some x.p) l = some D' := h
   rw [← h1] at h
   have hobt := chk_fold l (s.addIt x) (some x.p) (k + 1) D' h h2
   obtain ⟨⟨q, g1⟩, g2⟩ := hobt
   refine ⟨⟨q, ?_⟩, ?_⟩
   ·rw [List.foldl_cons, List.length_cons, show k + (l.length + 1) = k + 1 + l.length by omega]
    exact g1
   ·rw [List.foldl_cons, g2, h3]
    simp [sumL]
    omega
theorem chkE_go {l : List It} (h : chkE l = 0) : l.length < 65536 ∧ (∃ D, chkGo [([], 0)] none l = some D) ∧ sumL l ≤ 67108864 := by
 unfold chkE at h
 split at h
 ·cases h
 ·refine ⟨by omega, ?_⟩
  split at h
  ·cases h
  ·rename_i D hD
   split at h
   ·cases h
   ·exact ⟨⟨D, hD⟩, by omega⟩
/-- Fresh files are kept as they should be. -/
theorem new_sane {a b c : Int} {l : List It} (h : newE a b l = 0) (ha : i64s a) (hb : i64s b) (hc : i64s c) : (newS a b c l).Sane := by
 have hE : chkE l = 0 := by
  unfold newE at h
  split at h
  ·rename_i h1; exact absurd h h1
  ·rename_i h1; exact Classical.byContradiction h1
 have hobt := chkE_go hE
 obtain ⟨h1, ⟨D, hD⟩, h3⟩ := hobt
 have hobt := chk_fold l (newV a b c) none 0 D hD (newV_inv a b c)
 obtain ⟨⟨q, v⟩, hby⟩ := hobt
 have hobt := foldIt_q l (newV a b c)
 obtain ⟨q1, q2, q3⟩ := hobt
 have hlen := v.len
 unfold i64s at ha hb hc
 have e1 : (newS a b c l).qb = min a 67108864 := q1
 have e2 : (newS a b c l).qf = min b 65535 := q2
 have e3 : (newS a b c l).qo = min c 64 := q3
 have e4 : (newS a b c l).by_ = 0 + sumL l := hby
 have v : NInv (newS a b c l) q (0 + l.length) := v
 have hlen : (newS a b c l).D.length + (newS a b c l).F.length = 0 + l.length + 1 := hlen
 refine ⟨⟨by rw [v.H.1]; simp, by omega, by omega, v.x, fun i pl mo hm => (by rw [v.H.1] at hm; cases hm), by omega, by omega, by omega, by omega, by rw [v.H.2]; omega⟩, v.root, fun e he => (v.cnt e he).1, by omega, v.sum, by rw [v.H.1]; simp, by rw [v.H.1, v.H.2]; rfl, fun i pl mo hm => (by rw [v.H.1] at hm; cases hm)⟩
section
variable {bf : Nat} {s : VS} {L : List (Nat × Obj)} {bs : List Nat} {w0 : World}
theorem addIt_spec {prev : Option (List UInt8)} {k : Nat} {D' : DL} {x : It} (hR : VRepF bf s L bs) (v : NInv s prev k) (hk : k ≤ 65536) (hc : chkStep s.D prev x = some D') (hby : s.by_ ≤ 1000000000000) (hg : Gl w0) (h0 : 0 ∉ L.map (·.1)) (hw : Step (L.map (·.1)) L w0 w0) (hp : x.p.length ≤ 9223372036854775807) (hx : ∀ {L' w}, Step (L.map (·.1)) L' w0 w → Sl w 1 x.v x.x.length (u8s x.x)) :
  Calls Tryz.prog 44 #[.pointer (some ⟨bf, 0, none⟩), .agg (itC x.p x.d x.v).toArray] w0 fun e w' => ∃ L' bs', e = .returned (.tuple #[]) ∧ VRepF bf (s.addIt x) L' bs' ∧ Step (L.map (·.1)) L' w0 w' := by
 have hobt := v.step hc
 obtain ⟨⟨j, hj, hnd, hnf⟩, _, _, _, hxl, _⟩ := hobt
 have hn : ∀ e ∈ s.D, e.2 ≤ 1000000 := fun e he => by have := (v.cnt e he).2; omega
 obtain ⟨p, d, xv, xx⟩ := x
 have hobt := (hx hw).form
 obtain ⟨ax, cx, hvx⟩ := hobt
 have hvx : xv = .slice ax xx.length cx := hvx
 subst hvx
 cases d with
 | true =>
  refine (addDir_spec hR hn hg h0 hw hp hj hnd).mono fun e w' ⟨L', h1, h2, h3⟩ => ?_
  exact ⟨L', bs, h1, h2, h3⟩
 | false =>
  have hxl : xx.length ≤ 1048576 := hxl
  refine (addFile_spec hR hn hby hg h0 hw hp (by omega) hx hj hnf).mono fun e w' ⟨L', b, h1, h2, h3⟩ => ?_
  exact ⟨L', bs ++ [b], h1, h2, h3⟩
end
theorem newV_repF {mf md bd bf : Nat} {a b c : Int} : VRepF bf (newV a b c) [(bf, blk 61 (fsC mf md (.slice none 0 0) (newV a b c))), (mf, mapS [] 0), (md, mapS [([], .pointer (some ⟨bd, 0, none⟩), 0)] 1), (bd, blk 74 [str [], .int .i64 ((0 : Nat) : Int)])] [] :=
 ⟨mf, md, .slice none 0 0, [], [], [⟨[], bd, 0⟩], [], ⟨rfl, OwnSl.nil _ _, fun r h => (by cases h), fun h hm => (by cases hm), rfl, rfl, rfl⟩, rfl⟩
/-- What New tells. -/
def NewP (a b c : Int) (l : List It) (w0 : World) : Ending → World → Prop := fun e w' => ∃ L', Step [] L' w0 w' ∧ (newE a b l ≠ 0 ∧ e = .returned (.tuple #[.pointer none, .int .i64 (newE a b l)]) ∨ newE a b l = 0 ∧ ∃ bf, e = .returned (.tuple #[.pointer (some ⟨bf, 0, none⟩), .int .i64 0]) ∧ VRep bf (newS a b c l) L')
set_option maxHeartbeats 4000000 in
theorem new_spec {a b c : Int} {v : Value} {l : List It} (w0 : World) (hg : Gl w0) (ha : i64s a) (hb : i64s b) (hc : i64s c) (hl : Its w0 v l) : Calls Tryz.prog 13 #[v, .agg (quoC a b c).toArray] w0 (NewP a b c l w0) := by
 have hs : Step [] [] w0 w0 := Step.refl w0
 have hll := hl.len
 have hobt := hl.sl.form
 obtain ⟨av, cv, rfl⟩ := hobt
 have hck := fun {L w} (hs : Step [] L w0 w) => check_spec w (hg.step hs) (l := l) (v := .slice av l.length cv) ⟨hl.sl.step0 hs, fun x hx => ⟨(hl.ok x hx).hb.step0 hs, (hl.ok x hx).lp, (hl.ok x hx).lb⟩, hl.len⟩
 by_cases hE : chkE l ≠ 0
 ·have he : newE a b l = chkE l := if_pos hE
  refine calls (n := 63) Tryz.func13 rfl rfl rfl ?_
  refine cQ <| cR ?_
  refine WL.box (cs := (quoC a b c)) rfl rfl rfl hs (fun b3 w hs => ?_)
  refine wa rfl <| wa rfl <| wZ <| cQ <| cQ <| cR <| wm rfl ?_
  refine wE rfl (run_call en43 rfl rfl) (hck hs) ?_
  rintro e w ⟨rfl, hq⟩
  refine ⟨_, rfl, ?_⟩
  replace hs := hs.callE hq
  refine wa rfl <| wZ <| cQ <| cR <| wm rfl <| wV rfl (run_bT (run_neq rfl rfl) (by exact hE)) <| wZ ?_
  refine cC rfl (fun h => ?_) (fun h => ?_)
  ·refine cQ <| cR <| wm rfl <| wa rfl <| wa rfl <| wZ ?_
   refine CW.ret ?_
   refine fin_ret2 rfl ?_
   exact ⟨_, hs, .inl ⟨by rw [he]; exact hE, congrArg (fun z => Ending.returned (.tuple #[.pointer none, .int .i64 z])) he.symm⟩⟩
  ·cases h
 have hE : chkE l = 0 := Classical.byContradiction hE
 have hobt := chkE_go hE
 obtain ⟨hl1, ⟨D0, hD0⟩, hsum⟩ := hobt
 have hne : newE a b l = if min a 67108864 < (sumL l : Int) then 96 else if min b 65535 < (l.length : Int) then 97 else 0 := if_neg (fun h => h hE)
 unfold i64s at ha hb hc
 refine calls (n := 63) Tryz.func13 rfl rfl rfl ?_
 refine cQ <| cR ?_
 refine WL.box (cs := (quoC a b c)) rfl rfl rfl hs (fun b3 w hs => ?_)
 refine wa rfl <| wa rfl <| wZ <| cQ <| cQ <| cR <| wm rfl ?_
 refine wE rfl (run_call en43 rfl rfl) (hck hs) ?_
 rintro e w ⟨rfl, hq⟩
 refine ⟨_, rfl, ?_⟩
 replace hs := hs.callE hq
 refine wa rfl <| wZ <| cQ <| cR <| wm rfl <| wV rfl (run_bF (run_neq rfl rfl) (by exact fun h => h hE)) <| wZ ?_
 refine cC rfl (fun h => ?_) (fun h => ?_)
 ·cases h
 repeat (first | refine cQ ?_ | refine cK ?_)
 refine cR ?_
 refine WL.makeMapS rfl hs (fun b15 w hs => ?_)
 refine WL.makeMapS rfl hs (fun b16 w hs => ?_)
 refine wV rfl (run_build rfl (bld_dir0 _)) ?_
 refine WL.box (cs := [str [], .int .i64 ((0 : Nat) : Int)]) rfl rfl rfl hs (fun b18 w hs => ?_)
 refine WL.mapInsS (d := []) underlying58 underlying9 rfl rfl rfl ((hs.perm (List.Perm.swap _ _ _))) (fun w hs => ?_)
 refine wm rfl <| wV rfl (run_field (o' := 0) underlying24 rfl ty3 rfl rfl rfl) <| wV rfl (run_load1 ty3 rfl (hs.c3 (v := .int .i64 a) rfl)) <| wV rfl (run_minE rfl rfl rfl) <| wV rfl (run_field (o' := 1) underlying24 rfl ty3 rfl rfl rfl) <| wV rfl (run_load1 ty3 rfl (hs.c3 (v := .int .i64 b) rfl)) <| wV rfl (run_minE rfl rfl rfl) <| wV rfl (run_field (o' := 2) underlying24 rfl ty3 rfl rfl rfl) <| wV rfl (run_load1 ty3 rfl (hs.c3 (v := .int .i64 c) rfl)) <| wV rfl (run_minE rfl rfl rfl) <| wV rfl (run_build rfl ((bld_quo _ _ _ _))) <| wV rfl (run_build rfl (bld_FS _ _ _ _ _ _)) ?_
 refine WL.box (cs := (fsC b15 b16 (.slice none 0 0) (newV a b c))) rfl rfl rfl hs (fun b31 w hs => ?_)
 refine wa rfl <| wZ <| cQ <| cQ <| cR <| wm rfl <| wV rfl (run_lenSl underlying22 rfl) <| wm rfl <| wZ ?_
 replace hs : Step [] [(b31, blk 61 (fsC b15 b16 (.slice none 0 0) (newV a b c))), (b16, mapS [([], .pointer (some ⟨b18, 0, none⟩), 0)] 1), (b18, blk 74 [str [], .int .i64 ((0 : Nat) : Int)]), (b15, mapS [] 0), (b3, blk 24 (quoC a b c))] w0 w := hs
 replace hs := (hs.perm perm_k1).tail
 refine CW.block ?_
 refine CW.loop (fun z f w' => ∃ i s prev L bs, i ≤ l.length ∧ z = l.length - i ∧ s = (l.take i).foldl VS.addIt (newV a b c) ∧ chkGo s.D prev (l.drop i) = some D0 ∧ NInv s prev i ∧ s.by_ ≤ sumL l ∧ s.by_ + sumL (l.drop i) = sumL l ∧ VRepF b31 s L bs ∧ Step [] L w0 w' ∧ Holds f [(0, .slice av l.length cv), (7, .pointer (some ⟨b31, 0, none⟩)), (32, .slice av l.length cv), (33, .int .i64 l.length), (34, .int .i64 i)]) (m := l.length) ?_ ?_
 ·exact ⟨0, newV a b c, none, _, [], by omega, by omega, rfl, hD0, newV_inv a b c, Nat.zero_le _, by show 0 + sumL l = _; omega, newV_repF, hs, rfl, rfl, rfl, rfl, rfl, trivial⟩
 clear hs
 rintro z f w ⟨i, s, prev, L, bs, hi, rfl, hse, hgo, hv, hby, hby2, hR, hs, hf⟩
 by_cases hlt : i < l.length
 ·have hobt : ∃ x, l[i]? = some x := ⟨_, List.getElem?_eq_getElem hlt⟩
  obtain ⟨x, hx⟩ := hobt
  have hxo := hl.ok x (List.mem_of_getElem? hx)
  have hxc := It.cells1 hxo
  have hobt := hl.at hx
  obtain ⟨bl, ol, cl, hc0, hat⟩ := hobt
  injection hc0 with hc0 hc1 hc2
  have hc3 := congrArg (fun z => Value.slice z l.length cv) hc0
  rw [hc3] at hf
  have hobt := hf.chain
  obtain ⟨g, rfl⟩ := hobt
  rw [chk_drop hx] at hgo
  obtain ⟨D1, hD1, hgo1⟩ : ∃ D1, chkStep s.D prev x = some D1 ∧ chkGo D1 (some x.p) (l.drop (i + 1)) = some D0 := by
   cases h : chkStep s.D prev x with
   | none => rw [h] at hgo; cases hgo
   | some D1 => rw [h] at hgo; exact ⟨D1, rfl, hgo⟩
  have hobt := hv.step hD1
  obtain ⟨_, n1, n2, n3, _⟩ := hobt
  have hdr : l.drop i = x :: l.drop (i + 1) := by
   rw [List.drop_eq_getElem_cons hlt]
   rw [List.getElem?_eq_getElem hlt] at hx
   rw [Option.some.inj hx]
  have hsd : sumL (l.drop i) = x.x.length + sumL (l.drop (i + 1)) := by rw [hdr]; simp [sumL]
  have hse2 : s.addIt x = (l.take (i + 1)).foldl VS.addIt (newV a b c) := by
   rw [List.getElem?_eq_getElem hlt] at hx
   rw [← List.take_append_getElem hlt, List.foldl_append, ← hse, Option.some.inj hx]
   rfl
  refine cQ <| cR <| wV rfl (run_bT (run_lss rfl rfl) (by omega)) <| wZ <| cQ ?_
  refine cC rfl (fun h => ?_) (fun h => ?_)
  ·repeat (first | refine cQ ?_ | refine CW.block ?_ | refine cK ?_)
   refine cR <| wV rfl (run_ixSlN underlying22 ty56 rfl rfl (by omega)) <| wV rfl (run_loadN ty56 rfl rfl (hat.step hs (by simp))) ?_
   refine WL.alloc ty56 rfl hs (fun b9 w hs => ?_)
   refine WL.storeAll ty56 rfl rfl ((rfl)) (hxc) hs (by first | rfl | assumption) (fun w hs => ?_)
   refine wZ <| cR <| wm rfl <| wV rfl (run_loadN ty56 rfl rfl hs.a0) ?_
   replace hs := hs.perm perm_k3
   refine wE rfl (run_call en44 rfl rfl) (addIt_spec hR hv (by omega) hD1 (by omega) (hg.step hs) (hs.dropR.zero (by simp) hg) hs.own hxo.lp (fun h => hxo.hb.step0 (hs.call h))) ?_
   rintro e w ⟨L', bs', rfl, hR', hq⟩
   refine ⟨_, rfl, ?_⟩
   replace hs := (hs.call hq).dropR
   refine wZ <| cR <| wV rfl (run_add (c := ((i + 1 : Nat) : Int)) rfl rfl (by omega) (by omega)) <| wm rfl <| wZ ?_
   refine (show _ ∧ _ from ⟨rfl, _, ?_, i + 1, s.addIt x, some x.p, L', bs', by omega, rfl, hse2, by rw [n1]; exact hgo1, n2, by omega, by omega, hR', hs, hc3.symm, rfl, hc3.symm, rfl, rfl, trivial⟩)
   omega
  ·cases h
 ·have hobt := hf.chain
  obtain ⟨g, rfl⟩ := hobt
  obtain rfl : i = l.length := by omega
  rw [List.take_length] at hse
  rw [List.drop_length] at hby2
  have hby3 : s.by_ = sumL l := by rw [← hby2]; simp [sumL]
  have hobt := foldIt_q l (newV a b c)
  obtain ⟨q1, q2, q3⟩ := hobt
  rw [← hse] at q1 q2 q3
  have e1 : s.qb = min a 67108864 := q1
  have e2 : s.qf = min b 65535 := q2
  have hnS : newS a b c l = s := hse.symm
  have hRR := hR.rep
  obtain ⟨mf, md, vh, Lh, Fs, Ds, Hs, o⟩ := hRR
  refine cQ <| cR <| wV rfl (run_bF (run_lss rfl rfl) (by omega)) <| wZ <| cQ ?_
  refine cC rfl (fun h => ?_) (fun h => ?_)
  ·cases h
  repeat (first | refine cQ ?_ | refine CW.block ?_ | refine CW.exit ?_)
  by_cases hq1 : min a 67108864 < (sumL l : Int)
  ·have he : newE a b l = 96 := hne.trans (if_pos hq1)
   refine CW.quietT (l1 := [_, _, _, _, _, _, _, _, _, _]) (l2 := [_]) 10 rfl mixedP rfl (by kernel_rfl) hs ?_
   refine qm rfl <| qn rfl rfl <| qV rfl (fun w hs => run_field (o' := 6) underlying61 rfl ty3 rfl rfl rfl) <| qV rfl (fun w hs => run_load1 ty3 rfl ((o.at hs.has).cell (j := 6) rfl)) <| qm rfl <| qn rfl rfl <| qV rfl (fun w hs => run_field (o' := 3) underlying61 rfl ty24 rfl rfl rfl) <| qV rfl (fun w hs => run_field (o' := 0) underlying24 rfl ty3 rfl rfl rfl) <| qV rfl (fun w hs => run_load1 ty3 rfl ((o.at hs.has).cell (j := 3) rfl)) <| qV rfl (fun w hs => run_bT (run_gtr rfl rfl) (by omega)) ?_
   refine QL.nil (fun w hs => ?_)
   refine wa rfl <| wZ ?_
   refine cC rfl (fun h => ?_) (fun h => ?_)
   ·refine cQ <| cR <| wa rfl <| wa rfl <| wZ ?_
    refine CW.ret ?_
    refine fin_ret2 rfl ?_
    exact ⟨_, hs, .inl ⟨by rw [he]; decide, congrArg (fun z => Ending.returned (.tuple #[.pointer none, .int .i64 z])) he.symm⟩⟩
   ·cases h
  ·by_cases hq2 : min b 65535 < (l.length : Int)
   ·have he : newE a b l = 97 := hne.trans ((if_neg hq1).trans (if_pos hq2))
    refine CW.quietT (l1 := [_, _, _, _, _, _, _, _, _, _]) (l2 := [_]) 10 rfl mixedP rfl (by kernel_rfl) hs ?_
    refine qm rfl <| qn rfl rfl <| qV rfl (fun w hs => run_field (o' := 6) underlying61 rfl ty3 rfl rfl rfl) <| qV rfl (fun w hs => run_load1 ty3 rfl ((o.at hs.has).cell (j := 6) rfl)) <| qm rfl <| qn rfl rfl <| qV rfl (fun w hs => run_field (o' := 3) underlying61 rfl ty24 rfl rfl rfl) <| qV rfl (fun w hs => run_field (o' := 0) underlying24 rfl ty3 rfl rfl rfl) <| qV rfl (fun w hs => run_load1 ty3 rfl ((o.at hs.has).cell (j := 3) rfl)) <| qV rfl (fun w hs => run_bF (run_gtr rfl rfl) (by omega)) ?_
    refine QL.nil (fun w hs => ?_)
    refine wa rfl <| wZ ?_
    refine cC rfl (fun h => ?_) (fun h => ?_)
    ·cases h
    refine cQ <| cR <| wm rfl <| wV rfl (run_lenSl underlying22 rfl) <| wm rfl <| wn rfl rfl <| wV rfl (run_field (o' := 3) underlying61 rfl ty24 rfl rfl rfl) <| wV rfl (run_field (o' := 1) underlying24 rfl ty3 rfl rfl rfl) <| wV rfl (run_load1 ty3 rfl ((o.at hs.has).cell (j := 4) rfl)) <| wV rfl (run_bT (run_gtr rfl rfl) (by omega)) <| wa rfl <| wZ ?_
    refine cC rfl (fun h => ?_) (fun h => ?_)
    ·refine cQ <| cR <| wa rfl <| wa rfl <| wZ ?_
     refine CW.ret ?_
     refine fin_ret2 rfl ?_
     exact ⟨_, hs, .inl ⟨by rw [he]; decide, congrArg (fun z => Ending.returned (.tuple #[.pointer none, .int .i64 z])) he.symm⟩⟩
    ·cases h
   ·have he : newE a b l = 0 := hne.trans ((if_neg hq1).trans (if_neg hq2))
    refine CW.quietT (l1 := [_, _, _, _, _, _, _, _, _, _]) (l2 := [_]) 10 rfl mixedP rfl (by kernel_rfl) hs ?_
    refine qm rfl <| qn rfl rfl <| qV rfl (fun w hs => run_field (o' := 6) underlying61 rfl ty3 rfl rfl rfl) <| qV rfl (fun w hs => run_load1 ty3 rfl ((o.at hs.has).cell (j := 6) rfl)) <| qm rfl <| qn rfl rfl <| qV rfl (fun w hs => run_field (o' := 3) underlying61 rfl ty24 rfl rfl rfl) <| qV rfl (fun w hs => run_field (o' := 0) underlying24 rfl ty3 rfl rfl rfl) <| qV rfl (fun w hs => run_load1 ty3 rfl ((o.at hs.has).cell (j := 3) rfl)) <| qV rfl (fun w hs => run_bF (run_gtr rfl rfl) (by omega)) ?_
    refine QL.nil (fun w hs => ?_)
    refine wa rfl <| wZ ?_
    refine cC rfl (fun h => ?_) (fun h => ?_)
    ·cases h
    refine cQ <| cR <| wm rfl <| wV rfl (run_lenSl underlying22 rfl) <| wm rfl <| wn rfl rfl <| wV rfl (run_field (o' := 3) underlying61 rfl ty24 rfl rfl rfl) <| wV rfl (run_field (o' := 1) underlying24 rfl ty3 rfl rfl rfl) <| wV rfl (run_load1 ty3 rfl ((o.at hs.has).cell (j := 4) rfl)) <| wV rfl (run_bF (run_gtr rfl rfl) (by omega)) <| wa rfl <| wZ ?_
    refine cC rfl (fun h => ?_) (fun h => ?_)
    ·cases h
    repeat (first | refine cQ ?_ | refine cK ?_)
    refine cR <| wm rfl <| wa rfl <| wa rfl <| wZ ?_
    refine CW.ret ?_
    refine fin_ret2 rfl ?_
    exact ⟨_, hs, .inr ⟨he, b31, rfl, by rw [hnS]; exact hR.rep⟩⟩
end Go.Gx
/-! Vt5 -/
namespace Go.Gx
open Go.Proofs Go.Proofs.Tryz
theorem count_none {H : List HT} {k : Nat} {a : Nat × Nat × Nat} (h : H[k]? = some (some a)) : ((H.set k none).filter Option.isSome).length + 1 = (H.filter Option.isSome).length := by
 induction H generalizing k with
 | nil => simp at h
 | cons b H ih =>
  cases k with
  | zero =>
   simp only [List.getElem?_cons_zero, Option.some.injEq] at h
   subst h
   simp
  | succ k =>
   rw [List.getElem?_cons_succ] at h
   have := ih h
   rw [List.set_cons_succ, List.filter_cons, List.filter_cons]
   split
   ·rw [List.length_cons, List.length_cons, this]
   ·exact this
theorem count_some {H : List HT} {k : Nat} {a : Nat × Nat × Nat} (h : H[k]? = some none) : ((H.set k (some a)).filter Option.isSome).length = (H.filter Option.isSome).length + 1 := by
 induction H generalizing k with
 | nil => simp at h
 | cons b H ih =>
  cases k with
  | zero =>
   simp only [List.getElem?_cons_zero, Option.some.injEq] at h
   subst h
   simp
  | succ k =>
   rw [List.getElem?_cons_succ] at h
   have := ih h
   rw [List.set_cons_succ, List.filter_cons, List.filter_cons]
   split
   ·rw [List.length_cons, List.length_cons, this]
   ·exact this
theorem is_at {s : VS} {h : Int} {a : Nat × Nat × Nat} (hi : s.is h = some a) : ∃ k : Nat, h = k ∧ s.H[k]? = some (some a) := by
 unfold VS.is at hi
 split at hi
 ·refine ⟨h.toNat, by omega, ?_⟩
  cases hx : s.H[h.toNat]? with
  | none => rw [hx] at hi; cases hi
  | some x =>
   rw [hx] at hi
   have : x = some a := hi
   rw [this]
 ·cases hi
section
variable {s : VS}
theorem VS.Sane.close (sn : s.Sane) (h : Int) : (s.close h).2.Sane := by
 unfold VS.close
 split
 ·exact sn
 ·rename_i a ha
  have hobt := is_at ha
  obtain ⟨k, rfl, hk⟩ := hobt
  have hc := count_none hk
  have hop := sn.op
  have ok := sn.ok
  rw [Int.toNat_natCast]
  refine ⟨⟨by show (s.H.set k none).length ≤ _; rw [List.length_set]; exact ok.h, ok.f, ok.d, ok.x, fun i pl mo hm => ?_, ok.qb, ok.qf, ok.qo, ok.by_, by have := ok.op; show s.op - 1 ≤ _; omega⟩, sn.root, sn.cnt, sn.lim, sn.sum, by show (s.H.set k none).length ≤ _; rw [List.length_set]; exact sn.hl, by show s.op - 1 = ((s.H.set k none).filter Option.isSome).length; omega, fun i pl mo hm => ?_⟩
  ·rcases List.mem_or_eq_of_mem_set hm with h1 | h1
   ·exact ok.at_ i pl mo h1
   ·cases h1
  ·rcases List.mem_or_eq_of_mem_set hm with h1 | h1
   ·exact sn.fi i pl mo h1
   ·cases h1
theorem peek_le {h n : Int} {i pl mo : Nat} (hi : s.is h = some (i, pl, mo)) : (s.peek h n).1.toNat ≤ s.len i - pl := by
 unfold VS.peek
 rw [hi]
 simp only
 split
 ·exact Nat.zero_le _
 ·split
  ·exact Nat.zero_le _
  ·show (min n (max 0 ((s.len i : Int) - pl))).toNat ≤ _
   omega
theorem len_le {i : Nat} (ok : s.Ok) : s.len i ≤ 1048576 := by
 unfold VS.len
 cases h : s.F[i]? with
 | none => exact Nat.zero_le _
 | some e => exact ok.x e (List.mem_of_getElem? h)
theorem VS.Sane.read (sn : s.Sane) (h n : Int) : (s.read h n).2.2.Sane := by
 unfold VS.read
 split
 ·exact sn
 ·split
  ·exact sn
  ·rename_i i pl mo ha
   have hp := peek_le (n := n) ha
   have hobt := is_at ha
   obtain ⟨k, rfl, hk⟩ := hobt
   have ok := sn.ok
   have hl := len_le (i := i) ok
   have hat := ok.at_ i pl mo (List.mem_of_getElem? hk)
   rw [Int.toNat_natCast]
   refine ⟨⟨by show (s.H.set k _).length ≤ _; rw [List.length_set]; exact ok.h, ok.f, ok.d, ok.x, fun i' pl' mo' hm => ?_, ok.qb, ok.qf, ok.qo, ok.by_, ok.op⟩, sn.root, sn.cnt, sn.lim, sn.sum, by show (s.H.set k _).length ≤ _; rw [List.length_set]; exact sn.hl, by show s.op = ((s.H.set k _).filter Option.isSome).length; rw [filter_set hk]; exact sn.op, fun i' pl' mo' hm => ?_⟩
   ·rcases List.mem_or_eq_of_mem_set hm with h1 | h1
    ·exact ok.at_ i' pl' mo' h1
    ·simp only [Option.some.injEq, Prod.mk.injEq] at h1
     obtain ⟨e1, e2, e3⟩ := h1
     rw [e2, e3]
     exact ⟨by omega, hat.2⟩
   ·rcases List.mem_or_eq_of_mem_set hm with h1 | h1
    ·exact sn.fi i' pl' mo' h1
    ·simp only [Option.some.injEq, Prod.mk.injEq] at h1
     rw [h1.1]
     exact sn.fi i pl mo (List.mem_of_getElem? hk)
theorem sum_set : ∀ (F : List (List UInt8 × List UInt8)) (i : Nat) (p x : List UInt8), i < F.length → ((F.set i (p, x)).map (·.2.length)).sum + ((F[i]?).map (·.2.length)).getD 0 = (F.map (·.2.length)).sum + x.length
 | [], _, _, _, h => by simp at h
 | e :: F, 0, p, x, _ => by simp; omega
 | e :: F, i + 1, p, x, h => by
  have := sum_set F i p x (by simpa using h)
  simp only [List.set_cons_succ, List.map_cons, List.sum_cons, List.getElem?_cons_succ] at this ⊢
  omega
theorem VS.Sane.write (sn : s.Sane) (h : Int) (b : List UInt8) : (s.write h b).2.Sane := by
 unfold VS.write
 split
 ·exact sn
 ·rename_i hbad
  split
  ·exact sn
  ·rename_i i pl mo ha
   have hmay : s.may h b.length = 0 := Classical.byContradiction fun h => hbad (.inl h)
   have hb : b ≠ [] := fun h => hbad (.inr h)
   have hbl : 0 < b.length := List.length_pos_iff.2 hb
   unfold VS.may at hmay
   rw [ha] at hmay
   simp only at hmay
   have hobt := is_at ha
   obtain ⟨k, rfl, hk⟩ := hobt
   have ok := sn.ok
   have hl := len_le (i := i) ok
   have hat := ok.at_ i pl mo (List.mem_of_getElem? hk)
   have hil := sn.fi i pl mo (List.mem_of_getElem? hk)
   have hobt : ∃ fr, s.from_ i pl mo = fr := ⟨_, rfl⟩
   obtain ⟨fr, hfr⟩ := hobt
   rw [hfr] at hmay ⊢
   split at hmay
   ·cases hmay
   ·split at hmay
    ·omega
    ·split at hmay
     ·omega
     ·split at hmay
      ·cases hmay
      ·split at hmay
       ·cases hmay
       ·have hqb := ok.qb
        have hov := overL_len (s.data i) fr b
        have hdl : (s.data i).length = s.len i := by
         unfold VS.data VS.len
         cases s.F[i]? <;> rfl
        have hsum := sum_set s.F i (s.pth i) (overL (s.data i) fr b) hil
        have hln : ((s.F[i]?).map (·.2.length)).getD 0 = s.len i := rfl
        rw [hln, hov, hdl, ← sn.sum] at hsum
        rw [hdl] at hov
        rw [Int.toNat_natCast]
        refine ⟨⟨by show (s.H.set k _).length ≤ _; rw [List.length_set]; exact ok.h, by show (s.F.set i _).length ≤ _; rw [List.length_set]; exact ok.f, ok.d, fun e he => ?_, fun i' pl' mo' hm => ?_, ok.qb, ok.qf, ok.qo, by show s.by_ + (fr + b.length - s.len i) ≤ _; omega, ok.op⟩, sn.root, fun e he => ?_, by show (s.F.set i _).length + _ ≤ _; rw [List.length_set]; exact sn.lim, ?_, by show (s.H.set k _).length ≤ _; rw [List.length_set]; exact sn.hl, by show s.op = ((s.H.set k _).filter Option.isSome).length; rw [filter_set hk]; exact sn.op, fun i' pl' mo' hm => ?_⟩
        ·rcases List.mem_or_eq_of_mem_set he with h1 | h1
         ·exact ok.x e h1
         ·rw [h1]
          show (overL (s.data i) fr b).length ≤ _
          omega
        ·rcases List.mem_or_eq_of_mem_set hm with h1 | h1
         ·exact ok.at_ i' pl' mo' h1
         ·simp only [Option.some.injEq, Prod.mk.injEq] at h1
          obtain ⟨e1, e2, e3⟩ := h1
          rw [e2, e3]
          exact ⟨by omega, hat.2⟩
        ·show e.2 ≤ s.D.length + (s.F.set i _).length
         rw [List.length_set]
         exact sn.cnt e he
        ·show s.by_ + (fr + b.length - s.len i) = ((s.F.set i _).map (·.2.length)).sum
         omega
        ·show i' < (s.F.set i _).length
         rw [List.length_set]
         rcases List.mem_or_eq_of_mem_set hm with h1 | h1
         ·exact sn.fi i' pl' mo' h1
         ·simp only [Option.some.injEq, Prod.mk.injEq] at h1
          rw [h1.1]
          exact hil
end
end Go.Gx
/-! Vt6 -/
namespace Go.Gx
open Go.Proofs Go.Proofs.Tryz
def kidP (u r : List UInt8) : Bool := decide (r ≠ [] ∧ (splitR r).1 = u)
def VS.kids (s : VS) (u : List UInt8) : Nat := (s.D.map (·.1)).countP (kidP u) + (s.F.map (·.1)).countP (kidP u)
structure VS.Tree (s : VS) : Prop where
 ndD : (s.D.map (·.1)).Nodup
 ndF : (s.F.map (·.1)).Nodup
 dj : ∀ e ∈ s.F, s.dir e.1 = none
 cl : ∀ r, r ∈ s.D.map (·.1) ∨ r ∈ s.F.map (·.1) → r ≠ [] → isCleanL r = true ∧ (s.dir (splitR r).1).isSome
 nz : ∀ e ∈ s.F, e.1 ≠ []
 cn : ∀ e ∈ s.D, e.2 = s.kids e.1
 fan : ∀ e ∈ s.D, e.2 ≤ 1024
theorem dir_mem {s : VS} {u : List UInt8} : (s.dir u).isSome = true ↔ u ∈ s.D.map (·.1) := by
 unfold VS.dir
 rw [List.findIdx?_isSome, List.any_eq_true]
 constructor
 ·rintro ⟨e, he, h⟩
  exact List.mem_map.2 ⟨e, he, of_decide_eq_true h⟩
 ·intro h
  have hobt := List.mem_map.1 h
  obtain ⟨e, he, h2⟩ := hobt
  exact ⟨e, he, by simpa using h2⟩
theorem dir_not {s : VS} {u : List UInt8} (h : s.dir u = none) : u ∉ s.D.map (·.1) := fun hm => by
 have := dir_mem.2 hm
 rw [h] at this
 cases this
theorem file_not {s : VS} {u : List UInt8} (h : s.file u = none) : u ∉ s.F.map (·.1) := fun hm => by
 unfold VS.file at h
 rw [List.findIdx?_eq_none_iff] at h
 have hobt := List.mem_map.1 hm
 obtain ⟨e, he, h2⟩ := hobt
 have := h e he
 simp [h2] at this
theorem bump_fst (s : VS) (j : Nat) : (s.bump j).D.map (·.1) = s.D.map (·.1) := by
 apply List.ext_getElem?
 intro i
 show (((s.D.modify j fun e => (e.1, e.2 + 1)).map (·.1))[i]?) = _
 rw [List.getElem?_map, List.getElem?_modify, List.getElem?_map]
 cases s.D[i]? with
 | none => rfl
 | some e => by_cases h : j = i <;> simp [h]
/-- Only directories and the files' paths count. -/
theorem VS.Tree.of {s s' : VS} (t : s.Tree) (hD : s'.D = s.D) (hF : s'.F.map (·.1) = s.F.map (·.1)) : s'.Tree := by
 have hd : ∀ u, s'.dir u = s.dir u := fun u => by unfold VS.dir; rw [hD]
 have hm : ∀ e ∈ s'.F, e.1 ∈ s.F.map (·.1) := fun e he => by rw [← hF]; exact List.mem_map_of_mem he
 refine ⟨by rw [hD]; exact t.ndD, by rw [hF]; exact t.ndF, fun e he => ?_, fun r hr h0 => ?_, fun e he => ?_, fun e he => ?_, fun e he => t.fan e (hD ▸ he)⟩
 ·have hobt := List.mem_map.1 (hm e he)
  obtain ⟨e0, h0, h1⟩ := hobt
  rw [hd, ← h1]
  exact t.dj e0 h0
 ·rw [hD, hF] at hr
  rw [hd]
  exact t.cl r hr h0
 ·have hobt := List.mem_map.1 (hm e he)
  obtain ⟨e0, h0, h1⟩ := hobt
  rw [← h1]
  exact t.nz e0 h0
 ·unfold VS.kids
  rw [hD, hF]
  exact t.cn e (hD ▸ he)
theorem kids_none {s : VS} (t : s.Tree) {d : List UInt8} (h : s.dir d = none) : s.kids d = 0 := by
 have hz : ∀ r, (r ∈ s.D.map (·.1) ∨ r ∈ s.F.map (·.1)) → kidP d r = false := fun r hr => by
  unfold kidP
  rw [decide_eq_false_iff_not]
  rintro ⟨h0, h1⟩
  have := (t.cl r hr h0).2
  rw [h1, h] at this
  cases this
 unfold VS.kids
 rw [List.countP_eq_zero.2 fun r hr => by rw [hz r (.inl hr)]; simp, List.countP_eq_zero.2 fun r hr => by rw [hz r (.inr hr)]; simp]
section
variable {s : VS} {d : List UInt8} {j n : Nat}
/-- What an item more does to the counts. -/
theorem tree_cnt (t : s.Tree) (hne : d ≠ []) (hj : s.dir (splitR d).1 = some j) (hjn : s.D[j]? = some ((splitR d).1, n)) (hn : n < 1024) : ∀ e ∈ (s.bump j).D, e.2 = s.kids e.1 + (if kidP e.1 d = true then 1 else 0) ∧ e.2 ≤ 1024 := by
 intro e he
 have hobt := List.mem_iff_getElem?.1 he
 obtain ⟨i, hi⟩ := hobt
 have h2 : ((s.D.modify j fun e => (e.1, e.2 + 1))[i]?) = some e := hi
 rw [List.getElem?_modify] at h2
 cases hx : s.D[i]? with
 | none => rw [hx] at h2; simp at h2
 | some e0 =>
  rw [hx] at h2
  have hc := t.cn e0 (List.mem_of_getElem? hx)
  by_cases hij : j = i
  ·subst hij
   rw [hjn] at hx
   obtain rfl := Option.some.inj hx
   simp at h2
   subst h2
   have hk : kidP (splitR d).1 d = true := by simp [kidP, hne]
   rw [if_pos hk]
   exact ⟨by show n + 1 = _; rw [← hc], by show n + 1 ≤ 1024; omega⟩
  ·simp [hij] at h2
   subst h2
   have hne2 : e0.1 ≠ (splitR d).1 := fun h => by
    have hnd := t.ndD
    have e1 : (s.D.map (·.1))[i]? = some (splitR d).1 := by rw [List.getElem?_map, hx, ← h]; rfl
    have e2 : (s.D.map (·.1))[j]? = some (splitR d).1 := by rw [List.getElem?_map, hjn]; rfl
    have hobt := List.getElem?_eq_some_iff.1 e1
    obtain ⟨hil, h3⟩ := hobt
    have hobt := List.getElem?_eq_some_iff.1 e2
    obtain ⟨hjl, h4⟩ := hobt
    rcases Nat.lt_or_gt_of_ne hij with h5 | h5
    ·exact List.pairwise_iff_getElem.1 hnd j i hjl hil h5 (h4.trans h3.symm)
    ·exact List.pairwise_iff_getElem.1 hnd i j hil hjl h5 (h3.trans h4.symm)
   have hk : kidP e0.1 d = false := by
    unfold kidP
    rw [decide_eq_false_iff_not]
    exact fun h => hne2 h.2.symm
   rw [hk, if_neg (by simp), Nat.add_zero]
   exact ⟨hc, t.fan e0 (List.mem_of_getElem? hx)⟩
theorem VS.Tree.addDir (t : s.Tree) (hcl : isCleanL d = true) (hne : d ≠ []) (hj : s.dir (splitR d).1 = some j) (hjn : s.D[j]? = some ((splitR d).1, n)) (hn : n < 1024) (hd : s.dir d = none) (hf : s.file d = none) : (s.addDir d).Tree := by
 have e : s.addDir d = { s.bump j with D := (s.bump j).D ++ [(d, 0)] } := by unfold VS.addDir; rw [hj]
 have hdir := fun u => dir_addDir (s := s) (d := d) (u := u) (by rw [hj]; rfl)
 have hfst : (s.addDir d).D.map (·.1) = s.D.map (·.1) ++ [d] := by rw [e]; simp [bump_fst]
 have hF : (s.addDir d).F = s.F := (addDir_F s d).1
 have hkids : ∀ u, (s.addDir d).kids u = s.kids u + (if kidP u d = true then 1 else 0) := fun u => by
  unfold VS.kids
  rw [hfst, hF, List.countP_append, List.countP_singleton]
  omega
 have hcnt := tree_cnt t hne hj hjn hn
 have hpd : (splitR d).1 ≠ d := fun h => by rw [h, hd] at hj; cases hj
 refine ⟨?_, by rw [hF]; exact t.ndF, fun e he => ?_, fun r hr h0 => ?_, fun e he => t.nz e (hF ▸ he), fun x hx => ?_, fun x hx => ?_⟩
 ·rw [hfst, List.nodup_append]
  refine ⟨t.ndD, by simp, fun a ha b hb => ?_⟩
  rw [List.mem_singleton.1 hb]
  exact fun h => dir_not hd (h ▸ ha)
 ·rw [hF] at he
  rw [hdir, t.dj e he]
  rw [if_neg (by simp), if_neg]
  intro h
  exact file_not hf (by rw [h]; exact List.mem_map_of_mem he)
 ·rw [hfst, hF] at hr
  have hold : (r ∈ s.D.map (·.1) ∨ r ∈ s.F.map (·.1)) → isCleanL r = true ∧ ((s.addDir d).dir (splitR r).1).isSome := fun h => by
   have hobt := t.cl r h h0
   obtain ⟨h1, h2⟩ := hobt
   rw [hdir, if_pos h2]
   exact ⟨h1, h2⟩
  rcases hr with h | h
  ·rcases List.mem_append.1 h with h | h
   ·exact hold (.inl h)
   ·rw [List.mem_singleton.1 h, hdir, hj]
    exact ⟨hcl, rfl⟩
  ·exact hold (.inr h)
 ·rw [hkids]
  rw [e] at hx
  rcases List.mem_append.1 hx with h | h
  ·exact (hcnt x h).1
  ·rw [List.mem_singleton.1 h]
   show 0 = _
   rw [kids_none t hd, if_neg]
   unfold kidP
   simp only [decide_eq_true_eq]
   exact fun h => hpd h.2
 ·rw [e] at hx
  rcases List.mem_append.1 hx with h | h
  ·exact (hcnt x h).2
  ·rw [List.mem_singleton.1 h]
   exact Nat.zero_le _
theorem VS.Tree.addFile (t : s.Tree) {x : List UInt8} (hcl : isCleanL d = true) (hne : d ≠ []) (hj : s.dir (splitR d).1 = some j) (hjn : s.D[j]? = some ((splitR d).1, n)) (hn : n < 1024) (hd : s.dir d = none) (hf : s.file d = none) : (s.addFile d x).Tree := by
 have e : s.addFile d x = { s.bump j with F := s.F ++ [(d, x)], by_ := s.by_ + x.length } := by unfold VS.addFile; rw [hj]
 have hD : (s.addFile d x).D = (s.bump j).D := by rw [e]
 have hdir : ∀ u, (s.addFile d x).dir u = s.dir u := fun u => by
  rw [← dir_bump s j u]
  unfold VS.dir
  rw [hD]
 have hfst : (s.addFile d x).D.map (·.1) = s.D.map (·.1) := by rw [hD, bump_fst]
 have hFst : (s.addFile d x).F.map (·.1) = s.F.map (·.1) ++ [d] := by rw [e]; simp
 have hkids : ∀ u, (s.addFile d x).kids u = s.kids u + (if kidP u d = true then 1 else 0) := fun u => by
  unfold VS.kids
  rw [hfst, hFst, List.countP_append, List.countP_singleton]
  omega
 have hcnt := tree_cnt t hne hj hjn hn
 have hmem : ∀ e ∈ (s.addFile d x).F, e ∈ s.F ∨ e.1 = d := fun y hy => by
  rw [e] at hy
  rcases List.mem_append.1 hy with h | h
  ·exact .inl h
  ·rw [List.mem_singleton.1 h]; exact .inr rfl
 refine ⟨by rw [hfst]; exact t.ndD, ?_, fun y hy => ?_, fun r hr h0 => ?_, fun y hy => ?_, fun y hy => ?_, fun y hy => ?_⟩
 ·rw [hFst, List.nodup_append]
  refine ⟨t.ndF, by simp, fun a ha b hb => ?_⟩
  rw [List.mem_singleton.1 hb]
  exact fun h => file_not hf (h ▸ ha)
 ·rw [hdir]
  rcases hmem y hy with h | h
  ·exact t.dj y h
  ·rw [h]; exact hd
 ·rw [hfst, hFst] at hr
  rw [hdir]
  rcases hr with h | h
  ·exact t.cl r (.inl h) h0
  ·rcases List.mem_append.1 h with h | h
   ·exact t.cl r (.inr h) h0
   ·rw [List.mem_singleton.1 h, hj]
    exact ⟨hcl, rfl⟩
 ·rcases hmem y hy with h | h
  ·exact t.nz y h
  ·rw [h]; exact hne
 ·rw [hkids]
  rw [hD] at hy
  exact (hcnt y hy).1
 ·rw [hD] at hy
  exact (hcnt y hy).2
end
theorem newV_tree (a b c : Int) : (newV a b c).Tree := by
 refine ⟨by simp [newV], by simp [newV], fun e he => (by cases he), fun r hr h0 => ?_, fun e he => (by cases he), fun e he => ?_, fun e he => ?_⟩
 ·rcases hr with h | h
  ·exact absurd (List.mem_singleton.1 h) h0
  ·cases h
 ·rw [List.mem_singleton.1 he]; rfl
 ·rw [List.mem_singleton.1 he]; exact Nat.zero_le _
theorem NInv.tree {s : VS} {prev : Option (List UInt8)} {k : Nat} {x : It} {D' : DL} (t : s.Tree) (v : NInv s prev k) (h : chkStep s.D prev x = some D') : (s.addIt x).Tree := by
 have hobt := chk_inv h
 obtain ⟨he, n, hn, hn2, hl, hdx, hxl, hD⟩ := hobt
 have hobt := split_ok he
 obtain ⟨hcl, hne⟩ := hobt
 have hobt := v.fresh hne hl
 obtain ⟨fd, ff⟩ := hobt
 have hobt := lookN_dir hn
 obtain ⟨j, hj, hjn, hjb⟩ := hobt
 unfold VS.addIt
 split
 ·exact t.addDir hcl hne hj hjn hn2 (dir_none fd) (file_none ff)
 ·exact t.addFile hcl hne hj hjn hn2 (dir_none fd) (file_none ff)
theorem chk_tree : ∀ (l : List It) (s : VS) (prev : Option (List UInt8)) (k : Nat) (D' : DL), chkGo s.D prev l = some D' → NInv s prev k → s.Tree → (l.foldl VS.addIt s).Tree
 | [], s, prev, k, D', _, v, t => t
 | x :: l, s, prev, k, D', h, v, t => by
  rw [chkGo] at h
  cases hc : chkStep s.D prev x with
  | none => rw [hc] at h; cases h
  | some D1 =>
   rw [hc] at h
   have hobt := v.step hc
   obtain ⟨_, h1, h2, h3, _⟩ := hobt
   have h : chkGo D1 (some x.p) l = some D' := h
   rw [← h1] at h
   rw [List.foldl_cons]
   exact chk_tree l (s.addIt x) (some x.p) (k + 1) D' h h2 (NInv.tree t v hc)
theorem new_tree {a b c : Int} {l : List It} (h : newE a b l = 0) : (newS a b c l).Tree := by
 have hE : chkE l = 0 := by
  unfold newE at h
  split at h
  ·rename_i h1; exact absurd h h1
  ·rename_i h1; exact Classical.byContradiction h1
 have hobt := chkE_go hE
 obtain ⟨h1, ⟨D, hD⟩, h3⟩ := hobt
 exact chk_tree l (newV a b c) none 0 D hD (newV_inv a b c) (newV_tree a b c)
end Go.Gx
/-! Vt7 -/
namespace Go.Gx
open Go.Proofs Go.Proofs.Tryz
theorem ups_clean : ∀ (l done : List (List UInt8)), Named (done ++ l) → (done ++ l).length ≤ 32 → ∀ u ∈ upsR done l, isCleanL u = true ∧ u ≠ []
 | [], _, _, _, u, hu => by cases hu
 | [_], _, _, _, u, hu => by cases hu
 | x :: y :: l, done, hn, hl, u, hu => by
  have e : done ++ x :: y :: l = (done ++ [x]) ++ y :: l := by simp
  rw [e] at hn hl
  have hn1 : Named (done ++ [x]) := fun p hp => hn p (List.mem_append_left _ hp)
  have hl1 : (done ++ [x]).length ≤ 32 := by
   rw [List.length_append] at hl
   omega
  rw [upsR] at hu
  rcases List.mem_cons.1 hu with h | h
  ·rw [h]
   refine ⟨(named_clean hn1 hl1).1, fun h0 => ?_⟩
   have h2 := (named_clean hn1 hl1).2
   rw [h0] at h2
   have h3 := congrArg List.length h2
   simp [partsL] at h3
  ·exact ups_clean (y :: l) (done ++ [x]) hn hl u h
theorem way_nofile {s : VS} {mend : Bool} : ∀ {l acc M : List (List UInt8)}, s.way mend l acc = (M, 0) → ∀ u ∈ l, s.file u = none
 | [], _, _, _, u, hu => by cases hu
 | a :: l, acc, M, h, u, hu => by
  rw [VS.way] at h
  split at h
  ·cases h
  ·rename_i hf
   have ha : s.file a = none := by cases hx : s.file a <;> simp_all
   have hgo : ∀ {acc}, s.way mend l acc = (M, 0) → s.file u = none := fun h => by
    rcases List.mem_cons.1 hu with h1 | h1
    ·rw [h1]; exact ha
    ·exact way_nofile h u h1
   split at h
   ·exact hgo h
   ·split at h
    ·cases h
    ·exact hgo h
/-- What is missing on a way are the last of its directories. -/
theorem miss_chain {s : VS} (t : s.Tree) : ∀ {l : List (List UInt8)} {prev : List UInt8}, Chain prev l → (∀ u ∈ l, u ≠ []) → ∃ prev', Chain prev' (l.filter fun u => (s.dir u).isNone) ∧ ((l.filter fun u => (s.dir u).isNone) = [] ∨ (l.filter fun u => (s.dir u).isNone).getLast? = l.getLast?) ∧ ((s.dir prev).isNone → (l.filter fun u => (s.dir u).isNone) = l)
 | [], prev, _, _ => ⟨prev, trivial, .inl rfl, fun _ => rfl⟩
 | u :: l, prev, ⟨c1, c2, c3⟩, hne => by
  have hobt := miss_chain t c3 fun x hx => hne x (List.mem_cons_of_mem _ hx)
  obtain ⟨p', i1, i2, i3⟩ := hobt
  rw [List.filter_cons]
  cases hu : (s.dir u).isNone with
  | false =>
   rw [if_neg (by simp)]
   refine ⟨p', i1, ?_, fun hp => ?_⟩
   ·rcases i2 with h | h
    ·exact .inl h
    ·by_cases hf : (l.filter fun u => (s.dir u).isNone) = []
     ·exact .inl hf
     ·refine .inr ?_
      rw [h]
      cases l with
      | nil => exact absurd rfl hf
      | cons b l => rw [List.getLast?_cons_cons]
   ·have hs : (s.dir u).isSome := by cases hx : s.dir u <;> simp_all
    have := (t.cl u (.inl (dir_mem.1 hs)) (hne u (by simp))).2
    rw [c1] at this
    cases hx : s.dir prev <;> simp_all
  | true =>
   rw [if_pos rfl]
   have e := i3 hu
   refine ⟨prev, ⟨c1, c2, by rw [e]; exact c3⟩, .inr (by rw [e]), fun _ => by rw [e]⟩
theorem ups_lt : ∀ (t pre u : List UInt8), u ∈ upsF pre t → u.length < pre.length + t.length
 | [], pre, u, h => by cases h
 | c :: t, pre, u, h => by
  rw [upsF] at h
  have hgo : u ∈ upsF (pre ++ [c]) t → u.length < pre.length + (c :: t).length := fun h => by
   have := ups_lt t (pre ++ [c]) u h
   simp at this ⊢
   omega
  split at h
  ·rcases List.mem_cons.1 h with h1 | h1
   ·rw [h1]; simp
   ·exact hgo h1
  ·exact hgo h
/-- Room below a directory. -/
def VS.room (s : VS) (u : List UInt8) : Prop := ∃ j n, s.dir u = some j ∧ s.D[j]? = some (u, n) ∧ n < 1024
theorem dir_get {s : VS} {u : List UInt8} {j : Nat} (h : s.dir u = some j) : ∃ n, s.D[j]? = some (u, n) := by
 unfold VS.dir at h
 have hobt := List.findIdx?_eq_some_iff_getElem.1 h
 obtain ⟨h1, h2, _⟩ := hobt
 refine ⟨s.D[j].2, ?_⟩
 rw [List.getElem?_eq_getElem h1]
 have h3 : s.D[j].1 = u := by simpa using h2
 rw [← h3]
theorem room_below {s : VS} {u : List UInt8} (h : (s.dir u).isSome) (hb : ¬ 1024 ≤ s.below u) : s.room u := by
 have hobt := Option.isSome_iff_exists.1 h
 obtain ⟨j, hj⟩ := hobt
 have hobt := dir_get hj
 obtain ⟨n, hn⟩ := hobt
 refine ⟨j, n, hj, hn, ?_⟩
 unfold VS.below at hb
 rw [hj] at hb
 simp only [hn, Option.map_some, Option.getD_some] at hb
 omega
theorem room_new {s : VS} {d : List UInt8} (hp : (s.dir (splitR d).1).isSome) (hd : s.dir d = none) : (s.addDir d).room d := by
 have h := dir_addDir (u := d) hp
 rw [hd, if_neg (by simp), if_pos rfl] at h
 refine ⟨s.D.length, 0, h, ?_, by omega⟩
 have hobt := Option.isSome_iff_exists.1 hp
 obtain ⟨j, hj⟩ := hobt
 have e : (s.addDir d).D = (s.bump j).D ++ [(d, 0)] := by unfold VS.addDir; rw [hj]
 rw [e, List.getElem?_append_right (by rw [bump_len]; exact Nat.le_refl _), bump_len, Nat.sub_self]
 rfl
theorem made_tree : ∀ {M : List (List UInt8)} {s : VS} {prev : List UInt8}, Chain prev M → s.Tree → s.room prev → (∀ u ∈ M, s.dir u = none ∧ s.file u = none ∧ isCleanL u = true ∧ u ≠ []) → (M.foldl VS.addDir s).Tree ∧ (M.foldl VS.addDir s).room ((M.getLast?).getD prev)
 | [], s, prev, _, t, r, _ => ⟨t, r⟩
 | d :: M, s, prev, ⟨c1, c2, c3⟩, t, r, h => by
  have hobt := h d (by simp)
  obtain ⟨hd, hf, hcl, hne⟩ := hobt
  have r' := r
  obtain ⟨j, n, hj, hjn, hn⟩ := r
  rw [← c1] at hj hjn
  have hp : (s.dir (splitR d).1).isSome := by rw [hj]; rfl
  have t1 := t.addDir hcl hne hj hjn hn hd hf
  obtain ⟨g1, g2⟩ := made_tree (s := s.addDir d) c3 t1 (room_new hp hd) fun u hu => by
   have hobt := h u (by simp [hu])
   obtain ⟨h1, h2, h3, h4⟩ := hobt
   have hlt := chain_longer c3 hu
   refine ⟨?_, by rw [file_addDir]; exact h2, h3, h4⟩
   rw [dir_addDir hp, h1, if_neg (by simp), if_neg fun e => by rw [e] at hlt; omega]
  rw [List.foldl_cons, List.getLast?_cons, Option.getD_some]
  exact ⟨g1, g2⟩
theorem fold_dir_none : ∀ (M : List (List UInt8)) (s : VS) (u : List UInt8), Made s M → s.dir u = none → u ∉ M → (M.foldl VS.addDir s).dir u = none
 | [], s, u, _, h, _ => h
 | d :: M, s, u, ⟨h1, h2, h3⟩, h, hm => by
  rw [List.foldl_cons]
  refine fold_dir_none M (s.addDir d) u h3 ?_ fun h => hm (by simp [h])
  rw [dir_addDir h1, h, if_neg (by simp), if_neg fun e => hm (by simp [e])]
section
variable {s : VS}
theorem VS.Sane.trunc (sn : s.Sane) {i : Nat} (hi : i < s.F.length) : (s.trunc i).Sane := by
 have ok := sn.ok
 have hsum := sum_set s.F i (s.pth i) [] hi
 have hln : ((s.F[i]?).map (·.2.length)).getD 0 = s.len i := rfl
 rw [hln, ← sn.sum] at hsum
 have h0 : ([] : List UInt8).length = 0 := rfl
 rw [h0] at hsum
 refine ⟨⟨ok.h, by show (s.F.set i _).length ≤ _; rw [List.length_set]; exact ok.f, ok.d, fun e he => ?_, ok.at_, ok.qb, ok.qf, ok.qo, by show s.by_ - s.len i ≤ _; have := ok.by_; omega, ok.op⟩, sn.root, fun e he => by show e.2 ≤ s.D.length + (s.F.set i _).length; rw [List.length_set]; exact sn.cnt e he, by show (s.F.set i _).length + _ ≤ _; rw [List.length_set]; exact sn.lim, by show s.by_ - s.len i = ((s.F.set i _).map (·.2.length)).sum; omega, sn.hl, sn.op, fun i' pl mo hm => by show i' < (s.F.set i _).length; rw [List.length_set]; exact sn.fi i' pl mo hm⟩
 rcases List.mem_or_eq_of_mem_set he with h1 | h1
 ·exact ok.x e h1
 ·rw [h1]; exact Nat.zero_le _
theorem trunc_fst {i : Nat} (hi : i < s.F.length) : (s.trunc i).F.map (·.1) = s.F.map (·.1) := by
 show (s.F.set i (s.pth i, [])).map (·.1) = _
 rw [List.map_set]
 have hp : s.pth i = s.F[i].1 := by
  unfold VS.pth
  rw [List.getElem?_eq_getElem hi]
  rfl
 apply List.ext_getElem?
 intro k
 by_cases hk : i = k
 ·subst hk
  rw [List.getElem?_set_self (by simpa using hi), List.getElem?_map, List.getElem?_eq_getElem hi, hp]
  rfl
 ·rw [List.getElem?_set_ne hk]
theorem slot_spec : (∃ k, s.slotI = k ∧ s.H[k]? = some none) ∨ s.slotI = s.H.length ∧ ∀ a ∈ s.H, a.isSome := by
 unfold VS.slotI
 cases h : s.H.findIdx? Option.isNone with
 | some k =>
  have hobt := List.findIdx?_eq_some_iff_getElem.1 h
  obtain ⟨h1, h2, _⟩ := hobt
  refine .inl ⟨k, rfl, ?_⟩
  rw [List.getElem?_eq_getElem h1]
  cases hx : s.H[k] with
  | none => rfl
  | some a => rw [hx] at h2; cases h2
 | none =>
  rw [List.findIdx?_eq_none_iff] at h
  refine .inr ⟨rfl, fun a ha => ?_⟩
  have := h a ha
  cases a <;> simp_all
theorem VS.Sane.grab (sn : s.Sane) {i m : Nat} (hi : i < s.F.length) (hm : m ≤ 3) (hop : s.op < 64) : (s.grab i m).Sane := by
 have ok := sn.ok
 have hso := sn.op
 have key : ∀ H' : List HT, H'.length ≤ 64 → (H'.filter Option.isSome).length = s.op + 1 → (∀ a, some a ∈ H' → some a ∈ s.H ∨ a = (i, 0, m)) → ({ s with H := H', op := s.op + 1 } : VS).Sane := by
  intro H' h1 h2 h3
  refine ⟨⟨by show H'.length ≤ 1000; omega, ok.f, ok.d, ok.x, fun i' pl mo hm' => ?_, ok.qb, ok.qf, ok.qo, ok.by_, by show s.op + 1 ≤ 1000; omega⟩, sn.root, sn.cnt, sn.lim, sn.sum, h1, h2.symm, fun i' pl mo hm' => ?_⟩
  ·rcases h3 _ hm' with h | h
   ·exact ok.at_ i' pl mo h
   ·simp only [Prod.mk.injEq] at h
    obtain ⟨_, e2, e3⟩ := h
    rw [e2, e3]
    exact ⟨Nat.zero_le _, hm⟩
  ·rcases h3 _ hm' with h | h
   ·exact sn.fi i' pl mo h
   ·simp only [Prod.mk.injEq] at h
    rw [h.1]
    exact hi
 unfold VS.grab
 rcases slot_spec (s := s) with ⟨k, e, hk⟩ | ⟨e, ha⟩
 ·have hlt := (List.getElem?_eq_some_iff.1 hk).1
  rw [e, if_pos hlt]
  refine key _ (by rw [List.length_set]; exact sn.hl) (by rw [count_some hk, hso]) fun a h => ?_
  rcases List.mem_or_eq_of_mem_set h with h1 | h1
  ·exact .inl h1
  ·exact .inr (Option.some.inj h1)
 ·rw [e, if_neg (by omega)]
  have hf : s.H.filter Option.isSome = s.H := List.filter_eq_self.2 ha
  rw [hf] at hso
  refine key _ (by rw [List.length_append]; simp; omega) (by rw [List.filter_append, hf]; simp; omega) fun a h => ?_
  rcases List.mem_append.1 h with h1 | h1
  ·exact .inl h1
  ·exact .inr (Option.some.inj (List.mem_singleton.1 h1))
theorem open_keeps (sn : s.Sane) (t : s.Tree) (p : List UInt8) (mode : Int) : (s.open p mode).2.2.Sane ∧ (s.open p mode).2.2.Tree := by
 unfold VS.open
 split
 ·exact ⟨sn, t⟩
 rename_i hmode
 split
 ·exact ⟨sn, t⟩
 rename_i hce
 split
 ·exact ⟨sn, t⟩
 rename_i hq0
 split
 ·exact ⟨sn, t⟩
 rename_i hw0
 split
 ·exact ⟨sn, t⟩
 rename_i hmay
 have hobt : ∃ q, cleanS p = q := ⟨_, rfl⟩
 obtain ⟨q, hq⟩ := hobt
 have hcl : isCleanL q = true := by rw [← hq]; exact clean_isClean (Classical.byContradiction hce)
 rw [hq] at hq0 hw0 hmay
 rw [hq]
 have hobt : ∃ M ew, s.way (decide (4 ≤ mode)) (upsF [] q) [] = (M, ew) := ⟨_, _, rfl⟩
 obtain ⟨M, ew, hW⟩ := hobt
 rw [hW] at hw0 hmay
 rw [hW]
 obtain rfl : ew = 0 := Classical.byContradiction hw0
 have hmay : s.mayO q (s.file q) mode M = 0 := Classical.byContradiction hmay
 have hobt := clean_named hcl
 obtain ⟨h1, h2⟩ := hobt
 have hrow : partsL q ≠ [] := fun e => hq0 (partsL_nil e)
 have e1 : upsF [] q = upsR [] (partsL q) := by
  have := ups_join (partsL q) [] [] (fun x hx => isName_slash (h1 x hx)) (fun x => by simp [joinL_one])
  rw [joinL_partsL] at this
  exact this
 have hch := ups_chain (partsL q) [] (by simpa using h1) (by simpa using h2)
 have hlast := ups_last (partsL q) [] hrow
 have hucl := ups_clean (partsL q) [] (by simpa using h1) (by simpa using h2)
 rw [← e1] at hch hlast hucl
 have hj0 : joinL [] = [] := rfl
 rw [hj0] at hch hlast
 rw [List.nil_append] at hlast
 have epar : (splitR q).1 = joinL (partsL q).dropLast := by
  unfold splitR
  rw [hcl, if_neg (by simp), if_neg hrow]
 rw [← epar] at hlast
 have hMf := way_ok hW
 rw [List.nil_append] at hMf
 have hnof := way_nofile hW
 have hobt := miss_chain t hch fun u hu => (hucl u hu).2
 obtain ⟨prev', hc', hml, _⟩ := hobt
 rw [← hMf] at hc' hml
 have hobt := way_made hcl hq0 sn.root hW
 obtain ⟨hmade, hpar⟩ := hobt
 have hfst := way_first hcl hq0 sn.root hW
 have hobt : ∃ x, s.file q = x := ⟨_, rfl⟩
 obtain ⟨x, hx⟩ := hobt
 rw [hx] at hmay ⊢
 have ok := sn.ok
 have hqf := ok.qf
 have hqo := ok.qo
 have hdq : s.dir q = none := by
  unfold VS.mayO at hmay
  split at hmay
  ·cases hmay
  ·rename_i h
   cases hd : s.dir q with
   | none => rfl
   | some j => rw [hd] at h; exact absurd rfl h
 have hop : s.op < 64 := by
  unfold VS.mayO at hmay
  rw [hdq] at hmay
  split at hmay
  ·cases hmay
  ·split at hmay
   ·cases hmay
   ·split at hmay
    ·cases hmay
    ·split at hmay
     ·cases hmay
     ·omega
 have hm4 : mode.toNat % 4 ≤ 3 := by omega
 -- what put1 leaves
 have hput : (s.put1 q M x).1.Sane ∧ (s.put1 q M x).1.Tree ∧ (s.put1 q M x).2 < (s.put1 q M x).1.F.length ∧ (s.put1 q M x).1.op = s.op := by
  cases x with
  | some i =>
   have hqm : q ∈ s.F.map (·.1) := by
    unfold VS.file at hx
    have hobt := List.findIdx?_eq_some_iff_getElem.1 hx
    obtain ⟨g1, g2, _⟩ := hobt
    exact List.mem_map.2 ⟨s.F[i], List.getElem_mem g1, by simpa using g2⟩
   have hM0 : M = [] := by
    rcases hml with h | h
    ·exact h
    ·by_cases hM : M = []
     ·exact hM
     exfalso
     have hp := (t.cl q (.inr hqm) hq0).2
     rw [← hlast, ← h] at hp
     have hne : M.getLast? ≠ none := by simpa using hM
     have hobt := Option.ne_none_iff_exists'.1 hne
     obtain ⟨u, hu⟩ := hobt
     rw [hu, Option.getD_some] at hp
     have hum : u ∈ M := List.mem_of_getLast? hu
     rw [hMf] at hum
     have := (List.mem_filter.1 hum).2
     cases hd : s.dir u <;> simp_all
   subst hM0
   have hil : i < s.F.length := by
    unfold VS.file at hx
    exact (List.findIdx?_eq_some_iff_getElem.1 hx).1
   exact ⟨sn, t, hil, rfl⟩
  | none =>
   obtain ⟨m1, m2⟩ : (s.items : Int) + M.length + 1 ≤ s.qf ∧ ¬ 1024 ≤ s.below (splitR (firstL q M)).1 := by
    unfold VS.mayO at hmay
    rw [hdq] at hmay
    split at hmay
    ·cases hmay
    ·split at hmay
     ·cases hmay
     ·split at hmay
      ·cases hmay
      ·rename_i h
       exact ⟨Int.not_lt.1 fun h2 => h ⟨rfl, .inl h2⟩, fun h2 => h ⟨rfl, .inr h2⟩⟩
   have hroom := room_below hfst m2
   have hMall : ∀ u ∈ M, s.dir u = none ∧ s.file u = none ∧ isCleanL u = true ∧ u ≠ [] := fun u hu => by
    rw [hMf] at hu
    have hobt := List.mem_filter.1 hu
    obtain ⟨a1, a2⟩ := hobt
    refine ⟨?_, hnof u a1, (hucl u a1).1, (hucl u a1).2⟩
    cases hd : s.dir u <;> simp_all
   have hT : (M.foldl VS.addDir s).Tree ∧ (M.foldl VS.addDir s).room (splitR q).1 := by
    cases M with
    | nil => exact ⟨t, hroom⟩
    | cons d M =>
     have hpr : s.room prev' := by
      have : (splitR d).1 = prev' := hc'.1
      rw [← this]
      exact hroom
     have hobt := made_tree hc' t hpr hMall
     obtain ⟨g1, g2⟩ := hobt
     refine ⟨g1, ?_⟩
     rcases hml with h | h
     ·cases h
     ·rw [← hlast, ← h]
      rw [List.getLast?_cons, Option.getD_some] at g2 ⊢
      exact g2
   obtain ⟨hT1, j, n, hj, hjn, hn⟩ := hT
   have hqM : q ∉ M := fun h => by
    have h4 : q ∈ upsF [] q := by rw [hMf] at h; exact (List.mem_filter.1 h).1
    have h5 := ups_lt q [] q h4
    have h6 : ([] : List UInt8).length = 0 := rfl
    omega
   have hdq1 := fold_dir_none M s q hmade hdq hqM
   have hfq1 : (M.foldl VS.addDir s).file q = none := by rw [file_foldDir]; exact hx
   have hTF := hT1.addFile (x := []) hcl hq0 hj hjn hn hdq1 hfq1
   have hobt := file_addFile (x := []) (by rw [hj]; rfl) hfq1
   obtain ⟨n1, n2, n3⟩ := hobt
   have hobt := made_fold M s hmade sn.cnt
   obtain ⟨c1, c2, _, _⟩ := hobt
   have hobt := foldDir_F M s
   obtain ⟨f1, f2, f3, f4, f5, f6, f7⟩ := hobt
   have e : (M.foldl VS.addDir s).addFile q [] = { (M.foldl VS.addDir s).bump j with F := (M.foldl VS.addDir s).F ++ [(q, [])], by_ := (M.foldl VS.addDir s).by_ + ([] : List UInt8).length } := by unfold VS.addFile; rw [hj]
   have hDl : ((M.foldl VS.addDir s).addFile q []).D.length = s.D.length + M.length := by rw [e]; show ((M.foldl VS.addDir s).bump j).D.length = _; rw [bump_len, c2]
   have hFl : ((M.foldl VS.addDir s).addFile q []).F.length = s.F.length + 1 := by rw [n2, f1]; simp
   have hitm : s.items + 1 = s.F.length + s.D.length := by
    have hD1 : 0 < s.D.length := by
     have hobt := Option.isSome_iff_exists.1 sn.root
     obtain ⟨j, hj⟩ := hobt
     unfold VS.dir at hj
     have := (List.findIdx?_eq_some_iff_getElem.1 hj).1
     omega
    unfold VS.items
    omega
   have hlim : ((M.foldl VS.addDir s).addFile q []).F.length + ((M.foldl VS.addDir s).addFile q []).D.length ≤ 65536 := by omega
   have hHe : ((M.foldl VS.addDir s).addFile q []).H = s.H := by rw [e]; exact f3
   have hope : ((M.foldl VS.addDir s).addFile q []).op = s.op := by rw [e]; exact f4
   show ((M.foldl VS.addDir s).addFile q []).Sane ∧ ((M.foldl VS.addDir s).addFile q []).Tree ∧ (M.foldl VS.addDir s).F.length < ((M.foldl VS.addDir s).addFile q []).F.length ∧ ((M.foldl VS.addDir s).addFile q []).op = s.op
   refine ⟨⟨⟨by rw [hHe]; exact ok.h, by omega, by omega, fun y hy => ?_, fun i' pl mo hm => by rw [hHe] at hm; exact ok.at_ i' pl mo hm, by rw [e]; show _ ≤ (M.foldl VS.addDir s).qb ∧ (M.foldl VS.addDir s).qb ≤ _; rw [f5]; exact ok.qb, by rw [e]; show _ ≤ (M.foldl VS.addDir s).qf ∧ (M.foldl VS.addDir s).qf ≤ _; rw [f6]; exact ok.qf, by rw [e]; show _ ≤ (M.foldl VS.addDir s).qo ∧ (M.foldl VS.addDir s).qo ≤ _; rw [f7]; exact ok.qo, by rw [n3, f2]; exact ok.by_, by rw [hope]; exact ok.op⟩, ?_, fun y hy => ?_, hlim, ?_, by rw [hHe]; exact sn.hl, by rw [hope, hHe]; exact sn.op, fun i' pl mo hm => by rw [hHe] at hm; have := sn.fi i' pl mo hm; omega⟩, hTF, ?_, hope⟩
   ·rw [n2, f1] at hy
    rcases List.mem_append.1 hy with h | h
    ·exact ok.x y h
    ·rw [List.mem_singleton.1 h]; exact Nat.zero_le _
   ·rw [e]
    show (((M.foldl VS.addDir s).bump j).dir []).isSome
    rw [dir_bump]
    exact (made_fold M s hmade sn.cnt).2.2.1 [] sn.root
   ·show y.2 ≤ ((M.foldl VS.addDir s).addFile q []).D.length + ((M.foldl VS.addDir s).addFile q []).F.length
    rw [hDl, hFl]
    rw [e] at hy
    have hobt := bump_mem hy
    obtain ⟨y0, b1, _, b2⟩ := hobt
    have := c1 y0 b1
    rw [c2, f1] at this
    omega
   ·rw [n3, n2, f1, f2, sn.sum]
    simp
   ·show (M.foldl VS.addDir s).F.length < ((M.foldl VS.addDir s).addFile q []).F.length
    rw [hFl, f1]
    omega
 have hobt : ∃ a, s.put1 q M x = a := ⟨_, rfl⟩
 obtain ⟨a, ha⟩ := hobt
 rw [ha] at hput ⊢
 obtain ⟨p1, p2, p3, p4⟩ := hput
 have hcut : (a.1.cutI mode.toNat a.2).Sane ∧ (a.1.cutI mode.toNat a.2).Tree ∧ a.2 < (a.1.cutI mode.toNat a.2).F.length ∧ (a.1.cutI mode.toNat a.2).op = s.op := by
  unfold VS.cutI
  split
  ·exact ⟨p1.trunc p3, p2.of rfl (trunc_fst p3), by show a.2 < (a.1.F.set a.2 _).length; rw [List.length_set]; exact p3, p4⟩
  ·exact ⟨p1, p2, p3, p4⟩
 obtain ⟨c1, c2, c3, c4⟩ := hcut
 exact ⟨c1.grab c3 hm4 (by rw [c4]; exact hop), c2.of rfl rfl⟩
end
end Go.Gx
