/- Trees checked: tree.Check, the walk. Files out of a tree: in plain words. No program in sight. -/
import Derived.Test.YtepaojbhjgefiaaGreatDoorVt1
import Derived.Test.YtepaojbhjgefiaaGreatDoorC1
import Derived.Test.YtepaojbhjgefiaaGreatDoorC5
set_option linter.unusedVariables false
set_option linter.unusedSimpArgs false
/-! Vt2 -/
namespace Go.Gx
open Go.Proofs Go.Proofs.Tryz
set_option maxRecDepth 100000
section
variable {P : Program} {f : Slots} {w : World} {dd : Option Tmp} {ty : TypeId} {pos : String} {af : Array Edge} {x y : Operand} {T T' K E : TypeId} {M : List SEnt} {d : List UInt8} {r clock : Nat} {z u : Value} {b : Bool}
theorem run_lookupS2E (ht : P.underlying T = some (.map K E)) (hK : P.underlying K = some .string) (hz : (zeroValue E).run P w = .ok z w) (hu : ((findS d M 0).map (·.2)).getD z = u) (hbv : (findS d M 0).isSome = b) (hx : ev f x = .map (some r)) (hy : ev f y = str d) (hb : w.heap[r]? = some (mapS M clock)) :
  (execOp (ev f) ⟨dd, .lookup T x y true, ty, pos, af, none⟩).run P w = .ok (.value (.tuple #[u, .bool b])) w := by
 rw [← hu, ← hbv]
 exact run_lookupS2 ht hK hz hx hy hb
end
theorem zInt (w : World) : (zeroValue 3).run Tryz.prog w = .ok (.int .i64 0) w := by kernel_rfl
def its (l : List It) : List Value := l.flatMap fun x => itC x.p x.d x.v
structure It.Ok (w : World) (x : It) : Prop where
 hb : Sl w 1 x.v x.x.length (u8s x.x)
 lp : x.p.length ≤ 9223372036854775807
 lb : x.x.length ≤ 9223372036854775807
/-- Items as a value. -/
structure Its (w : World) (v : Value) (l : List It) : Prop where
 sl : Sl w 3 v l.length (its l)
 ok : ∀ x ∈ l, x.Ok w
 len : l.length ≤ 9223372036854775807
theorem its_len : ∀ l : List It, (its l).length = l.length * 3
 | [] => rfl
 | x :: l => by
  have h2 := its_len l
  rw [its] at h2
  rw [its, List.flatMap_cons, List.length_append, h2, List.length_cons]
  show 3 + l.length * 3 = _
  omega
theorem its_at : ∀ {l : List It} (i j : Nat) (h : i < l.length), j < 3 → (its l)[i * 3 + j]? = (itC l[i].p l[i].d l[i].v)[j]?
 | x :: l, 0, j, _, hj => by
  rw [its, List.flatMap_cons, Nat.zero_mul, Nat.zero_add, List.getElem?_append_left (by show j < 3; exact hj)]
  rfl
 | x :: l, i + 1, j, h, hj => by
  have h3 : (itC x.p x.d x.v).length = 3 := rfl
  rw [its, List.flatMap_cons, List.getElem?_append_right (by rw [h3]; omega), h3, show (i + 1) * 3 + j - 3 = i * 3 + j by omega]
  have h2 := its_at (l := l) i j (by simpa using h) hj
  simpa [its] using h2
theorem Its.at {w : World} {v : Value} {l : List It} (h : Its w v l) {i : Nat} {x : It} (hx : l[i]? = some x) : ∃ b off c, v = .slice (some ⟨b, off, none⟩) l.length c ∧ At w b (off + i * 3) (itC x.p x.d x.v) := by
 have hobt := List.getElem?_eq_some_iff.1 hx
 obtain ⟨hlt, rfl⟩ := hobt
 have hobt := h.sl
 obtain ⟨hl, ⟨a, c, hc, h1⟩ | ⟨b, off, c, hc, hat⟩⟩ := hobt
 ·omega
 ·refine ⟨b, off, c, hc, fun j v hj => ?_⟩
  have hj3 : j < 3 := (List.getElem?_eq_some_iff.1 hj).1
  have h1 := its_at i j hlt hj3
  rw [Nat.add_assoc]
  exact hat _ _ (h1.trans hj)
theorem Its.cell {w : World} {l : List It} {b off c : Nat} (h : Its w (.slice (some ⟨b, off, none⟩) l.length c) l) {i : Nat} {x : It} (hx : l[i]? = some x) : At w b (off + i * 3) (itC x.p x.d x.v) := by
 have hobt := h.at hx
 obtain ⟨b', off', c', he, hat⟩ := hobt
 cases he
 exact hat
theorem It.cells1 {w : World} {x : It} (h : x.Ok w) : Cells1 (itC x.p x.d x.v) := by
 intro v hv
 simp only [itC, List.mem_cons, List.not_mem_nil, or_false] at hv
 have hobt := h.hb.form
 obtain ⟨a, c, he⟩ := hobt
 rcases hv with rfl | rfl | rfl
 ·rfl
 ·rfl
 ·rw [he]; rfl
theorem split_ok {p : List UInt8} (h : (splitR p).2.2 = 0) : isCleanL p = true ∧ p ≠ [] := by
 unfold splitR at h
 split at h
 ·cases h
 ·rename_i h1
  split at h
  ·cases h
  ·rename_i h2
   exact ⟨by simpa using h1, fun h3 => h2 (by rw [h3]; rfl)⟩
theorem chk_drop {D : DL} {prev : Option (List UInt8)} {l : List It} {i : Nat} {x : It} (hx : l[i]? = some x) : chkGo D prev (l.drop i) = match chkStep D prev x with | none => none | some D' => chkGo D' (some x.p) (l.drop (i + 1)) := by
 have hobt := List.getElem?_eq_some_iff.1 hx
 obtain ⟨hlt, he⟩ := hobt
 rw [List.drop_eq_getElem_cons hlt, he, chkGo]
 cases chkStep D prev x <;> rfl
theorem sum_step {l : List It} {i : Nat} {x : It} (hx : l[i]? = some x) : sumL (l.take (i + 1)) = sumL (l.take i) + x.x.length := by
 have hobt := List.getElem?_eq_some_iff.1 hx
 obtain ⟨hlt, he⟩ := hobt
 rw [← List.take_append_getElem hlt, he]
 simp [sumL]
set_option maxHeartbeats 8000000 in
theorem check_spec {v : Value} {l : List It} (w0 : World) (hg : Gl w0) (hl : Its w0 v l) : Calls Tryz.prog 43 #[v] w0 (Ret0 (.int .i64 (chkE l)) w0) := by
 have hs : Step [] [] w0 w0 := Step.refl w0
 have hll := hl.len
 have hobt := hl.sl.form
 obtain ⟨av, cv, rfl⟩ := hobt
 by_cases hbig : 65536 ≤ l.length
 ·rw [show chkE l = 64 from if_pos hbig]
  refine calls (n := 96) Tryz.func43 rfl rfl rfl ?_
  refine cQ <| cR <| wa rfl <| wZ <| cQ <| cQ <| cR <| wm rfl <| wV rfl (run_lenSl underlying22 rfl) <| wV rfl (run_bT (run_geq rfl rfl) (by omega)) <| wZ ?_
  refine cC rfl (fun h => ?_) (fun h => ?_)
  ·refine cQ <| cR <| wa rfl <| wZ ?_
   refine CW.ret ?_
   refine fin_ret1 rfl ?_
   exact ⟨rfl, hs⟩
  ·cases h
 have hE : chkE l = match chkGo [([], 0)] none l with | none => 64 | some _ => if 67108864 < sumL l then 64 else 0 := if_neg hbig
 refine calls (n := 96) Tryz.func43 rfl rfl rfl ?_
 refine cQ <| cR <| wa rfl <| wZ <| cQ <| cQ <| cR <| wm rfl <| wV rfl (run_lenSl underlying22 rfl) <| wV rfl (run_bF (run_geq rfl rfl) (by omega)) <| wZ ?_
 refine cC rfl (fun h => ?_) (fun h => ?_)
 ·cases h
 repeat (first | refine cQ ?_ | refine cK ?_)
 refine cR ?_
 refine WL.makeMapS rfl hs (fun b15 w hs => ?_)
 refine WL.mapInsS (d := []) underlying129 underlying9 rfl rfl rfl (hs) (fun w hs => ?_)
 refine wm rfl <| wa rfl <| wZ <| cQ <| cR <| wa rfl <| wZ <| cQ <| cQ <| cR <| wm rfl <| wV rfl (run_lenSl underlying22 rfl) <| wm rfl <| wZ <| CW.block ?_
 refine CW.loop (fun z f w => ∃ i D prev, i ≤ l.length ∧ z = l.length - i ∧ chkGo [([], 0)] none l = chkGo D prev (l.drop i) ∧ (i = 0 → prev = none) ∧ (∀ k, i = k + 1 → ∃ x, l[k]? = some x ∧ prev = some x.p ∧ x.p.length ≤ 2080) ∧ sumL (l.take i) ≤ i * 1048576 ∧ Step [] [(b15, mapS (entN D 0) D.length)] w0 w ∧ Holds f [(0, .slice av l.length cv), (3, .map (some b15)), (4, .int .i64 (sumL (l.take i) : Nat)), (17, .slice av l.length cv), (18, .int .i64 l.length), (19, .int .i64 i)]) (m := l.length) ?_ ?_
 ·exact ⟨0, [([], 0)], none, by omega, by omega, rfl, fun _ => rfl, fun k hk => (by omega), by simp [sumL], hs, rfl, rfl, rfl, rfl, rfl, rfl, trivial⟩
 clear hs
 rintro z f w ⟨i, D, prev, hi, rfl, hgo, hp0, hp1, hsum, hs, hf⟩
 have hobt := hf.chain
 obtain ⟨g, rfl⟩ := hobt
 by_cases hlt : i < l.length
 ·have hobt : ∃ x, l[i]? = some x := ⟨_, List.getElem?_eq_getElem hlt⟩
  obtain ⟨x, hx⟩ := hobt
  have hxo := hl.ok x (List.mem_of_getElem? hx)
  have hxc := It.cells1 hxo
  have hobt := hl.at hx
  obtain ⟨bl, ol, cl, hc0, hat⟩ := hobt
  injection hc0 with hc0 hc1 hc2
  subst hc0
  have hst := sum_step hx
  rw [chk_drop hx] at hgo
  obtain ⟨p, dd, v, xb⟩ := x
  have hobt := hxo.hb.form
  obtain ⟨ax, cx, hvx⟩ := hobt
  have hvx : v = .slice ax xb.length cx := hvx
  subst hvx
  have hlp : p.length ≤ 9223372036854775807 := hxo.lp
  have hlb : xb.length ≤ 9223372036854775807 := hxo.lb
  have hobt : ∃ up nm e, splitR p = (up, nm, e) := ⟨_, _, _, rfl⟩
  obtain ⟨up, nm, e, hsp⟩ := hobt
  have hsplit := fun {w} hg => splitP_spec (p := p) w hg hlp
  simp only [hsp] at hsplit
  have hplen : e = 0 → p.length ≤ 2080 := fun h => clean_len (split_ok (by rw [hsp]; exact h)).1
  have hstep : chkStep D prev ⟨p, dd, .slice ax xb.length cx, xb⟩ = if e ≠ 0 then none else match lookN up D with
   | none => none
   | some n => if 1024 ≤ n then none else if prev.any (fun q => !lessP q p) then none else if dd = true ∧ 0 < xb.length then none else if 1048576 < xb.length then none else some (if dd = true then putN p 0 (putN up (n + 1) D) else putN up (n + 1) D) := by
   unfold chkStep
   rw [hsp]
   rfl
  have hnone : chkStep D prev ⟨p, dd, .slice ax xb.length cx, xb⟩ = none → chkE l = 64 := fun h => by
   rw [h] at hgo
   rw [hgo] at hE
   exact hE
  obtain ⟨n, bt, hval, hbt, hlk⟩ : ∃ (n : Nat) (bt : Bool), ((findS up (entN D 0) 0).map (·.2)).getD (.int .i64 0) = .int .i64 (n : Nat) ∧ (findS up (entN D 0) 0).isSome = bt ∧ (bt = false ∧ lookN up D = none ∨ bt = true ∧ lookN up D = some n) := by
   cases h : lookN up D with
   | none => exact ⟨0, false, by rw [find_entN, h]; rfl, by rw [find_some, h]; rfl, .inl ⟨rfl, rfl⟩⟩
   | some n => exact ⟨n, true, by rw [find_entN, h]; rfl, by rw [find_some, h]; rfl, .inr ⟨rfl, rfl⟩⟩
  have hwrap : xb.length ≤ 1048576 → Value.int .i64 (IntKind.i64.wrap (((sumL (l.take i) : Nat) : Int) + (xb.length : Nat))) = .int .i64 ((sumL (l.take (i + 1)) : Nat) : Int) := fun h => by
   have h2 : sumL (l.take (i + 1)) = sumL (l.take i) + xb.length := hst
   rw [wrap_i64 (by omega), h2]
   exact congrArg (Value.int .i64) (by omega)
  have hst : sumL (l.take (i + 1)) = sumL (l.take i) + xb.length := hst
  have hdb : dd = true ∨ dd = false := by cases dd <;> simp
  refine cQ <| cR <| wV rfl (run_bT (run_lss rfl rfl) (by omega)) <| wZ <| cQ ?_
  refine cC rfl (fun h => ?_) (fun h => ?_)
  ·repeat (first | refine cQ ?_ | refine CW.block ?_ | refine cK ?_)
   refine cR <| wm rfl <| wV rfl (run_ixSlN underlying22 ty56 rfl rfl (by omega)) <| wV rfl (run_loadN ty56 rfl rfl (hat.step hs (by simp))) ?_
   refine WL.alloc ty56 rfl hs (fun b6 w hs => ?_)
   refine wa rfl ?_
   refine WL.storeAll ty56 rfl rfl ((rfl)) (hxc) hs (by first | rfl | assumption) (fun w hs => ?_)
   refine wZ <| cQ <| cR <| wV rfl (run_field (o' := 0) underlying56 rfl ty9 rfl rfl rfl) <| wV rfl (run_load1 ty9 rfl (hs.c0 (v := str p) rfl)) ?_
   refine wE rfl (run_call en70 rfl rfl) (hsplit (hg.stepS hs (by simp))) ?_
   rintro e w ⟨rfl, hq⟩
   refine ⟨_, rfl, ?_⟩
   replace hs := hs.callE hq
   refine wm rfl <| wx rfl rfl rfl <| wx rfl rfl rfl <| wx rfl rfl rfl <| wa rfl <| wa rfl <| wa rfl <| wZ <| cQ <| cR <| wm rfl <| wm rfl <| wV rfl (run_lookupS2E underlying129 underlying9 (zInt _) hval hbt rfl rfl hs.tail.hd) <| wm rfl <| wx rfl rfl rfl <| wx rfl rfl rfl <| wa rfl <| wa rfl <| wZ <| cQ <| cR <| wm rfl <| wV rfl (run_field (o' := 2) underlying56 rfl ty38 rfl rfl rfl) <| wV rfl (run_load1 ty38 rfl (hs.c0 (v := .slice ax xb.length cx) rfl)) <| wV rfl (run_lenSl underlying38 rfl) <| wV rfl (run_addW rfl rfl) <| wa rfl <| wZ ?_
   by_cases he : e ≠ 0
   ·have hbad : chkE l = 64 := hnone (by rw [hstep, if_pos he])
    refine cQ <| cQ ?_
    refine CW.quiet mixedP (by kernel_rfl) hs ?_
    refine qm rfl <| qV rfl (fun w hs => run_bT (run_neq rfl rfl) (by exact he)) <| qm rfl <| QL.no rfl rfl rfl (.inl rfl) <| QL.no rfl rfl rfl (.inl rfl) <| qV rfl (fun w hs => run_pickT rfl) <| qm rfl <| QL.no rfl rfl rfl (.inl rfl) <| QL.no rfl rfl rfl (.inl rfl) <| qV rfl (fun w hs => run_pickT rfl) <| qm rfl <| QL.no rfl rfl rfl (.inl rfl) <| QL.no rfl rfl rfl (.inl rfl) <| QL.no rfl rfl rfl (.inl rfl) ?_
    refine QL.no rfl rfl rfl (.inr rfl) <| QL.no rfl rfl rfl (.inr rfl) <| QL.no rfl rfl rfl (.inr rfl) <| QL.no rfl rfl rfl (.inr rfl) <| QL.no rfl rfl rfl (.inr rfl) <| QL.no rfl rfl rfl (.inr rfl) <| QL.no rfl rfl rfl (.inr rfl) <| QL.no rfl rfl rfl (.inr rfl) <| QL.no rfl rfl rfl (.inr rfl) <| QL.no rfl rfl rfl (.inr rfl) <| QL.no rfl rfl rfl (.inl rfl) <| qV rfl (fun w hs => run_pickT rfl) <| qm rfl <| QL.no rfl rfl rfl (.inl rfl) ?_
    refine QL.no rfl rfl rfl (.inl rfl) <| QL.no rfl rfl rfl (.inl rfl) <| QL.no rfl rfl rfl (.inr rfl) <| QL.no rfl rfl rfl (.inr rfl) <| QL.no rfl rfl rfl (.inr rfl) <| QL.no rfl rfl rfl (.inr rfl) <| QL.no rfl rfl rfl (.inl rfl) <| qV rfl (fun w hs => run_pickT rfl) <| qm rfl <| QL.no rfl rfl rfl (.inl rfl) <| QL.no rfl rfl rfl (.inl rfl) <| QL.no rfl rfl rfl (.inl rfl) <| QL.no rfl rfl rfl (.inl rfl) <| qV rfl (fun w hs => run_pickT rfl) ?_
    refine QL.nil (fun w hs => ?_)
    refine cC rfl (fun h => ?_) (fun h => ?_)
    ·refine cQ <| cR <| wa rfl <| wZ ?_
     refine CW.ret ?_
     refine fin_ret1 rfl ?_
     exact ⟨congrArg (fun b => Ending.returned (.int .i64 b)) hbad.symm, hs.clear⟩
    ·cases h
   have he : e = 0 := Classical.byContradiction he
   rw [if_neg (fun h => h he)] at hstep
   have hlast : ∀ k, i + 1 = k + 1 → ∃ x : It, l[k]? = some x ∧ some p = some x.p ∧ x.p.length ≤ 2080 := fun k hk => ⟨⟨p, dd, .slice ax xb.length cx, xb⟩, by rw [show k = i by omega]; exact hx, rfl, hplen he⟩
   rcases hlk with ⟨rfl, hlk⟩ | ⟨rfl, hlk⟩
   ·have hbad : chkE l = 64 := hnone (by rw [hstep, hlk])
    refine cQ <| cQ ?_
    refine CW.quiet mixedP (by kernel_rfl) hs ?_
    refine qm rfl <| qV rfl (fun w hs => run_bF (run_neq rfl rfl) (by exact fun h => h he)) <| qm rfl <| QL.yes rfl rfl rfl <| qm rfl ?_
    refine QL.yes rfl rfl rfl ?_; (first | refine qV rfl (fun w hs => run_notB rfl) ?_ | refine qV rfl (fun w hs => run_not rfl) ?_)
    refine qV rfl (fun w hs => run_pickF rfl) <| qm rfl <| QL.no rfl rfl rfl (.inl rfl) <| QL.no rfl rfl rfl (.inl rfl) <| qV rfl (fun w hs => run_pickT rfl) <| qm rfl <| QL.no rfl rfl rfl (.inl rfl) <| QL.no rfl rfl rfl (.inl rfl) <| QL.no rfl rfl rfl (.inl rfl) <| QL.no rfl rfl rfl (.inr rfl) <| QL.no rfl rfl rfl (.inr rfl) <| QL.no rfl rfl rfl (.inr rfl) <| QL.no rfl rfl rfl (.inr rfl) <| QL.no rfl rfl rfl (.inr rfl) ?_
    refine QL.no rfl rfl rfl (.inr rfl) <| QL.no rfl rfl rfl (.inr rfl) <| QL.no rfl rfl rfl (.inr rfl) <| QL.no rfl rfl rfl (.inr rfl) <| QL.no rfl rfl rfl (.inr rfl) <| QL.no rfl rfl rfl (.inl rfl) <| qV rfl (fun w hs => run_pickT rfl) <| qm rfl <| QL.no rfl rfl rfl (.inl rfl) <| QL.no rfl rfl rfl (.inl rfl) <| QL.no rfl rfl rfl (.inl rfl) <| QL.no rfl rfl rfl (.inr rfl) <| QL.no rfl rfl rfl (.inr rfl) <| QL.no rfl rfl rfl (.inr rfl) ?_
    refine QL.no rfl rfl rfl (.inr rfl) <| QL.no rfl rfl rfl (.inl rfl) <| qV rfl (fun w hs => run_pickT rfl) <| qm rfl <| QL.no rfl rfl rfl (.inl rfl) <| QL.no rfl rfl rfl (.inl rfl) <| QL.no rfl rfl rfl (.inl rfl) <| QL.no rfl rfl rfl (.inl rfl) <| qV rfl (fun w hs => run_pickT rfl) ?_
    refine QL.nil (fun w hs => ?_)
    refine cC rfl (fun h => ?_) (fun h => ?_)
    ·refine cQ <| cR <| wa rfl <| wZ ?_
     refine CW.ret ?_
     refine fin_ret1 rfl ?_
     exact ⟨congrArg (fun b => Ending.returned (.int .i64 b)) hbad.symm, hs.clear⟩
    ·cases h
   rw [hlk] at hstep
   simp only at hstep
   by_cases hn : 1024 ≤ n
   ·have hbad : chkE l = 64 := hnone (by rw [hstep, if_pos hn])
    refine cQ <| cQ ?_
    refine CW.quiet mixedP (by kernel_rfl) hs ?_
    refine qm rfl <| qV rfl (fun w hs => run_bF (run_neq rfl rfl) (by exact fun h => h he)) <| qm rfl <| QL.yes rfl rfl rfl <| qm rfl ?_
    refine QL.yes rfl rfl rfl ?_; (first | refine qV rfl (fun w hs => run_notB rfl) ?_ | refine qV rfl (fun w hs => run_not rfl) ?_)
    refine qV rfl (fun w hs => run_pickF rfl) <| qm rfl <| QL.yes rfl rfl rfl <| qm rfl <| QL.yes rfl rfl rfl <| qV rfl (fun w hs => run_bT (run_geq rfl rfl) (by omega)) <| qV rfl (fun w hs => run_pickF rfl) <| qm rfl <| QL.no rfl rfl rfl (.inl rfl) <| QL.no rfl rfl rfl (.inl rfl) <| QL.no rfl rfl rfl (.inl rfl) <| QL.no rfl rfl rfl (.inr rfl) <| QL.no rfl rfl rfl (.inr rfl) <| QL.no rfl rfl rfl (.inr rfl) ?_
    refine QL.no rfl rfl rfl (.inr rfl) <| QL.no rfl rfl rfl (.inr rfl) <| QL.no rfl rfl rfl (.inr rfl) <| QL.no rfl rfl rfl (.inr rfl) <| QL.no rfl rfl rfl (.inr rfl) <| QL.no rfl rfl rfl (.inr rfl) <| QL.no rfl rfl rfl (.inr rfl) <| QL.no rfl rfl rfl (.inl rfl) <| qV rfl (fun w hs => run_pickT rfl) <| qm rfl <| QL.no rfl rfl rfl (.inl rfl) <| QL.no rfl rfl rfl (.inl rfl) <| QL.no rfl rfl rfl (.inl rfl) <| QL.no rfl rfl rfl (.inr rfl) ?_
    refine QL.no rfl rfl rfl (.inr rfl) <| QL.no rfl rfl rfl (.inr rfl) <| QL.no rfl rfl rfl (.inr rfl) <| QL.no rfl rfl rfl (.inl rfl) <| qV rfl (fun w hs => run_pickT rfl) <| qm rfl <| QL.no rfl rfl rfl (.inl rfl) <| QL.no rfl rfl rfl (.inl rfl) <| QL.no rfl rfl rfl (.inl rfl) <| QL.no rfl rfl rfl (.inl rfl) <| qV rfl (fun w hs => run_pickT rfl) ?_
    refine QL.nil (fun w hs => ?_)
    refine cC rfl (fun h => ?_) (fun h => ?_)
    ·refine cQ <| cR <| wa rfl <| wZ ?_
     refine CW.ret ?_
     refine fin_ret1 rfl ?_
     exact ⟨congrArg (fun b => Ending.returned (.int .i64 b)) hbad.symm, hs.clear⟩
    ·cases h
   rw [if_neg hn] at hstep
   by_cases hi0 : i = 0
   ·have hpn := hp0 hi0
    have hstep2 : prev.any (fun q => !lessP q p) = false := by rw [hpn]; rfl
    rw [if_neg (by rw [hstep2]; simp)] at hstep
    rcases hdb with hdd | hdd
    ·by_cases hl0 : 0 < xb.length
     ·have hbad : chkE l = 64 := hnone (by rw [hstep, if_pos ⟨hdd, hl0⟩])
      refine cQ <| cQ ?_
      refine CW.quiet mixedP (by kernel_rfl) hs ?_
      refine qm rfl <| qV rfl (fun w hs => run_bF (run_neq rfl rfl) (by exact fun h => h he)) <| qm rfl <| QL.yes rfl rfl rfl <| qm rfl ?_
      refine QL.yes rfl rfl rfl ?_; (first | refine qV rfl (fun w hs => run_notB rfl) ?_ | refine qV rfl (fun w hs => run_not rfl) ?_)
      refine qV rfl (fun w hs => run_pickF rfl) <| qm rfl <| QL.yes rfl rfl rfl <| qm rfl <| QL.yes rfl rfl rfl <| qV rfl (fun w hs => run_bF (run_geq rfl rfl) (by omega)) <| qV rfl (fun w hs => run_pickF rfl) <| qm rfl <| QL.yes rfl rfl rfl <| qm rfl <| QL.yes rfl rfl rfl <| qV rfl (fun w hs => run_bF (run_gtr rfl rfl) (by omega)) <| QL.yes rfl rfl rfl <| qm rfl ?_
      refine QL.no rfl rfl rfl (.inl rfl) <| QL.no rfl rfl rfl (.inl rfl) <| QL.no rfl rfl rfl (.inl rfl) <| QL.no rfl rfl rfl (.inl rfl) <| QL.no rfl rfl rfl (.inl rfl) <| QL.no rfl rfl rfl (.inl rfl) <| QL.no rfl rfl rfl (.inl rfl) <| QL.no rfl rfl rfl (.inl rfl) <| QL.no rfl rfl rfl (.inl rfl) <| QL.no rfl rfl rfl (.inl rfl) ?_
      refine QL.yes rfl rfl rfl ?_; (first | refine qV rfl (fun w hs => run_pickT rfl) ?_ | refine qV rfl (fun w hs => run_pickF rfl) ?_)
      refine qV rfl (fun w hs => run_pickF rfl) <| qm rfl <| QL.yes rfl rfl rfl <| qV rfl (fun w hs => run_field (o' := 1) underlying56 rfl ty4 rfl rfl rfl) <| QL.yes rfl rfl rfl ?_
      refine qV rfl (fun w hs => run_load1 ty4 rfl (hs.c0 (v := .bool true) (by rw [hdd]; rfl))) ?_
      refine QL.yes rfl rfl rfl <| qm rfl <| QL.yes rfl rfl rfl <| qV rfl (fun w hs => run_field (o' := 2) underlying56 rfl ty38 rfl rfl rfl) <| QL.yes rfl rfl rfl <| qV rfl (fun w hs => run_load1 ty38 rfl (hs.c0 (v := .slice ax xb.length cx) rfl)) <| QL.yes rfl rfl rfl <| qV rfl (fun w hs => run_lenSl underlying38 rfl) <| QL.yes rfl rfl rfl <| qV rfl (fun w hs => run_bT (run_gtr rfl rfl) (by omega)) ?_
      refine QL.yes rfl rfl rfl ?_; (first | refine qV rfl (fun w hs => run_pickT rfl) ?_ | refine qV rfl (fun w hs => run_pickF rfl) ?_)
      refine qV rfl (fun w hs => run_pickF rfl) <| qm rfl <| QL.no rfl rfl rfl (.inl rfl) <| QL.no rfl rfl rfl (.inl rfl) <| QL.no rfl rfl rfl (.inl rfl) <| QL.no rfl rfl rfl (.inl rfl) <| qV rfl (fun w hs => run_pickT rfl) ?_
      refine QL.nil (fun w hs => ?_)
      refine cC rfl (fun h => ?_) (fun h => ?_)
      ·refine cQ <| cR <| wa rfl <| wZ ?_
       refine CW.ret ?_
       refine fin_ret1 rfl ?_
       exact ⟨congrArg (fun b => Ending.returned (.int .i64 b)) hbad.symm, hs.clear⟩
      ·cases h
     have hstep3 := hstep
     rw [if_neg (fun h => hl0 h.2), if_neg (by omega)] at hstep3
     rw [hstep3] at hgo
     clear hstep3
     have hstep3 := hgo
     refine cQ <| cQ ?_
     refine CW.quiet mixedP (by kernel_rfl) hs ?_
     refine qm rfl <| qV rfl (fun w hs => run_bF (run_neq rfl rfl) (by exact fun h => h he)) <| qm rfl <| QL.yes rfl rfl rfl <| qm rfl ?_
     refine QL.yes rfl rfl rfl ?_; (first | refine qV rfl (fun w hs => run_notB rfl) ?_ | refine qV rfl (fun w hs => run_not rfl) ?_)
     refine qV rfl (fun w hs => run_pickF rfl) <| qm rfl <| QL.yes rfl rfl rfl <| qm rfl <| QL.yes rfl rfl rfl <| qV rfl (fun w hs => run_bF (run_geq rfl rfl) (by omega)) <| qV rfl (fun w hs => run_pickF rfl) <| qm rfl <| QL.yes rfl rfl rfl <| qm rfl <| QL.yes rfl rfl rfl <| qV rfl (fun w hs => run_bF (run_gtr rfl rfl) (by omega)) <| QL.yes rfl rfl rfl <| qm rfl ?_
     refine QL.no rfl rfl rfl (.inl rfl) <| QL.no rfl rfl rfl (.inl rfl) <| QL.no rfl rfl rfl (.inl rfl) <| QL.no rfl rfl rfl (.inl rfl) <| QL.no rfl rfl rfl (.inl rfl) <| QL.no rfl rfl rfl (.inl rfl) <| QL.no rfl rfl rfl (.inl rfl) <| QL.no rfl rfl rfl (.inl rfl) <| QL.no rfl rfl rfl (.inl rfl) <| QL.no rfl rfl rfl (.inl rfl) ?_
     refine QL.yes rfl rfl rfl ?_; (first | refine qV rfl (fun w hs => run_pickT rfl) ?_ | refine qV rfl (fun w hs => run_pickF rfl) ?_)
     refine qV rfl (fun w hs => run_pickF rfl) <| qm rfl <| QL.yes rfl rfl rfl <| qV rfl (fun w hs => run_field (o' := 1) underlying56 rfl ty4 rfl rfl rfl) <| QL.yes rfl rfl rfl ?_
     refine qV rfl (fun w hs => run_load1 ty4 rfl (hs.c0 (v := .bool true) (by rw [hdd]; rfl))) ?_
     refine QL.yes rfl rfl rfl <| qm rfl <| QL.yes rfl rfl rfl <| qV rfl (fun w hs => run_field (o' := 2) underlying56 rfl ty38 rfl rfl rfl) <| QL.yes rfl rfl rfl <| qV rfl (fun w hs => run_load1 ty38 rfl (hs.c0 (v := .slice ax xb.length cx) rfl)) <| QL.yes rfl rfl rfl <| qV rfl (fun w hs => run_lenSl underlying38 rfl) <| QL.yes rfl rfl rfl <| qV rfl (fun w hs => run_bF (run_gtr rfl rfl) (by omega)) ?_
     refine QL.yes rfl rfl rfl ?_; (first | refine qV rfl (fun w hs => run_pickT rfl) ?_ | refine qV rfl (fun w hs => run_pickF rfl) ?_)
     refine qV rfl (fun w hs => run_pickF rfl) <| qm rfl <| QL.yes rfl rfl rfl <| qV rfl (fun w hs => run_field (o' := 2) underlying56 rfl ty38 rfl rfl rfl) <| QL.yes rfl rfl rfl <| qV rfl (fun w hs => run_load1 ty38 rfl (hs.c0 (v := .slice ax xb.length cx) rfl)) <| QL.yes rfl rfl rfl <| qV rfl (fun w hs => run_lenSl underlying38 rfl) <| QL.yes rfl rfl rfl <| qV rfl (fun w hs => run_bF (run_gtr rfl rfl) (by omega)) <| qV rfl (fun w hs => run_pickF rfl) ?_
     refine QL.nil (fun w hs => ?_)
     refine cC rfl (fun h => ?_) (fun h => ?_)
     ·cases h
     repeat (first | refine cQ ?_ | refine cK ?_)
     refine cR <| wm rfl <| wm rfl <| wV rfl (run_lookupSE underlying129 underlying9 (zInt _) (hval) rfl rfl (hs.tail.hd)) <| wV rfl (run_add (c := ((n + 1 : Nat) : Int)) rfl rfl (by omega) (by omega)) ?_
     refine WL.mapPutS underlying129 underlying9 rfl rfl rfl ((hs.swap)) (fun w hs => ?_)
     refine wZ ?_
     replace hs : Step [] [(b15, mapS (entN (putN up (n + 1) D) 0) (putN up (n + 1) D).length), (b6, blk 56 (itC p dd (.slice ax xb.length cx)))] w0 w := by rw [← put_entN]; exact hs
     refine cQ <| cR <| wV rfl (run_field (o' := 1) underlying56 rfl ty4 rfl rfl rfl) <| wV rfl (run_load1 ty4 rfl (hs.c1 (v := .bool true) (by rw [hdd]; rfl))) <| wZ ?_
     refine cC rfl (fun h => ?_) (fun h => ?_)
     ·skip
      refine cR <| wm rfl <| wV rfl (run_field (o' := 0) underlying56 rfl ty9 rfl rfl rfl) <| wV rfl (run_load1 ty9 rfl (hs.c1 (v := str p) rfl)) ?_
      refine WL.mapPutS underlying129 underlying9 rfl rfl rfl (hs) (fun w hs => ?_)
      refine wZ ?_
      replace hs : Step [] [(b15, mapS (entN (putN p 0 (putN up (n + 1) D)) 0) (putN p 0 (putN up (n + 1) D)).length), (b6, blk 56 (itC p dd (.slice ax xb.length cx)))] w0 w := by rw [← put_entN]; exact hs
      refine cR <| wV rfl (run_add (c := ((i + 1 : Nat) : Int)) rfl rfl (by omega) (by omega)) <| wm rfl <| wZ ?_
      refine (show _ ∧ _ from ⟨rfl, _, ?_, i + 1, putN p 0 (putN up (n + 1) D), some p, by omega, rfl, by rw [hgo, if_pos hdd], fun h => (by omega), hlast, by omega, hs.swap.tail, rfl, rfl, hwrap (by omega), rfl, rfl, rfl, trivial⟩)
      omega
     ·cases h
    ·rw [if_neg (by rw [hdd]; simp)] at hstep
     by_cases hbg : 1048576 < xb.length
     ·have hbad : chkE l = 64 := hnone (by rw [hstep, if_pos hbg])
      refine cQ <| cQ ?_
      refine CW.quiet mixedP (by kernel_rfl) hs ?_
      refine qm rfl <| qV rfl (fun w hs => run_bF (run_neq rfl rfl) (by exact fun h => h he)) <| qm rfl <| QL.yes rfl rfl rfl <| qm rfl ?_
      refine QL.yes rfl rfl rfl ?_; (first | refine qV rfl (fun w hs => run_notB rfl) ?_ | refine qV rfl (fun w hs => run_not rfl) ?_)
      refine qV rfl (fun w hs => run_pickF rfl) <| qm rfl <| QL.yes rfl rfl rfl <| qm rfl <| QL.yes rfl rfl rfl <| qV rfl (fun w hs => run_bF (run_geq rfl rfl) (by omega)) <| qV rfl (fun w hs => run_pickF rfl) <| qm rfl <| QL.yes rfl rfl rfl <| qm rfl <| QL.yes rfl rfl rfl <| qV rfl (fun w hs => run_bF (run_gtr rfl rfl) (by omega)) <| QL.yes rfl rfl rfl <| qm rfl ?_
      refine QL.no rfl rfl rfl (.inl rfl) <| QL.no rfl rfl rfl (.inl rfl) <| QL.no rfl rfl rfl (.inl rfl) <| QL.no rfl rfl rfl (.inl rfl) <| QL.no rfl rfl rfl (.inl rfl) <| QL.no rfl rfl rfl (.inl rfl) <| QL.no rfl rfl rfl (.inl rfl) <| QL.no rfl rfl rfl (.inl rfl) <| QL.no rfl rfl rfl (.inl rfl) <| QL.no rfl rfl rfl (.inl rfl) ?_
      refine QL.yes rfl rfl rfl ?_; (first | refine qV rfl (fun w hs => run_pickT rfl) ?_ | refine qV rfl (fun w hs => run_pickF rfl) ?_)
      refine qV rfl (fun w hs => run_pickF rfl) <| qm rfl <| QL.yes rfl rfl rfl <| qV rfl (fun w hs => run_field (o' := 1) underlying56 rfl ty4 rfl rfl rfl) <| QL.yes rfl rfl rfl ?_
      refine qV rfl (fun w hs => run_load1 ty4 rfl (hs.c0 (v := .bool false) (by rw [hdd]; rfl))) ?_
      refine QL.yes rfl rfl rfl <| qm rfl <| QL.no rfl rfl rfl (.inl rfl) <| QL.no rfl rfl rfl (.inl rfl) <| QL.no rfl rfl rfl (.inl rfl) <| QL.no rfl rfl rfl (.inl rfl) ?_
      refine QL.yes rfl rfl rfl ?_; (first | refine qV rfl (fun w hs => run_pickT rfl) ?_ | refine qV rfl (fun w hs => run_pickF rfl) ?_)
      refine qV rfl (fun w hs => run_pickF rfl) <| qm rfl <| QL.yes rfl rfl rfl <| qV rfl (fun w hs => run_field (o' := 2) underlying56 rfl ty38 rfl rfl rfl) <| QL.yes rfl rfl rfl <| qV rfl (fun w hs => run_load1 ty38 rfl (hs.c0 (v := .slice ax xb.length cx) rfl)) <| QL.yes rfl rfl rfl <| qV rfl (fun w hs => run_lenSl underlying38 rfl) <| QL.yes rfl rfl rfl <| qV rfl (fun w hs => run_bT (run_gtr rfl rfl) (by omega)) <| qV rfl (fun w hs => run_pickF rfl) ?_
      refine QL.nil (fun w hs => ?_)
      refine cC rfl (fun h => ?_) (fun h => ?_)
      ·refine cQ <| cR <| wa rfl <| wZ ?_
       refine CW.ret ?_
       refine fin_ret1 rfl ?_
       exact ⟨congrArg (fun b => Ending.returned (.int .i64 b)) hbad.symm, hs.clear⟩
      ·cases h
     have hstep3 := hstep
     rw [if_neg hbg] at hstep3
     rw [hstep3] at hgo
     refine cQ <| cQ ?_
     refine CW.quiet mixedP (by kernel_rfl) hs ?_
     refine qm rfl <| qV rfl (fun w hs => run_bF (run_neq rfl rfl) (by exact fun h => h he)) <| qm rfl <| QL.yes rfl rfl rfl <| qm rfl ?_
     refine QL.yes rfl rfl rfl ?_; (first | refine qV rfl (fun w hs => run_notB rfl) ?_ | refine qV rfl (fun w hs => run_not rfl) ?_)
     refine qV rfl (fun w hs => run_pickF rfl) <| qm rfl <| QL.yes rfl rfl rfl <| qm rfl <| QL.yes rfl rfl rfl <| qV rfl (fun w hs => run_bF (run_geq rfl rfl) (by omega)) <| qV rfl (fun w hs => run_pickF rfl) <| qm rfl <| QL.yes rfl rfl rfl <| qm rfl <| QL.yes rfl rfl rfl <| qV rfl (fun w hs => run_bF (run_gtr rfl rfl) (by omega)) <| QL.yes rfl rfl rfl <| qm rfl ?_
     refine QL.no rfl rfl rfl (.inl rfl) <| QL.no rfl rfl rfl (.inl rfl) <| QL.no rfl rfl rfl (.inl rfl) <| QL.no rfl rfl rfl (.inl rfl) <| QL.no rfl rfl rfl (.inl rfl) <| QL.no rfl rfl rfl (.inl rfl) <| QL.no rfl rfl rfl (.inl rfl) <| QL.no rfl rfl rfl (.inl rfl) <| QL.no rfl rfl rfl (.inl rfl) <| QL.no rfl rfl rfl (.inl rfl) ?_
     refine QL.yes rfl rfl rfl ?_; (first | refine qV rfl (fun w hs => run_pickT rfl) ?_ | refine qV rfl (fun w hs => run_pickF rfl) ?_)
     refine qV rfl (fun w hs => run_pickF rfl) <| qm rfl <| QL.yes rfl rfl rfl <| qV rfl (fun w hs => run_field (o' := 1) underlying56 rfl ty4 rfl rfl rfl) <| QL.yes rfl rfl rfl ?_
     refine qV rfl (fun w hs => run_load1 ty4 rfl (hs.c0 (v := .bool false) (by rw [hdd]; rfl))) ?_
     refine QL.yes rfl rfl rfl <| qm rfl <| QL.no rfl rfl rfl (.inl rfl) <| QL.no rfl rfl rfl (.inl rfl) <| QL.no rfl rfl rfl (.inl rfl) <| QL.no rfl rfl rfl (.inl rfl) ?_
     refine QL.yes rfl rfl rfl ?_; (first | refine qV rfl (fun w hs => run_pickT rfl) ?_ | refine qV rfl (fun w hs => run_pickF rfl) ?_)
     refine qV rfl (fun w hs => run_pickF rfl) <| qm rfl <| QL.yes rfl rfl rfl <| qV rfl (fun w hs => run_field (o' := 2) underlying56 rfl ty38 rfl rfl rfl) <| QL.yes rfl rfl rfl <| qV rfl (fun w hs => run_load1 ty38 rfl (hs.c0 (v := .slice ax xb.length cx) rfl)) <| QL.yes rfl rfl rfl <| qV rfl (fun w hs => run_lenSl underlying38 rfl) <| QL.yes rfl rfl rfl <| qV rfl (fun w hs => run_bF (run_gtr rfl rfl) (by omega)) <| qV rfl (fun w hs => run_pickF rfl) ?_
     refine QL.nil (fun w hs => ?_)
     refine cC rfl (fun h => ?_) (fun h => ?_)
     ·cases h
     repeat (first | refine cQ ?_ | refine cK ?_)
     refine cR <| wm rfl <| wm rfl <| wV rfl (run_lookupSE underlying129 underlying9 (zInt _) (hval) rfl rfl (hs.tail.hd)) <| wV rfl (run_add (c := ((n + 1 : Nat) : Int)) rfl rfl (by omega) (by omega)) ?_
     refine WL.mapPutS underlying129 underlying9 rfl rfl rfl ((hs.swap)) (fun w hs => ?_)
     refine wZ ?_
     replace hs : Step [] [(b15, mapS (entN (putN up (n + 1) D) 0) (putN up (n + 1) D).length), (b6, blk 56 (itC p dd (.slice ax xb.length cx)))] w0 w := by rw [← put_entN]; exact hs
     refine cQ <| cR <| wV rfl (run_field (o' := 1) underlying56 rfl ty4 rfl rfl rfl) <| wV rfl (run_load1 ty4 rfl (hs.c1 (v := .bool false) (by rw [hdd]; rfl))) <| wZ ?_
     refine cC rfl (fun h => ?_) (fun h => ?_)
     ·cases h
     refine cK <| cR <| wV rfl (run_add (c := ((i + 1 : Nat) : Int)) rfl rfl (by omega) (by omega)) <| wm rfl <| wZ ?_
     refine (show _ ∧ _ from ⟨rfl, _, ?_, i + 1, putN up (n + 1) D, some p, by omega, rfl, by rw [hgo, if_neg (by rw [hdd]; simp)], fun h => (by omega), hlast, by omega, hs.swap.tail, rfl, rfl, hwrap (by omega), rfl, rfl, rfl, trivial⟩)
     omega
   ·have hobt : ∃ k, i = k + 1 := ⟨i - 1, by omega⟩
    obtain ⟨k, hk⟩ := hobt
    have hobt := hp1 k hk
    obtain ⟨y, hy, hyp, hyl⟩ := hobt
    obtain ⟨q, dq, vq, xq⟩ := y
    have hyp : prev = some q := hyp
    have hyl : q.length ≤ 2080 := hyl
    have hatp : At w0 bl (ol + (i - 1) * 3) (itC q dq vq) := by rw [show i - 1 = k by omega]; exact hl.cell hy
    have hql := hplen he
    have hless := fun {w} hg => lessP_spec (s := q) (t := p) w hg (by omega) (by omega)
    have hobt : ∃ lb, lessP q p = lb := ⟨_, rfl⟩
    obtain ⟨lb, hlb2⟩ := hobt
    simp only [hlb2] at hless
    have hstep2 : prev.any (fun q => !lessP q p) = !lb := by rw [hyp]; simp [hlb2]
    rw [hstep2] at hstep
    have hlbb : lb = false ∨ lb = true := by cases lb <;> simp
    rcases hlbb with rfl | rfl
    ·have hbad : chkE l = 64 := hnone (by rw [hstep]; rfl)
     refine cQ <| cQ ?_
     refine CW.quiet mixedP (by kernel_rfl) hs ?_
     refine qm rfl <| qV rfl (fun w hs => run_bF (run_neq rfl rfl) (by exact fun h => h he)) <| qm rfl <| QL.yes rfl rfl rfl <| qm rfl ?_
     refine QL.yes rfl rfl rfl ?_; (first | refine qV rfl (fun w hs => run_notB rfl) ?_ | refine qV rfl (fun w hs => run_not rfl) ?_)
     refine qV rfl (fun w hs => run_pickF rfl) <| qm rfl <| QL.yes rfl rfl rfl <| qm rfl <| QL.yes rfl rfl rfl <| qV rfl (fun w hs => run_bF (run_geq rfl rfl) (by omega)) <| qV rfl (fun w hs => run_pickF rfl) <| qm rfl <| QL.yes rfl rfl rfl <| qm rfl <| QL.yes rfl rfl rfl <| qV rfl (fun w hs => run_bT (run_gtr rfl rfl) (by omega)) <| QL.yes rfl rfl rfl <| qm rfl ?_
     refine QL.yes rfl rfl rfl <| qm rfl <| QL.yes rfl rfl rfl <| qm rfl <| QL.yes rfl rfl rfl <| qV rfl (fun w hs => run_sub (c := ((i - 1 : Nat) : Int)) rfl rfl (by omega) (by omega)) ?_
     refine QL.yes rfl rfl rfl ?_; (first | refine qV rfl (fun w hs => run_ixSlN underlying22 ty56 rfl rfl (by omega)) ?_ | refine qV rfl (fun w hs => run_ixSl underlying22 ty56 rfl rfl (by omega)) ?_)
     refine QL.yes rfl rfl rfl <| qV rfl (fun w hs => run_field (o' := 0) underlying56 rfl ty9 rfl rfl rfl) <| QL.yes rfl rfl rfl <| qV rfl (fun w hs => run_load1 ty9 rfl ((hatp.step hs (by simp)).cell (j := 0) (v := str q) rfl)) <| QL.yes rfl rfl rfl <| qV rfl (fun w hs => run_field (o' := 0) underlying56 rfl ty9 rfl rfl rfl) <| QL.yes rfl rfl rfl <| qV rfl (fun w hs => run_load1 ty9 rfl (hs.c0 (v := str p) rfl)) <| QL.yes rfl rfl rfl ?_
     refine QL.enter rfl (fun w => run_call en23 rfl rfl) (fun w hs => hless (hg.stepS hs (by simp))) ?_
     refine QL.yes rfl rfl rfl ?_; (first | refine qV rfl (fun w hs => run_notB rfl) ?_ | refine qV rfl (fun w hs => run_not rfl) ?_)
     refine QL.yes rfl rfl rfl ?_; (first | refine qV rfl (fun w hs => run_pickT rfl) ?_ | refine qV rfl (fun w hs => run_pickF rfl) ?_)
     refine qV rfl (fun w hs => run_pickF rfl) <| qm rfl <| QL.no rfl rfl rfl (.inl rfl) <| QL.no rfl rfl rfl (.inl rfl) <| QL.no rfl rfl rfl (.inl rfl) <| QL.no rfl rfl rfl (.inr rfl) <| QL.no rfl rfl rfl (.inr rfl) <| QL.no rfl rfl rfl (.inr rfl) <| QL.no rfl rfl rfl (.inr rfl) <| QL.no rfl rfl rfl (.inl rfl) <| qV rfl (fun w hs => run_pickT rfl) <| qm rfl <| QL.no rfl rfl rfl (.inl rfl) <| QL.no rfl rfl rfl (.inl rfl) ?_
     refine QL.no rfl rfl rfl (.inl rfl) <| QL.no rfl rfl rfl (.inl rfl) <| qV rfl (fun w hs => run_pickT rfl) ?_
     refine QL.nil (fun w hs => ?_)
     refine cC rfl (fun h => ?_) (fun h => ?_)
     ·refine cQ <| cR <| wa rfl <| wZ ?_
      refine CW.ret ?_
      refine fin_ret1 rfl ?_
      exact ⟨congrArg (fun b => Ending.returned (.int .i64 b)) hbad.symm, hs.clear⟩
     ·cases h
    rw [if_neg (by simp)] at hstep
    rcases hdb with hdd | hdd
    ·by_cases hl0 : 0 < xb.length
     ·have hbad : chkE l = 64 := hnone (by rw [hstep, if_pos ⟨hdd, hl0⟩])
      refine cQ <| cQ ?_
      refine CW.quiet mixedP (by kernel_rfl) hs ?_
      refine qm rfl <| qV rfl (fun w hs => run_bF (run_neq rfl rfl) (by exact fun h => h he)) <| qm rfl <| QL.yes rfl rfl rfl <| qm rfl ?_
      refine QL.yes rfl rfl rfl ?_; (first | refine qV rfl (fun w hs => run_notB rfl) ?_ | refine qV rfl (fun w hs => run_not rfl) ?_)
      refine qV rfl (fun w hs => run_pickF rfl) <| qm rfl <| QL.yes rfl rfl rfl <| qm rfl <| QL.yes rfl rfl rfl <| qV rfl (fun w hs => run_bF (run_geq rfl rfl) (by omega)) <| qV rfl (fun w hs => run_pickF rfl) <| qm rfl <| QL.yes rfl rfl rfl <| qm rfl <| QL.yes rfl rfl rfl <| qV rfl (fun w hs => run_bT (run_gtr rfl rfl) (by omega)) <| QL.yes rfl rfl rfl <| qm rfl ?_
      refine QL.yes rfl rfl rfl <| qm rfl <| QL.yes rfl rfl rfl <| qm rfl <| QL.yes rfl rfl rfl <| qV rfl (fun w hs => run_sub (c := ((i - 1 : Nat) : Int)) rfl rfl (by omega) (by omega)) ?_
      refine QL.yes rfl rfl rfl ?_; (first | refine qV rfl (fun w hs => run_ixSlN underlying22 ty56 rfl rfl (by omega)) ?_ | refine qV rfl (fun w hs => run_ixSl underlying22 ty56 rfl rfl (by omega)) ?_)
      refine QL.yes rfl rfl rfl <| qV rfl (fun w hs => run_field (o' := 0) underlying56 rfl ty9 rfl rfl rfl) <| QL.yes rfl rfl rfl <| qV rfl (fun w hs => run_load1 ty9 rfl ((hatp.step hs (by simp)).cell (j := 0) (v := str q) rfl)) <| QL.yes rfl rfl rfl <| qV rfl (fun w hs => run_field (o' := 0) underlying56 rfl ty9 rfl rfl rfl) <| QL.yes rfl rfl rfl <| qV rfl (fun w hs => run_load1 ty9 rfl (hs.c0 (v := str p) rfl)) <| QL.yes rfl rfl rfl ?_
      refine QL.enter rfl (fun w => run_call en23 rfl rfl) (fun w hs => hless (hg.stepS hs (by simp))) ?_
      refine QL.yes rfl rfl rfl ?_; (first | refine qV rfl (fun w hs => run_notB rfl) ?_ | refine qV rfl (fun w hs => run_not rfl) ?_)
      refine QL.yes rfl rfl rfl ?_; (first | refine qV rfl (fun w hs => run_pickT rfl) ?_ | refine qV rfl (fun w hs => run_pickF rfl) ?_)
      refine qV rfl (fun w hs => run_pickF rfl) <| qm rfl <| QL.yes rfl rfl rfl <| qV rfl (fun w hs => run_field (o' := 1) underlying56 rfl ty4 rfl rfl rfl) <| QL.yes rfl rfl rfl ?_
      refine qV rfl (fun w hs => run_load1 ty4 rfl (hs.c0 (v := .bool true) (by rw [hdd]; rfl))) ?_
      refine QL.yes rfl rfl rfl <| qm rfl <| QL.yes rfl rfl rfl <| qV rfl (fun w hs => run_field (o' := 2) underlying56 rfl ty38 rfl rfl rfl) <| QL.yes rfl rfl rfl <| qV rfl (fun w hs => run_load1 ty38 rfl (hs.c0 (v := .slice ax xb.length cx) rfl)) <| QL.yes rfl rfl rfl <| qV rfl (fun w hs => run_lenSl underlying38 rfl) <| QL.yes rfl rfl rfl <| qV rfl (fun w hs => run_bT (run_gtr rfl rfl) (by omega)) ?_
      refine QL.yes rfl rfl rfl ?_; (first | refine qV rfl (fun w hs => run_pickT rfl) ?_ | refine qV rfl (fun w hs => run_pickF rfl) ?_)
      refine qV rfl (fun w hs => run_pickF rfl) <| qm rfl <| QL.no rfl rfl rfl (.inl rfl) <| QL.no rfl rfl rfl (.inl rfl) <| QL.no rfl rfl rfl (.inl rfl) <| QL.no rfl rfl rfl (.inl rfl) <| qV rfl (fun w hs => run_pickT rfl) ?_
      refine QL.nil (fun w hs => ?_)
      refine cC rfl (fun h => ?_) (fun h => ?_)
      ·refine cQ <| cR <| wa rfl <| wZ ?_
       refine CW.ret ?_
       refine fin_ret1 rfl ?_
       exact ⟨congrArg (fun b => Ending.returned (.int .i64 b)) hbad.symm, hs.clear⟩
      ·cases h
     have hstep3 := hstep
     rw [if_neg (fun h => hl0 h.2), if_neg (by omega)] at hstep3
     rw [hstep3] at hgo
     clear hstep3
     have hstep3 := hgo
     refine cQ <| cQ ?_
     refine CW.quiet mixedP (by kernel_rfl) hs ?_
     refine qm rfl <| qV rfl (fun w hs => run_bF (run_neq rfl rfl) (by exact fun h => h he)) <| qm rfl <| QL.yes rfl rfl rfl <| qm rfl ?_
     refine QL.yes rfl rfl rfl ?_; (first | refine qV rfl (fun w hs => run_notB rfl) ?_ | refine qV rfl (fun w hs => run_not rfl) ?_)
     refine qV rfl (fun w hs => run_pickF rfl) <| qm rfl <| QL.yes rfl rfl rfl <| qm rfl <| QL.yes rfl rfl rfl <| qV rfl (fun w hs => run_bF (run_geq rfl rfl) (by omega)) <| qV rfl (fun w hs => run_pickF rfl) <| qm rfl <| QL.yes rfl rfl rfl <| qm rfl <| QL.yes rfl rfl rfl <| qV rfl (fun w hs => run_bT (run_gtr rfl rfl) (by omega)) <| QL.yes rfl rfl rfl <| qm rfl ?_
     refine QL.yes rfl rfl rfl <| qm rfl <| QL.yes rfl rfl rfl <| qm rfl <| QL.yes rfl rfl rfl <| qV rfl (fun w hs => run_sub (c := ((i - 1 : Nat) : Int)) rfl rfl (by omega) (by omega)) ?_
     refine QL.yes rfl rfl rfl ?_; (first | refine qV rfl (fun w hs => run_ixSlN underlying22 ty56 rfl rfl (by omega)) ?_ | refine qV rfl (fun w hs => run_ixSl underlying22 ty56 rfl rfl (by omega)) ?_)
     refine QL.yes rfl rfl rfl <| qV rfl (fun w hs => run_field (o' := 0) underlying56 rfl ty9 rfl rfl rfl) <| QL.yes rfl rfl rfl <| qV rfl (fun w hs => run_load1 ty9 rfl ((hatp.step hs (by simp)).cell (j := 0) (v := str q) rfl)) <| QL.yes rfl rfl rfl <| qV rfl (fun w hs => run_field (o' := 0) underlying56 rfl ty9 rfl rfl rfl) <| QL.yes rfl rfl rfl <| qV rfl (fun w hs => run_load1 ty9 rfl (hs.c0 (v := str p) rfl)) <| QL.yes rfl rfl rfl ?_
     refine QL.enter rfl (fun w => run_call en23 rfl rfl) (fun w hs => hless (hg.stepS hs (by simp))) ?_
     refine QL.yes rfl rfl rfl ?_; (first | refine qV rfl (fun w hs => run_notB rfl) ?_ | refine qV rfl (fun w hs => run_not rfl) ?_)
     refine QL.yes rfl rfl rfl ?_; (first | refine qV rfl (fun w hs => run_pickT rfl) ?_ | refine qV rfl (fun w hs => run_pickF rfl) ?_)
     refine qV rfl (fun w hs => run_pickF rfl) <| qm rfl <| QL.yes rfl rfl rfl <| qV rfl (fun w hs => run_field (o' := 1) underlying56 rfl ty4 rfl rfl rfl) <| QL.yes rfl rfl rfl ?_
     refine qV rfl (fun w hs => run_load1 ty4 rfl (hs.c0 (v := .bool true) (by rw [hdd]; rfl))) ?_
     refine QL.yes rfl rfl rfl <| qm rfl <| QL.yes rfl rfl rfl <| qV rfl (fun w hs => run_field (o' := 2) underlying56 rfl ty38 rfl rfl rfl) <| QL.yes rfl rfl rfl <| qV rfl (fun w hs => run_load1 ty38 rfl (hs.c0 (v := .slice ax xb.length cx) rfl)) <| QL.yes rfl rfl rfl <| qV rfl (fun w hs => run_lenSl underlying38 rfl) <| QL.yes rfl rfl rfl <| qV rfl (fun w hs => run_bF (run_gtr rfl rfl) (by omega)) ?_
     refine QL.yes rfl rfl rfl ?_; (first | refine qV rfl (fun w hs => run_pickT rfl) ?_ | refine qV rfl (fun w hs => run_pickF rfl) ?_)
     refine qV rfl (fun w hs => run_pickF rfl) <| qm rfl <| QL.yes rfl rfl rfl <| qV rfl (fun w hs => run_field (o' := 2) underlying56 rfl ty38 rfl rfl rfl) <| QL.yes rfl rfl rfl <| qV rfl (fun w hs => run_load1 ty38 rfl (hs.c0 (v := .slice ax xb.length cx) rfl)) <| QL.yes rfl rfl rfl <| qV rfl (fun w hs => run_lenSl underlying38 rfl) <| QL.yes rfl rfl rfl <| qV rfl (fun w hs => run_bF (run_gtr rfl rfl) (by omega)) <| qV rfl (fun w hs => run_pickF rfl) ?_
     refine QL.nil (fun w hs => ?_)
     refine cC rfl (fun h => ?_) (fun h => ?_)
     ·cases h
     repeat (first | refine cQ ?_ | refine cK ?_)
     refine cR <| wm rfl <| wm rfl <| wV rfl (run_lookupSE underlying129 underlying9 (zInt _) (hval) rfl rfl (hs.tail.hd)) <| wV rfl (run_add (c := ((n + 1 : Nat) : Int)) rfl rfl (by omega) (by omega)) ?_
     refine WL.mapPutS underlying129 underlying9 rfl rfl rfl ((hs.swap)) (fun w hs => ?_)
     refine wZ ?_
     replace hs : Step [] [(b15, mapS (entN (putN up (n + 1) D) 0) (putN up (n + 1) D).length), (b6, blk 56 (itC p dd (.slice ax xb.length cx)))] w0 w := by rw [← put_entN]; exact hs
     refine cQ <| cR <| wV rfl (run_field (o' := 1) underlying56 rfl ty4 rfl rfl rfl) <| wV rfl (run_load1 ty4 rfl (hs.c1 (v := .bool true) (by rw [hdd]; rfl))) <| wZ ?_
     refine cC rfl (fun h => ?_) (fun h => ?_)
     ·skip
      refine cR <| wm rfl <| wV rfl (run_field (o' := 0) underlying56 rfl ty9 rfl rfl rfl) <| wV rfl (run_load1 ty9 rfl (hs.c1 (v := str p) rfl)) ?_
      refine WL.mapPutS underlying129 underlying9 rfl rfl rfl (hs) (fun w hs => ?_)
      refine wZ ?_
      replace hs : Step [] [(b15, mapS (entN (putN p 0 (putN up (n + 1) D)) 0) (putN p 0 (putN up (n + 1) D)).length), (b6, blk 56 (itC p dd (.slice ax xb.length cx)))] w0 w := by rw [← put_entN]; exact hs
      refine cR <| wV rfl (run_add (c := ((i + 1 : Nat) : Int)) rfl rfl (by omega) (by omega)) <| wm rfl <| wZ ?_
      refine (show _ ∧ _ from ⟨rfl, _, ?_, i + 1, putN p 0 (putN up (n + 1) D), some p, by omega, rfl, by rw [hgo, if_pos hdd], fun h => (by omega), hlast, by omega, hs.swap.tail, rfl, rfl, hwrap (by omega), rfl, rfl, rfl, trivial⟩)
      omega
     ·cases h
    ·rw [if_neg (by rw [hdd]; simp)] at hstep
     by_cases hbg : 1048576 < xb.length
     ·have hbad : chkE l = 64 := hnone (by rw [hstep, if_pos hbg])
      refine cQ <| cQ ?_
      refine CW.quiet mixedP (by kernel_rfl) hs ?_
      refine qm rfl <| qV rfl (fun w hs => run_bF (run_neq rfl rfl) (by exact fun h => h he)) <| qm rfl <| QL.yes rfl rfl rfl <| qm rfl ?_
      refine QL.yes rfl rfl rfl ?_; (first | refine qV rfl (fun w hs => run_notB rfl) ?_ | refine qV rfl (fun w hs => run_not rfl) ?_)
      refine qV rfl (fun w hs => run_pickF rfl) <| qm rfl <| QL.yes rfl rfl rfl <| qm rfl <| QL.yes rfl rfl rfl <| qV rfl (fun w hs => run_bF (run_geq rfl rfl) (by omega)) <| qV rfl (fun w hs => run_pickF rfl) <| qm rfl <| QL.yes rfl rfl rfl <| qm rfl <| QL.yes rfl rfl rfl <| qV rfl (fun w hs => run_bT (run_gtr rfl rfl) (by omega)) <| QL.yes rfl rfl rfl <| qm rfl ?_
      refine QL.yes rfl rfl rfl <| qm rfl <| QL.yes rfl rfl rfl <| qm rfl <| QL.yes rfl rfl rfl <| qV rfl (fun w hs => run_sub (c := ((i - 1 : Nat) : Int)) rfl rfl (by omega) (by omega)) ?_
      refine QL.yes rfl rfl rfl ?_; (first | refine qV rfl (fun w hs => run_ixSlN underlying22 ty56 rfl rfl (by omega)) ?_ | refine qV rfl (fun w hs => run_ixSl underlying22 ty56 rfl rfl (by omega)) ?_)
      refine QL.yes rfl rfl rfl <| qV rfl (fun w hs => run_field (o' := 0) underlying56 rfl ty9 rfl rfl rfl) <| QL.yes rfl rfl rfl <| qV rfl (fun w hs => run_load1 ty9 rfl ((hatp.step hs (by simp)).cell (j := 0) (v := str q) rfl)) <| QL.yes rfl rfl rfl <| qV rfl (fun w hs => run_field (o' := 0) underlying56 rfl ty9 rfl rfl rfl) <| QL.yes rfl rfl rfl <| qV rfl (fun w hs => run_load1 ty9 rfl (hs.c0 (v := str p) rfl)) <| QL.yes rfl rfl rfl ?_
      refine QL.enter rfl (fun w => run_call en23 rfl rfl) (fun w hs => hless (hg.stepS hs (by simp))) ?_
      refine QL.yes rfl rfl rfl ?_; (first | refine qV rfl (fun w hs => run_notB rfl) ?_ | refine qV rfl (fun w hs => run_not rfl) ?_)
      refine QL.yes rfl rfl rfl ?_; (first | refine qV rfl (fun w hs => run_pickT rfl) ?_ | refine qV rfl (fun w hs => run_pickF rfl) ?_)
      refine qV rfl (fun w hs => run_pickF rfl) <| qm rfl <| QL.yes rfl rfl rfl <| qV rfl (fun w hs => run_field (o' := 1) underlying56 rfl ty4 rfl rfl rfl) <| QL.yes rfl rfl rfl ?_
      refine qV rfl (fun w hs => run_load1 ty4 rfl (hs.c0 (v := .bool false) (by rw [hdd]; rfl))) ?_
      refine QL.yes rfl rfl rfl <| qm rfl <| QL.no rfl rfl rfl (.inl rfl) <| QL.no rfl rfl rfl (.inl rfl) <| QL.no rfl rfl rfl (.inl rfl) <| QL.no rfl rfl rfl (.inl rfl) ?_
      refine QL.yes rfl rfl rfl ?_; (first | refine qV rfl (fun w hs => run_pickT rfl) ?_ | refine qV rfl (fun w hs => run_pickF rfl) ?_)
      refine qV rfl (fun w hs => run_pickF rfl) <| qm rfl <| QL.yes rfl rfl rfl <| qV rfl (fun w hs => run_field (o' := 2) underlying56 rfl ty38 rfl rfl rfl) <| QL.yes rfl rfl rfl <| qV rfl (fun w hs => run_load1 ty38 rfl (hs.c0 (v := .slice ax xb.length cx) rfl)) <| QL.yes rfl rfl rfl <| qV rfl (fun w hs => run_lenSl underlying38 rfl) <| QL.yes rfl rfl rfl <| qV rfl (fun w hs => run_bT (run_gtr rfl rfl) (by omega)) <| qV rfl (fun w hs => run_pickF rfl) ?_
      refine QL.nil (fun w hs => ?_)
      refine cC rfl (fun h => ?_) (fun h => ?_)
      ·refine cQ <| cR <| wa rfl <| wZ ?_
       refine CW.ret ?_
       refine fin_ret1 rfl ?_
       exact ⟨congrArg (fun b => Ending.returned (.int .i64 b)) hbad.symm, hs.clear⟩
      ·cases h
     have hstep3 := hstep
     rw [if_neg hbg] at hstep3
     rw [hstep3] at hgo
     refine cQ <| cQ ?_
     refine CW.quiet mixedP (by kernel_rfl) hs ?_
     refine qm rfl <| qV rfl (fun w hs => run_bF (run_neq rfl rfl) (by exact fun h => h he)) <| qm rfl <| QL.yes rfl rfl rfl <| qm rfl ?_
     refine QL.yes rfl rfl rfl ?_; (first | refine qV rfl (fun w hs => run_notB rfl) ?_ | refine qV rfl (fun w hs => run_not rfl) ?_)
     refine qV rfl (fun w hs => run_pickF rfl) <| qm rfl <| QL.yes rfl rfl rfl <| qm rfl <| QL.yes rfl rfl rfl <| qV rfl (fun w hs => run_bF (run_geq rfl rfl) (by omega)) <| qV rfl (fun w hs => run_pickF rfl) <| qm rfl <| QL.yes rfl rfl rfl <| qm rfl <| QL.yes rfl rfl rfl <| qV rfl (fun w hs => run_bT (run_gtr rfl rfl) (by omega)) <| QL.yes rfl rfl rfl <| qm rfl ?_
     refine QL.yes rfl rfl rfl <| qm rfl <| QL.yes rfl rfl rfl <| qm rfl <| QL.yes rfl rfl rfl <| qV rfl (fun w hs => run_sub (c := ((i - 1 : Nat) : Int)) rfl rfl (by omega) (by omega)) ?_
     refine QL.yes rfl rfl rfl ?_; (first | refine qV rfl (fun w hs => run_ixSlN underlying22 ty56 rfl rfl (by omega)) ?_ | refine qV rfl (fun w hs => run_ixSl underlying22 ty56 rfl rfl (by omega)) ?_)
     refine QL.yes rfl rfl rfl <| qV rfl (fun w hs => run_field (o' := 0) underlying56 rfl ty9 rfl rfl rfl) <| QL.yes rfl rfl rfl <| qV rfl (fun w hs => run_load1 ty9 rfl ((hatp.step hs (by simp)).cell (j := 0) (v := str q) rfl)) <| QL.yes rfl rfl rfl <| qV rfl (fun w hs => run_field (o' := 0) underlying56 rfl ty9 rfl rfl rfl) <| QL.yes rfl rfl rfl <| qV rfl (fun w hs => run_load1 ty9 rfl (hs.c0 (v := str p) rfl)) <| QL.yes rfl rfl rfl ?_
     refine QL.enter rfl (fun w => run_call en23 rfl rfl) (fun w hs => hless (hg.stepS hs (by simp))) ?_
     refine QL.yes rfl rfl rfl ?_; (first | refine qV rfl (fun w hs => run_notB rfl) ?_ | refine qV rfl (fun w hs => run_not rfl) ?_)
     refine QL.yes rfl rfl rfl ?_; (first | refine qV rfl (fun w hs => run_pickT rfl) ?_ | refine qV rfl (fun w hs => run_pickF rfl) ?_)
     refine qV rfl (fun w hs => run_pickF rfl) <| qm rfl <| QL.yes rfl rfl rfl <| qV rfl (fun w hs => run_field (o' := 1) underlying56 rfl ty4 rfl rfl rfl) <| QL.yes rfl rfl rfl ?_
     refine qV rfl (fun w hs => run_load1 ty4 rfl (hs.c0 (v := .bool false) (by rw [hdd]; rfl))) ?_
     refine QL.yes rfl rfl rfl <| qm rfl <| QL.no rfl rfl rfl (.inl rfl) <| QL.no rfl rfl rfl (.inl rfl) <| QL.no rfl rfl rfl (.inl rfl) <| QL.no rfl rfl rfl (.inl rfl) ?_
     refine QL.yes rfl rfl rfl ?_; (first | refine qV rfl (fun w hs => run_pickT rfl) ?_ | refine qV rfl (fun w hs => run_pickF rfl) ?_)
     refine qV rfl (fun w hs => run_pickF rfl) <| qm rfl <| QL.yes rfl rfl rfl <| qV rfl (fun w hs => run_field (o' := 2) underlying56 rfl ty38 rfl rfl rfl) <| QL.yes rfl rfl rfl <| qV rfl (fun w hs => run_load1 ty38 rfl (hs.c0 (v := .slice ax xb.length cx) rfl)) <| QL.yes rfl rfl rfl <| qV rfl (fun w hs => run_lenSl underlying38 rfl) <| QL.yes rfl rfl rfl <| qV rfl (fun w hs => run_bF (run_gtr rfl rfl) (by omega)) <| qV rfl (fun w hs => run_pickF rfl) ?_
     refine QL.nil (fun w hs => ?_)
     refine cC rfl (fun h => ?_) (fun h => ?_)
     ·cases h
     repeat (first | refine cQ ?_ | refine cK ?_)
     refine cR <| wm rfl <| wm rfl <| wV rfl (run_lookupSE underlying129 underlying9 (zInt _) (hval) rfl rfl (hs.tail.hd)) <| wV rfl (run_add (c := ((n + 1 : Nat) : Int)) rfl rfl (by omega) (by omega)) ?_
     refine WL.mapPutS underlying129 underlying9 rfl rfl rfl ((hs.swap)) (fun w hs => ?_)
     refine wZ ?_
     replace hs : Step [] [(b15, mapS (entN (putN up (n + 1) D) 0) (putN up (n + 1) D).length), (b6, blk 56 (itC p dd (.slice ax xb.length cx)))] w0 w := by rw [← put_entN]; exact hs
     refine cQ <| cR <| wV rfl (run_field (o' := 1) underlying56 rfl ty4 rfl rfl rfl) <| wV rfl (run_load1 ty4 rfl (hs.c1 (v := .bool false) (by rw [hdd]; rfl))) <| wZ ?_
     refine cC rfl (fun h => ?_) (fun h => ?_)
     ·cases h
     refine cK <| cR <| wV rfl (run_add (c := ((i + 1 : Nat) : Int)) rfl rfl (by omega) (by omega)) <| wm rfl <| wZ ?_
     refine (show _ ∧ _ from ⟨rfl, _, ?_, i + 1, putN up (n + 1) D, some p, by omega, rfl, by rw [hgo, if_neg (by rw [hdd]; simp)], fun h => (by omega), hlast, by omega, hs.swap.tail, rfl, rfl, hwrap (by omega), rfl, rfl, rfl, trivial⟩)
     omega
  ·cases h
 ·obtain rfl : i = l.length := by omega
  rw [List.drop_length] at hgo
  rw [hgo] at hE
  rw [List.take_length] at hsum ⊢
  refine cQ <| cR <| wV rfl (run_bF (run_lss rfl rfl) (by omega)) <| wZ <| cQ ?_
  refine cC rfl (fun h => ?_) (fun h => ?_)
  ·cases h
  repeat (first | refine cQ ?_ | refine CW.exit ?_)
  by_cases hb2 : 67108864 < sumL l
  ·have he : chkE l = 64 := hE.trans (if_pos hb2)
   refine cR <| wm rfl <| wV rfl (run_bT (run_gtr rfl rfl) (by omega)) <| wZ ?_
   refine cC rfl (fun h => ?_) (fun h => ?_)
   ·refine cQ <| cR <| wa rfl <| wZ ?_
    refine CW.ret ?_
    refine fin_ret1 rfl ?_
    exact ⟨congrArg (fun b => Ending.returned (.int .i64 b)) he.symm, hs.clear⟩
   ·cases h
  ·have he : chkE l = 0 := hE.trans (if_neg hb2)
   refine cR <| wm rfl <| wV rfl (run_bF (run_gtr rfl rfl) (by omega)) <| wZ ?_
   refine cC rfl (fun h => ?_) (fun h => ?_)
   ·cases h
   repeat (first | refine cQ ?_ | refine cK ?_)
   refine cR <| wa rfl <| wZ ?_
   refine CW.ret ?_
   refine fin_ret1 rfl ?_
   exact ⟨congrArg (fun b => Ending.returned (.int .i64 b)) he.symm, hs.clear⟩
end Go.Gx
/-! Vt3 -/
namespace Go.Gx
open Go.Proofs Go.Proofs.Tryz
/-- The order of rows. -/
def ltR : List (List UInt8) → List (List UInt8) → Bool
 | [], [] => false
 | [], _ :: _ => true
 | _ :: _, [] => false
 | a :: x, b :: y => if a = b then ltR x y else Op.bytesLess a b
theorem ltR_cmp : ∀ x y : List (List UInt8), decide (cmpF x y < 0) = ltR x y
 | [], [] => rfl
 | [], _ :: _ => rfl
 | _ :: _, [] => rfl
 | a :: x, b :: y => by
  rw [ltR]
  by_cases h : a = b
  ·subst h
   rw [if_pos rfl, cmpF_eq, ltR_cmp x y]
  ·rw [if_neg h, cmpF_ne x y h]
theorem ltR_irrefl : ∀ x, ltR x x = false
 | [] => rfl
 | a :: x => by rw [ltR, if_pos rfl, ltR_irrefl x]
theorem ltR_tri : ∀ {x y : List (List UInt8)}, x ≠ y → ltR x y = false → ltR y x = true
 | [], [], h, _ => absurd rfl h
 | [], _ :: _, _, h => by cases h
 | _ :: _, [], _, _ => rfl
 | a :: x, b :: y, hne, h => by
  rw [ltR] at h ⊢
  by_cases e : a = b
  ·subst e
   rw [if_pos rfl] at h ⊢
   exact ltR_tri (fun e => hne (by rw [e])) h
  ·rw [if_neg e] at h; rw [if_neg (fun e' => e e'.symm)]; exact bytesLess_tri h e
theorem ltR_trans : ∀ {x y z : List (List UInt8)}, ltR x y = true → ltR y z = true → ltR x z = true
 | [], [], _, h, _ => by cases h
 | [], _ :: _, [], _, h => by cases h
 | [], _ :: _, _ :: _, _, _ => rfl
 | _ :: _, [], _, h, _ => by cases h
 | _ :: _, _ :: _, [], _, h => by cases h
 | a :: x, b :: y, c :: z, h1, h2 => by
  rw [ltR] at h1 h2 ⊢
  by_cases e1 : a = b
  ·subst e1
   rw [if_pos rfl] at h1
   by_cases e2 : a = c
   ·rw [if_pos e2] at h2 ⊢; exact ltR_trans h1 h2
   ·rw [if_neg e2] at h2 ⊢; exact h2
  ·rw [if_neg e1] at h1
   by_cases e2 : b = c
   ·subst e2; rw [if_neg e1]; exact h1
   ·rw [if_neg e2] at h2
    have h3 := bytesLess_trans h1 h2
    by_cases e3 : a = c
    ·subst e3; rw [bytesLess_irrefl] at h3; cases h3
    ·rw [if_neg e3]; exact h3
theorem lessP_ltR (s t : List UInt8) : lessP s t = ltR (partsL s) (partsL t) := ltR_cmp _ _
theorem parts_inj {s t : List UInt8} (h : partsL s = partsL t) : s = t := by
 have := congrArg joinL h
 rwa [joinL_partsL, joinL_partsL] at this
theorem lessP_irrefl (s : List UInt8) : lessP s s = false := by rw [lessP_ltR]; exact ltR_irrefl _
theorem lessP_trans {s t r : List UInt8} (h : lessP s t = true) (h2 : lessP t r = true) : lessP s r = true := by
 rw [lessP_ltR] at *
 exact ltR_trans h h2
theorem lessP_tri {s t : List UInt8} (h : s ≠ t) (h2 : lessP s t = false) : lessP t s = true := by
 rw [lessP_ltR] at *
 exact ltR_tri (fun e => h (parts_inj e)) h2
theorem lookN_dir {s : VS} {u : List UInt8} {n : Nat} (h : lookN u s.D = some n) : ∃ j, s.dir u = some j ∧ s.D[j]? = some (u, n) ∧ (s.bump j).D = putN u (n + 1) s.D := by
 have hgo : ∀ D : DL, lookN u D = some n → ∃ j, D.findIdx? (fun e => decide (e.1 = u)) = some j ∧ D[j]? = some (u, n) ∧ (D.modify j fun e => (e.1, e.2 + 1)) = updN u (n + 1) D := by
  intro D
  induction D with
  | nil => intro h; cases h
  | cons e D ih =>
   intro h
   rw [lookN] at h
   by_cases hu : u = e.1
   ·rw [if_pos hu] at h
    have h2 : e.2 = n := Option.some.inj h
    refine ⟨0, by simp [List.findIdx?_cons, hu], ?_, ?_⟩
    ·simp only [List.getElem?_cons_zero, ← h2, hu]
    ·rw [updN, if_pos hu, ← h2]
     rfl
   ·rw [if_neg hu] at h
    have hobt := ih h
    obtain ⟨j, h1, h2, h3⟩ := hobt
    refine ⟨j + 1, ?_, ?_, ?_⟩
    ·rw [List.findIdx?_cons, if_neg (by simpa using fun h => hu h.symm), h1]
     rfl
    ·rw [List.getElem?_cons_succ]
     exact h2
    ·rw [updN, if_neg hu, ← h3]
     rfl
 have hobt := hgo s.D h
 obtain ⟨j, h1, h2, h3⟩ := hobt
 refine ⟨j, h1, h2, ?_⟩
 unfold putN
 rw [if_pos (by rw [h]; rfl)]
 exact h3
theorem dir_none {s : VS} {u : List UInt8} (h : ∀ e ∈ s.D, e.1 ≠ u) : s.dir u = none := by
 unfold VS.dir
 rw [List.findIdx?_eq_none_iff]
 intro e he
 simpa using h e he
theorem file_none {s : VS} {u : List UInt8} (h : ∀ e ∈ s.F, e.1 ≠ u) : s.file u = none := by
 unfold VS.file
 rw [List.findIdx?_eq_none_iff]
 intro e he
 simpa using h e he
theorem look_none {D : DL} {u : List UInt8} (h : ∀ e ∈ D, e.1 ≠ u) : lookN u D = none := by
 induction D with
 | nil => rfl
 | cons e D ih => rw [lookN, if_neg (fun h2 => h e (by simp) h2.symm), ih fun x hx => h x (by simp [hx])]
/-- One item laid into files. -/
def VS.addIt (s : VS) (x : It) : VS := if x.d = true then s.addDir x.p else s.addFile x.p x.x
/-- Files that a tree is laid into, item by item: prev is the item's path laid last. -/
structure NInv (s : VS) (prev : Option (List UInt8)) (k : Nat) : Prop where
 bd : ∀ e ∈ s.D, e.1 = [] ∨ ∃ q, prev = some q ∧ (e.1 = q ∨ lessP e.1 q = true)
 bf : ∀ e ∈ s.F, ∃ q, prev = some q ∧ (e.1 = q ∨ lessP e.1 q = true)
 len : s.D.length + s.F.length = k + 1
 cnt : ∀ e ∈ s.D, e.2 ≤ s.D.length + s.F.length ∧ e.2 ≤ 1024
 root : (s.dir []).isSome
 x : ∀ e ∈ s.F, e.2.length ≤ 1048576
 sum : s.by_ = (s.F.map (·.2.length)).sum
 H : s.H = [] ∧ s.op = 0
theorem chk_inv {D : DL} {prev : Option (List UInt8)} {x : It} {D' : DL} (h : chkStep D prev x = some D') : (splitR x.p).2.2 = 0 ∧ ∃ n, lookN (splitR x.p).1 D = some n ∧ n < 1024 ∧ (∀ q, prev = some q → lessP q x.p = true) ∧ (x.d = true → x.x = []) ∧ x.x.length ≤ 1048576 ∧ D' = if x.d = true then putN x.p 0 (putN (splitR x.p).1 (n + 1) D) else putN (splitR x.p).1 (n + 1) D := by
 unfold chkStep at h
 split at h
 ·cases h
 ·rename_i h1
  refine ⟨Classical.byContradiction h1, ?_⟩
  split at h
  ·cases h
  ·rename_i n hn
   split at h
   ·cases h
   ·split at h
    ·cases h
    ·rename_i h3
     split at h
     ·cases h
     ·rename_i h4
      split at h
      ·cases h
      ·refine ⟨n, hn, by omega, fun q hq => ?_, fun hd => ?_, by omega, (Option.some.inj h).symm⟩
       ·rw [hq] at h3
        simpa using h3
       ·exact List.eq_nil_of_length_eq_zero (Nat.eq_zero_of_not_pos fun h5 => h4 ⟨hd, h5⟩)
theorem NInv.fresh {s : VS} {prev : Option (List UInt8)} {k : Nat} {p : List UInt8} (v : NInv s prev k) (hp : p ≠ []) (hl : ∀ q, prev = some q → lessP q p = true) : (∀ e ∈ s.D, e.1 ≠ p) ∧ ∀ e ∈ s.F, e.1 ≠ p := by
 have hgo : ∀ (r q : List UInt8), prev = some q → (r = q ∨ lessP r q = true) → r ≠ p := by
  intro r q hq h e
  subst e
  have h1 := hl q hq
  rcases h with h | h
  ·rw [h, lessP_irrefl] at h1; cases h1
  ·have := lessP_trans h1 h
   rw [lessP_irrefl] at this; cases this
 refine ⟨fun e he => ?_, fun e he => ?_⟩
 ·rcases v.bd e he with h | ⟨q, hq, h⟩
  ·rw [h]; exact fun h => hp h.symm
  ·exact hgo _ q hq h
 ·have hobt := v.bf e he
  obtain ⟨q, hq, h⟩ := hobt
  exact hgo _ q hq h
/-- One more item. -/
theorem NInv.step {s : VS} {prev : Option (List UInt8)} {k : Nat} {x : It} {D' : DL} (v : NInv s prev k) (h : chkStep s.D prev x = some D') :
  (∃ j, s.dir (splitR x.p).1 = some j ∧ (s.bump j).dir x.p = none ∧ (s.bump j).file x.p = none) ∧ (s.addIt x).D = D' ∧ NInv (s.addIt x) (some x.p) (k + 1) ∧ (s.addIt x).by_ = s.by_ + x.x.length ∧ x.x.length ≤ 1048576 ∧ (x.d = true → x.x = []) := by
 have hobt := chk_inv h
 obtain ⟨he, n, hn, hn2, hl, hdx, hxl, hD⟩ := hobt
 have hobt := split_ok he
 obtain ⟨hcl, hne⟩ := hobt
 have hobt := v.fresh hne hl
 obtain ⟨fd, ff⟩ := hobt
 have hobt := lookN_dir hn
 obtain ⟨j, hj, hjn, hjb⟩ := hobt
 have hfd : s.dir x.p = none := dir_none fd
 have hff : s.file x.p = none := file_none ff
 have hbm : ∀ e ∈ (s.bump j).D, ∃ e0 ∈ s.D, e.1 = e0.1 ∧ e.2 ≤ e0.2 + 1 := fun e he => bump_mem he
 have hb1024 : ∀ e ∈ (s.bump j).D, e.2 ≤ 1024 := by
  intro e he
  rw [hjb] at he
  have hgo : ∀ D : DL, (∀ e ∈ D, e.2 ≤ 1024) → ∀ e ∈ updN (splitR x.p).1 (n + 1) D, e.2 ≤ 1024 := by
   intro D
   induction D with
   | nil => intro _ e he; cases he
   | cons c D ih =>
    intro hc e he
    rw [updN] at he
    split at he
    ·rcases List.mem_cons.1 he with h | h
     ·rw [h]; show n + 1 ≤ 1024; omega
     ·exact hc e (by simp [h])
    ·rcases List.mem_cons.1 he with h | h
     ·rw [h]; exact hc c (by simp)
     ·exact ih (fun y hy => hc y (by simp [hy])) e h
  unfold putN at he
  rw [if_pos (by rw [hn]; rfl)] at he
  exact hgo s.D (fun e he => (v.cnt e he).2) e he
 have hup : ∀ r q, prev = some q → (r = q ∨ lessP r q = true) → lessP r x.p = true := fun r q hq h => by
  rcases h with h | h
  ·rw [h]; exact hl q hq
  ·exact lessP_trans h (hl q hq)
 have hbdD : ∀ e ∈ (s.bump j).D, e.1 = [] ∨ ∃ q, some x.p = some q ∧ (e.1 = q ∨ lessP e.1 q = true) := fun e he => by
  have hobt := hbm e he
  obtain ⟨e0, h0, h1, _⟩ := hobt
  rw [h1]
  rcases v.bd e0 h0 with h | ⟨q, hq, h⟩
  ·exact .inl h
  ·exact .inr ⟨x.p, rfl, .inr (hup _ q hq h)⟩
 have hbfF : ∀ e ∈ s.F, ∃ q, some x.p = some q ∧ (e.1 = q ∨ lessP e.1 q = true) := fun e he => by
  have hobt := v.bf e he
  obtain ⟨q, hq, h⟩ := hobt
  exact ⟨x.p, rfl, .inr (hup _ q hq h)⟩
 have hlb : (s.bump j).D.length = s.D.length := bump_len s j
 have hln := v.len
 refine ⟨⟨j, hj, by rw [dir_bump]; exact hfd, hff⟩, ?_, ?_, ?_, hxl, hdx⟩
 ·rw [hD, ← hjb]
  unfold VS.addIt
  split
  ·have : lookN x.p (s.bump j).D = none := look_none fun e he => by
    have hobt := hbm e he
    obtain ⟨e0, h0, h1, _⟩ := hobt
    rw [h1]; exact fd e0 h0
   unfold putN
   rw [if_neg (by rw [this]; simp)]
   unfold VS.addDir
   rw [hj]
  ·unfold VS.addFile
   rw [hj]
 ·unfold VS.addIt
  split
  ·have e1 : s.addDir x.p = { s.bump j with D := (s.bump j).D ++ [(x.p, 0)] } := by unfold VS.addDir; rw [hj]
   have e2 := dir_addDir (s := s) (d := x.p) (u := []) (by rw [hj]; rfl)
   have hlD : (s.addDir x.p).D.length = s.D.length + 1 := by rw [e1]; simp [hlb]
   have hF : (s.addDir x.p).F = s.F := (addDir_F s x.p).1
   refine ⟨fun e he => ?_, fun e he => ?_, ?_, fun e he => ?_, ?_, fun e he => ?_, ?_, ?_⟩
   ·rw [e1] at he
    rcases List.mem_append.1 he with h1 | h1
    ·exact hbdD e h1
    ·rw [List.mem_singleton.1 h1]
     exact .inr ⟨x.p, rfl, .inl rfl⟩
   ·rw [hF] at he
    exact hbfF e he
   ·rw [hlD, hF]
    omega
   ·rw [hlD, hF]
    rw [e1] at he
    rcases List.mem_append.1 he with h1 | h1
    ·refine ⟨?_, hb1024 e h1⟩
     have hobt := hbm e h1
     obtain ⟨e0, h0, _, h2⟩ := hobt
     have := (v.cnt e0 h0).1
     omega
    ·rw [List.mem_singleton.1 h1]
     exact ⟨Nat.zero_le _, Nat.zero_le _⟩
   ·rw [e2, if_pos v.root]
    exact v.root
   ·rw [hF] at he
    exact v.x e he
   ·rw [hF, (addDir_F s x.p).2.1]
    exact v.sum
   ·exact ⟨(addDir_F s x.p).2.2.1.trans v.H.1, (addDir_F s x.p).2.2.2.1.trans v.H.2⟩
  ·have e1 : s.addFile x.p x.x = { s.bump j with F := s.F ++ [(x.p, x.x)], by_ := s.by_ + x.x.length } := by unfold VS.addFile; rw [hj]
   rw [e1]
   refine ⟨hbdD, fun e he => ?_, ?_, fun e he => ?_, ?_, fun e he => ?_, ?_, v.H⟩
   ·rcases List.mem_append.1 he with h1 | h1
    ·exact hbfF e h1
    ·rw [List.mem_singleton.1 h1]
     exact ⟨x.p, rfl, .inl rfl⟩
   ·show (s.bump j).D.length + (s.F ++ [(x.p, x.x)]).length = _
    rw [hlb, List.length_append]
    simp
    omega
   ·show e.2 ≤ (s.bump j).D.length + (s.F ++ [(x.p, x.x)]).length ∧ _
    refine ⟨?_, hb1024 e he⟩
    have hobt := hbm e he
    obtain ⟨e0, h0, _, h2⟩ := hobt
    have := (v.cnt e0 h0).1
    rw [hlb, List.length_append]
    simp
    omega
   ·show ((s.bump j).dir []).isSome
    rw [dir_bump]
    exact v.root
   ·rcases List.mem_append.1 he with h1 | h1
    ·exact v.x e h1
    ·rw [List.mem_singleton.1 h1]
     exact hxl
   ·show s.by_ + x.x.length = ((s.F ++ [(x.p, x.x)]).map (·.2.length)).sum
    rw [v.sum, List.map_append, List.sum_append]
    simp
 ·unfold VS.addIt
  split
  ·rename_i hd
   rw [(addDir_F s x.p).2.1, hdx hd]
   rfl
  ·unfold VS.addFile
   rw [hj]
end Go.Gx
