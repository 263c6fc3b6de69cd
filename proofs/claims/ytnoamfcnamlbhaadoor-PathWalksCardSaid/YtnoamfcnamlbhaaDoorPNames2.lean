/- What the laws' names tells. -/
import Derived.Test.YtnoamfcnamlbhaaDoorPNames
namespace Go.Gx
open Go.Proofs Go.RowKit
set_option linter.unusedVariables false
set_option linter.unusedSimpArgs false
set_option maxRecDepth 100000

theorem run_funcNil {P : Program} {f : Slots} {w : World} {d : Option Tmp} {ty : TypeId} {pos : String} {af : Array Edge} {x y : Operand} {T T' : TypeId} {F : Fn} {a b : Array Value} {A B : Array TypeId} {va : Bool} (hT : P.underlying T = some (.func A B va)) (hx : ev f x = .func F a b) (hy : ev f y = .nilFunc) :
    (execOp (ev f) ⟨d, .binOp .eql T x y T', ty, pos, af, none⟩).run P w = .ok (.value (.bool false)) w := by
  have h0 : ∀ d, (Op.equalIn (d + 1) T (.func F a b) .nilFunc).run P w = .ok false w := fun d => by simp [Op.equalIn, run_underlying hT]
  have h : (Op.equal T (.func F a b) .nilFunc).run P w = .ok false w := h0 9999
  simp [execOp, hx, hy, eqGuard, binOp, h]

theorem namesP_spec {s : List UInt8} (w0 : World) : Calls Tryd.prog 22 #[str s] w0 fun e w' => ∃ b, e = .returned (.func (.func 44) #[] #[.pointer (some ⟨b, 0, none⟩)]) ∧ Step [] [(b, blk 9 [str s])] w0 w' := by
  have hs : Step [] [] w0 w0 := Step.refl w0
  refine calls (n := 4) Tryd.func22 rfl rfl rfl ?_
  repeat (first | refine CW.seq ?_ | refine CW.block ?_ | refine CW.skip ?_ | refine CW.label ?_ | refine CW.exit ?_ | refine CW.condT rfl ?_ | refine CW.condF rfl ?_)
  refine CW.reg ?_
  refine WL.box rfl (rfl) rfl hs (fun b1 w hs => ?_)
  refine WL.val rfl (run_assign) ?_
  refine WL.nil ?_
  repeat (first | refine CW.seq ?_ | refine CW.block ?_ | refine CW.skip ?_ | refine CW.label ?_ | refine CW.exit ?_ | refine CW.condT rfl ?_ | refine CW.condF rfl ?_)
  refine CW.reg ?_
  refine WL.val rfl (run_makeFuncC rfl) ?_
  refine WL.val rfl (run_assign) ?_
  refine WL.nil ?_
  repeat (first | refine CW.seq ?_ | refine CW.block ?_ | refine CW.skip ?_ | refine CW.label ?_ | refine CW.exit ?_ | refine CW.condT rfl ?_ | refine CW.condF rfl ?_)
  refine CW.ret ?_
  refine fin_ret1 rfl ?_
  exact ⟨b1, rfl, hs⟩

set_option maxHeartbeats 4000000 in
theorem names_spec {s : List UInt8} (w0 : World) (hg : Gl w0) (hs1 : s.length < 4294967281) : Calls Tryd.prog 20 #[str s] w0 fun e w' => ∃ u Lu, e = .returned (.tuple #[u, .bool true]) ∧ OwnSl 9 1 u (partsL s).length (strs (partsL s)) Lu ∧ Step [] Lu w0 w' := by
  have hpl := partsL_len s
  have hs : Step [] [] w0 w0 := Step.refl w0
  refine callsM (n := 18) Tryd.func20 rfl rfl rfl ?_
  repeat (first | refine CW.seq ?_ | refine CW.block ?_ | refine CW.skip ?_ | refine CW.label ?_ | refine CW.exit ?_ | refine CW.condT rfl ?_ | refine CW.condF rfl ?_)
  refine CW.reg ?_
  refine WL.val rfl (run_assign) ?_
  refine WL.val rfl (run_assign) ?_
  refine WL.nil ?_
  repeat (first | refine CW.seq ?_ | refine CW.block ?_ | refine CW.skip ?_ | refine CW.label ?_ | refine CW.exit ?_ | refine CW.condT rfl ?_ | refine CW.condF rfl ?_)
  refine CW.reg ?_
  refine WL.val rfl (run_move) ?_
  refine WL.enter rfl (run_call en22 rfl rfl) (namesP_spec _) ?_
  rintro e w ⟨b, rfl, hq⟩
  refine ⟨_, rfl, ?_⟩
  replace hs := hs.call0 hq
  refine WL.val rfl (run_assign) ?_
  refine WL.nil ?_
  repeat (first | refine CW.seq ?_ | refine CW.block ?_ | refine CW.skip ?_ | refine CW.label ?_ | refine CW.exit ?_ | refine CW.condT rfl ?_ | refine CW.condF rfl ?_)
  refine CW.reg ?_
  refine WL.val rfl (run_move) ?_
  refine WL.val rfl (run_funcNil Tryd.underlying38 rfl rfl) ?_
  refine WL.nil ?_
  repeat (first | refine CW.seq ?_ | refine CW.block ?_ | refine CW.skip ?_ | refine CW.label ?_ | refine CW.exit ?_ | refine CW.condT rfl ?_ | refine CW.condF rfl ?_)
  refine CW.reg ?_
  refine WL.alloc ty34 rfl hs (fun b5 w hs => ?_)
  refine WL.nil ?_
  repeat (first | refine CW.seq ?_ | refine CW.block ?_ | refine CW.skip ?_ | refine CW.label ?_ | refine CW.exit ?_ | refine CW.condT rfl ?_ | refine CW.condF rfl ?_)
  refine CW.reg ?_
  refine WL.val rfl (run_move) ?_
  refine WL.nil ?_
  have hcap : ∀ {L w}, Step [] ((b5, blk 34 [.slice none 0 0]) :: L ++ [(b, blk 9 [str s])]) w0 w → w.cell? ⟨b, 0, none⟩ = some (str s) := fun h => by
    have := h.has (b, blk 9 [str s]) (by simp)
    rw [cell_blk this]; rfl
  repeat (first | refine CW.seq ?_ | refine CW.block ?_ | refine CW.skip ?_ | refine CW.label ?_ | refine CW.exit ?_ | refine CW.condT rfl ?_ | refine CW.condF rfl ?_)
  refine CW.rangeFunc (cap := [.pointer (some ⟨b, 0, none⟩)]) en44 rfl hs ?_
  intro l b0 r w2 hrec hrs hrp hs2
  have hgl : Gl w2 := hg.step hs2
  have hbc : w2.cell? ⟨b, 0, none⟩ = some (str s) := by
    have := hs2.has (b, blk 9 [str s]) (by simp)
    rw [cell_blk this]; rfl
  clear hs hcap
  refine (names1_iter w2 hbc hgl hs1
    (J := fun k L W => ∃ u Lv, L = (l, .loop r) :: (b0, .deferred (some [])) :: (b5, blk 34 [u]) :: Lv ∧ OwnSl 9 1 u k (strs ((partsL s).take k)) Lv ∧ k ≤ (partsL s).length ∧ Step [] L w0 W)
    (Jx := fun _ => False) (L0 := [(l, .loop r), (b0, .deferred (some [])), (b5, blk 34 [.slice none 0 0])]) ?_ ?_ ?_ ?_).mono ?_
  · rintro k L W W' ⟨u, Lv, rfl, hu, hk, hs⟩ h'
    exact ⟨u, Lv, rfl, hu, hk, hs.callE h'⟩
  · intro p hp
    exact lt_of_get (hs2.has p (by simp only [List.mem_cons, List.not_mem_nil, or_false] at hp ⊢; rcases hp with h | h | h <;> simp [h]))
  · exact ⟨_, [], rfl, .nil _ _, Nat.zero_le _, Step.dropR (L1 := [_, _, _]) hs2⟩
  · rintro k p L W hp ⟨u, Lv, rfl, hu, hk, hs⟩
    have hlt := (List.getElem?_eq_some_iff.1 hp).1
    have hsW := hs.own0
    refine yields_of (n := 18) hrec hrs rfl hsW ?_
    have hs3 := hsW
    repeat (first | refine CWI.seq ?_ | refine CWI.block ?_ | refine CWI.skip ?_ | refine CWI.label ?_ | refine CWI.exit ?_ | refine CWI.condT rfl ?_ | refine CWI.condF rfl ?_)
    refine CWI.reg rfl (fun _ _ _ h => h) ?_
    refine WL.val rfl (run_assign) ?_
    refine WL.nil ?_
    refine ⟨_, _, _, _, hsW, hrs, fun w3 hs => ?_⟩
    clear hs3
    repeat (first | refine CWI.seq ?_ | refine CWI.block ?_ | refine CWI.skip ?_ | refine CWI.label ?_ | refine CWI.exit ?_ | refine CWI.condT rfl ?_ | refine CWI.condF rfl ?_)
    refine CWI.reg rfl (fun _ _ _ h => h) ?_
    refine WL.val rfl (run_load1 ty34 rfl ((hs.c2 rfl))) ?_
    refine WL.val rfl (run_move) ?_
    refine WL.buildSlice (cs := [str p]) Tryd.underlying34 ty9 rfl (by decide) rfl (filled_s _ _ rfl) rfl hs (fun b15 w hs => ?_)
    have hsl : Sl w 1 (.slice (some ⟨b15, 0, none⟩) 1 1) 1 [str p] := .own1 hs rfl
    refine WL.append Tryd.underlying34 Tryd.underlying34 ty9 rfl (by decide) rfl rfl (hu) ((hs.perm (show List.Perm _ (Lv ++ [(b15, blk 9 [str p]), (l, .loop (Loop.at r .busy r.pending)), (b0, .deferred (some [])), (b5, blk 34 [u])]) from List.perm_append_comm (l₁ := [_, _, _, _])))) (hsl) ((fun v hv => by rw [List.mem_singleton.1 hv]; rfl)) (by first | omega | (simp only [List.length_append, List.length_cons, List.length_nil]; omega)) rfl (fun v16 Lv16 w hv16 hs => ?_)
    refine WL.store1 ty34 rfl rfl (hv16.one) ((hs.perm (perm4 _ _ _ _ _))) (by first | (simp; done) | omega | (simp only [List.length_append, List.length_replicate, List.length_cons, List.length_nil, List.length_set]; omega) | (simp [Ent.cells, u8s]; done) | exact Nat.le_of_ble_eq_true rfl) (fun w hs => ?_)
    refine WL.nil ?_
    replace hs := Step.dropX (A := [_, _, _]) hs.rot3.rot3
    have eP : strs ((partsL s).take k) ++ [str p] = strs ((partsL s).take (k + 1)) := by
      rw [List.take_succ_eq_append_getElem hlt, (List.getElem?_eq_some_iff.1 hp).2, strs, strs, List.map_append]
      rfl
    rw [eP] at hv16
    repeat (first | refine CWI.seq ?_ | refine CWI.block ?_ | refine CWI.skip ?_ | refine CWI.label ?_ | refine CWI.exit ?_ | refine CWI.condT rfl ?_ | refine CWI.condF rfl ?_)
    refine ⟨_, _, _, _, hs, fun w' hs' => ?_⟩
    rw [Loop.at_back hrs hrp] at hs'
    rw [if_pos rfl]
    exact ⟨_, hs', _, _, rfl, hv16, by omega, Step.callAll (by assumption) hs'⟩
  · rintro e w' ⟨hret, ⟨L, u, Lv, rfl, hu, hk, hs⟩ | h⟩
    · refine ⟨hret, behind_none hs hrs hrp fun w hs => ?_⟩
      rw [List.take_length] at hu
      replace hs := hs.swap
      repeat (first | refine CW.seq ?_ | refine CW.block ?_ | refine CW.skip ?_ | refine CW.label ?_ | refine CW.exit ?_ | refine CW.condT rfl ?_ | refine CW.condF rfl ?_)
      refine CW.reg ?_
      refine WL.val rfl (run_load1 ty34 rfl ((hs.c2 rfl))) ?_
      refine WL.val rfl (run_assign) ?_
      refine WL.val rfl (run_assign) ?_
      refine WL.nil ?_
      repeat (first | refine CW.seq ?_ | refine CW.block ?_ | refine CW.skip ?_ | refine CW.label ?_ | refine CW.exit ?_ | refine CW.condT rfl ?_ | refine CW.condF rfl ?_)
      refine CW.ret ?_
      refine finM_ret (bs := [b0]) (.inl rfl) hs fun a ha w2 hs2 => ⟨_, res_tmp2 ha rfl, u, Lv, rfl, hu, Step.dropL (L1 := [_, _, _]) hs2⟩
    · exact h.elim
end Go.Gx
