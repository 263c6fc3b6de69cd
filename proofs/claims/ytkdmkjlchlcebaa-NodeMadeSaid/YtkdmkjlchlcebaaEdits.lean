/- NodeEdits' walk. -/
import Derived.Test.YtkdmkjlchlcebaaSl7
import Derived.Test.YtkdmkjlchlcebaaChecks
import Derived.Test.YtkdmkjlchlcebaaNBack
namespace Go.Gx
open Go.Proofs
set_option linter.unusedVariables false
set_option linter.unusedSimpArgs false
set_option maxRecDepth 100000
attribute [local irreducible] decE decL readP decP encB checkE

theorem withR_ok {x : Ent} (hx : x.ok) : ∀ {l : List Ent} {p : Bool}, Oks l → Oks (withR x p l)
  | [], p, h => by
    rw [withR]
    split
    · exact Oks.nil
    · exact Oks.one hx
  | y :: l, p, h => by
    rw [withR]
    refine Oks.append (Oks.append ?_ ?_) (withR_ok hx fun z hz => h z (by simp [hz]))
    · split
      · exact Oks.one hx
      · exact Oks.nil
    · split
      · exact Oks.one (h y (by simp))
      · exact Oks.nil
theorem withR_len {x : Ent} : ∀ {l : List Ent} {p : Bool}, (withR x p l).length ≤ 2 * l.length + 1
  | [], p => by
    rw [withR]
    split <;> simp
  | y :: l, p => by
    rw [withR]
    have := withR_len (x := x) (l := l) (p := p || !Op.bytesLess y.name x.name)
    simp only [List.length_append, List.length_cons]
    split <;> split <;> simp <;> omega
theorem remR_len (n : List UInt8) (l : List Ent) : (remR n l).length ≤ l.length := List.length_filter_le _ _
theorem findR_ok {n : List UInt8} : ∀ {l : List Ent}, Oks l → (findR n l).1.ok
  | [], _ => show zE.ok from ⟨rfl, by decide, by decide, by decide⟩
  | y :: l, h => by
    rw [findR]
    split
    · exact h y (by simp)
    · exact findR_ok fun z hz => h z (by simp [hz])

theorem run_neqBs {P : Program} {f : Slots} {w : World} {d : Option Tmp} {ty : TypeId} {pos : String} {af : Array Edge} {x y : Operand} {T T' : TypeId} {a : Bool} (hT : P.underlying T = some .bool) (hx : ev f x = .bool a) (hy : ev f y = .bool a) : (execOp (ev f) ⟨d, .binOp .neq T x y T', ty, pos, af, none⟩).run P w = .ok (.value (.bool false)) w := by
  rw [run_neqB hT hx hy]
  cases a <;> rfl
theorem es_one {S : List Nat} {L : List (Nat × Obj)} {w0 w : World} {b : Nat} {x : Ent} (hs : Step S ((b, blk 48 x.cells) :: L) w0 w) (hx : x.ok) : Es w (.slice (some ⟨b, 0, none⟩) 1 1) [x] := by
  refine ⟨?_, Oks.one hx, by simp⟩
  rw [rows_one]
  exact .own1 hs (by rw [Ent.cells_len hx])
theorem lessS_spec {v : Value} {l : List Ent} {n : List UInt8} (w0 : World) (hl : Es w0 v l) (hc : Rising l) (hbb : l.length ≤ 1000000) :
    Calls Try.prog 24 #[v, str n] w0 fun e w' => ∃ u Lu, e = .returned u ∧ OwnSl 48 34 u (remR n l).length (rows (remR n l)) Lu ∧ Step [] Lu w0 w' :=
  (lessE_spec w0 hl hbb).mono fun e w' ⟨i, u, Lu, h1, h2, h3, h4, h5⟩ => by
    rw [lessP_eq (halves hc (h3 hc) h2)] at h4
    exact ⟨u, Lu, h1, h4, h5⟩
theorem withS_spec {v : Value} {l : List Ent} {x : Ent} (w0 : World) (hl : Es w0 v l) (hc : Rising l) (hbb : l.length ≤ 1000000) (hx : x.ok) :
    Calls Try.prog 28 #[v, .agg x.cells.toArray] w0 fun e w' => ∃ u Lu, e = .returned u ∧ OwnSl 48 34 u (withR x false l).length (rows (withR x false l)) Lu ∧ Step [] Lu w0 w' :=
  (withE_spec w0 hl hbb hx).mono fun e w' ⟨i, u, Lu, h1, h2, h3, h4, h5⟩ => by
    rw [withP_eq (halves hc (h3 hc) h2) h2] at h4
    exact ⟨u, Lu, h1, h4, h5⟩
theorem findS_spec {v : Value} {l : List Ent} {n : List UInt8} (w0 : World) (hl : Es w0 v l) (hc : Rising l) (hbb : l.length ≤ 1000000) :
    Calls Try.prog 26 #[v, str n] w0 fun e w' => e = .returned (.tuple #[.agg (findR n l).1.cells.toArray, .bool (findR n l).2]) ∧ Step [] [] w0 w' :=
  (findE_spec w0 hl hbb).mono fun e w' ⟨i, h1, h2, h3, h4⟩ => by
    have h := findP_eq (halves hc (h3 hc) h2)
    rw [← h]
    exact ⟨h1, h4⟩

set_option maxHeartbeats 1600000 in
theorem edits_spec {v : Value} {l : List Ent} {x : Ent} {n : List UInt8} (w0 : World) (hl : Es w0 v l) (hcap : Room v) (hx : x.ok) : Calls Try.prog 7 #[v, .agg x.cells.toArray, str n] w0 fun e w' => e = .returned (.bool true) ∧ Step [] [] w0 w' := by
  have hs : Step [] [] w0 w0 := Step.refl w0
  have hxl := Ent.cells_len hx
  have hobt := hl.2
  obtain ⟨ho, hb⟩ := hobt
  by_cases hc : checkE l = 0
  · have hl1024 := (check_parts hc).1
    have hris := check_rising hc
    have hrl := remR_len n l
    have hwl := withR_len (x := x) (l := l) (p := false)
    have hro := remR_ok n ho
    have hwo := withR_ok (p := false) hx ho
    have hfo := findR_ok (n := n) ho
    have hfl := Ent.cells_len hfo
    refine calls (n := 83) Try.func7 rfl rfl rfl ?_
    repeat (first | refine CW.seq ?_ | refine CW.block ?_ | refine CW.skip ?_ | refine CW.exit ?_ | refine CW.condT rfl ?_ | refine CW.condF rfl ?_)
    refine CW.reg ?_
    refine WL.box (cs := x.cells) rfl rfl rfl hs (fun b4 w hs => ?_)
    refine WL.val rfl (run_assign) ?_
    refine WL.nil ?_
    repeat (first | refine CW.seq ?_ | refine CW.block ?_ | refine CW.skip ?_ | refine CW.exit ?_ | refine CW.condT rfl ?_ | refine CW.condF rfl ?_)
    refine CW.reg ?_
    refine WL.enter rfl (run_call en11 rfl rfl) (known_spec _) ?_
    rintro e w ⟨rfl, hq⟩
    refine ⟨_, rfl, ?_⟩
    replace hs := hs.callE hq
    first | refine WL.val rfl (run_notB rfl) ?_ | refine WL.val rfl (run_not rfl) ?_
    refine WL.nil ?_
    repeat (first | refine CW.seq ?_ | refine CW.block ?_ | refine CW.skip ?_ | refine CW.exit ?_ | refine CW.condT rfl ?_ | refine CW.condF rfl ?_)
    refine CW.reg ?_
    refine WL.val rfl (run_move) ?_
    refine WL.enter rfl (run_call en14 rfl rfl) (checkR_spec hc _ (hl.step0 hs.clear) hcap) ?_
    rintro e w ⟨rfl, hq⟩
    refine ⟨_, rfl, ?_⟩
    replace hs := hs.callE hq
    refine WL.val rfl (run_bF (run_neq rfl rfl) (by decide)) ?_
    refine WL.nil ?_
    repeat (first | refine CW.seq ?_ | refine CW.block ?_ | refine CW.skip ?_ | refine CW.exit ?_ | refine CW.condT rfl ?_ | refine CW.condF rfl ?_)
    refine CW.reg ?_
    refine WL.val rfl (run_move) ?_
    refine WL.enter rfl (run_call en12 rfl rfl) (lend_spec _ (hl.step0 hs.clear) (by omega)) ?_
    rintro e w ⟨b20, rfl, hq⟩
    refine ⟨_, rfl, ?_⟩
    replace hs := hs.call0 hq
    refine WL.val rfl (run_assign) ?_
    refine WL.nil ?_
    repeat (first | refine CW.seq ?_ | refine CW.block ?_ | refine CW.skip ?_ | refine CW.exit ?_ | refine CW.condT rfl ?_ | refine CW.condF rfl ?_)
    refine CW.reg ?_
    refine WL.val rfl (run_move) ?_
    refine WL.val rfl (run_move) ?_
    refine WL.enter rfl (run_call en24 rfl rfl) (lessS_spec (l := l) (n := n) _ (lent_es hs ho hb) hris (by omega)) ?_
    rintro e w ⟨u, Lu, rfl, hu, hq⟩
    refine ⟨_, rfl, ?_⟩
    replace hs := (hs.call0 hq).append_comm
    refine WL.val rfl (run_assign) ?_
    refine WL.nil ?_
    replace hs : Step [] ([(b20, LendB b20 l), (b4, blk 48 x.cells)] ++ Lu) w0 w := hs
    repeat (first | refine CW.seq ?_ | refine CW.block ?_ | refine CW.skip ?_ | refine CW.exit ?_ | refine CW.condT rfl ?_ | refine CW.condF rfl ?_)
    refine CW.reg ?_
    refine WL.val rfl (run_move) ?_
    refine WL.val rfl (run_move) ?_
    refine WL.enter rfl (run_call en15 rfl rfl) (kept_spec _ (hl.step0 hs.clear) (by omega) (Step.hd (L := (b4, blk 48 x.cells) :: Lu) hs)) ?_
    rintro e w ⟨rfl, hq⟩
    refine ⟨_, rfl, ?_⟩
    replace hs : Step [] ((b4, blk 48 x.cells) :: Lu) w0 w := Step.call (L1 := [_]) (L := (b4, blk 48 x.cells) :: Lu) (L' := []) hs hq
    first | refine WL.val rfl (run_notB rfl) ?_ | refine WL.val rfl (run_not rfl) ?_
    refine WL.val rfl (run_move) ?_
    refine WL.yes rfl rfl rfl ?_
    refine WL.val rfl (run_move) ?_
    refine WL.yes rfl rfl rfl ?_
    refine WL.val rfl (run_move) ?_
    refine WL.yes rfl rfl rfl ?_
    refine WL.val rfl (run_move) ?_
    refine WL.yes rfl rfl rfl ?_
    refine WL.enter rfl (run_call en25 rfl rfl) (lessR_spec (l := l) (n := n) _ (hl.step0 hs.clear) (by omega)) ?_
    rintro e w ⟨u2, Lu2, rfl, hu2, hq⟩
    refine ⟨_, rfl, ?_⟩
    replace hs := (hs.call0 hq).append_comm
    refine WL.yes rfl rfl rfl ?_
    refine WL.enter rfl (run_call en22 rfl rfl) (same_true rfl _ (hu.es hro (by omega) (Step.dropL (L1 := [_]) (L2 := Lu ++ Lu2) hs)) (hu2.es hro (by omega) hs.append_comm)) ?_
    rintro e w ⟨rfl, hq⟩
    refine ⟨_, rfl, ?_⟩
    replace hs := hs.callE hq
    refine WL.yes rfl rfl rfl ?_
    first | refine WL.val rfl (run_notB rfl) ?_ | refine WL.val rfl (run_not rfl) ?_
    first | refine WL.val rfl (run_pickT rfl) ?_ | refine WL.val rfl (run_pickF rfl) ?_
    refine WL.nil ?_
    replace hs : Step [] [(b4, blk 48 x.cells)] w0 w := Step.dropR (L1 := [_]) (Step.dropR (L1 := _ :: Lu) hs)
    repeat (first | refine CW.seq ?_ | refine CW.block ?_ | refine CW.skip ?_ | refine CW.exit ?_ | refine CW.condT rfl ?_ | refine CW.condF rfl ?_)
    refine CW.reg ?_
    refine WL.val rfl (run_move) ?_
    refine WL.enter rfl (run_call en12 rfl rfl) (lend_spec _ (hl.step0 hs.clear) (by omega)) ?_
    rintro e w ⟨b37, rfl, hq⟩
    refine ⟨_, rfl, ?_⟩
    replace hs := hs.call0 hq
    refine WL.val rfl (run_assign) ?_
    refine WL.nil ?_
    replace hs : Step [] [(b37, LendB b37 l), (b4, blk 48 x.cells)] w0 w := hs
    repeat (first | refine CW.seq ?_ | refine CW.block ?_ | refine CW.skip ?_ | refine CW.exit ?_ | refine CW.condT rfl ?_ | refine CW.condF rfl ?_)
    refine CW.reg ?_
    refine WL.val rfl (run_move) ?_
    refine WL.val rfl (run_move) ?_
    refine WL.enter rfl (run_call en26 rfl rfl) (findS_spec (l := l) (n := n) _ (lent_es hs ho hb) hris (by omega)) ?_
    rintro e w ⟨rfl, hq⟩
    refine ⟨_, rfl, ?_⟩
    replace hs := hs.callE hq
    refine WL.val rfl (run_move) ?_
    refine WL.val rfl (run_extract rfl rfl) ?_
    refine WL.val rfl (run_extract rfl rfl) ?_
    refine WL.alloc ty48 rfl hs (fun b9 w hs => ?_)
    first | refine WL.storeAll ty48 rfl rfl ((hfl)) (Ent.cells1 _) hs (by first | rfl | assumption) (fun w hs => ?_) | refine WL.storeAll_1 ty48 rfl rfl ((hfl)) (Ent.cells1 _) hs (by first | rfl | assumption) (fun w hs => ?_) | refine WL.storeAll_2 ty48 rfl rfl ((hfl)) (Ent.cells1 _) hs (by first | rfl | assumption) (fun w hs => ?_) | refine WL.storeAll_3 ty48 rfl rfl ((hfl)) (Ent.cells1 _) hs (by first | rfl | assumption) (fun w hs => ?_) | refine WL.storeAll_4 ty48 rfl rfl ((hfl)) (Ent.cells1 _) hs (by first | rfl | assumption) (fun w hs => ?_) | refine WL.storeAll ty48 rfl rfl ((hfl)) (Ent.cells1 _) hs (by first | rfl | assumption) (fun w hs => ?_)
    refine WL.val rfl (run_assign) ?_
    refine WL.nil ?_
    repeat (first | refine CW.seq ?_ | refine CW.block ?_ | refine CW.skip ?_ | refine CW.exit ?_ | refine CW.condT rfl ?_ | refine CW.condF rfl ?_)
    refine CW.reg ?_
    refine WL.val rfl (run_move) ?_
    refine WL.val rfl (run_move) ?_
    refine WL.enter rfl (run_call en27 rfl rfl) (findR_spec (l := l) (n := n) _ (hl.step0 hs.clear)) ?_
    rintro e w ⟨rfl, hq⟩
    refine ⟨_, rfl, ?_⟩
    replace hs := hs.callE hq
    refine WL.val rfl (run_move) ?_
    refine WL.val rfl (run_extract rfl rfl) ?_
    refine WL.val rfl (run_extract rfl rfl) ?_
    refine WL.alloc ty48 rfl hs (fun b11 w hs => ?_)
    first | refine WL.storeAll ty48 rfl rfl ((hfl)) (Ent.cells1 _) hs (by first | rfl | assumption) (fun w hs => ?_) | refine WL.storeAll_1 ty48 rfl rfl ((hfl)) (Ent.cells1 _) hs (by first | rfl | assumption) (fun w hs => ?_) | refine WL.storeAll_2 ty48 rfl rfl ((hfl)) (Ent.cells1 _) hs (by first | rfl | assumption) (fun w hs => ?_) | refine WL.storeAll_3 ty48 rfl rfl ((hfl)) (Ent.cells1 _) hs (by first | rfl | assumption) (fun w hs => ?_) | refine WL.storeAll_4 ty48 rfl rfl ((hfl)) (Ent.cells1 _) hs (by first | rfl | assumption) (fun w hs => ?_) | refine WL.storeAll ty48 rfl rfl ((hfl)) (Ent.cells1 _) hs (by first | rfl | assumption) (fun w hs => ?_)
    refine WL.val rfl (run_assign) ?_
    refine WL.nil ?_
    replace hs : Step [] [(b37, LendB b37 l), (b9, blk 48 (findR n l).1.cells), (b11, blk 48 (findR n l).1.cells), (b4, blk 48 x.cells)] w0 w := (hs.front [_, _]).perm (List.Perm.cons _ (List.Perm.swap _ _ _))
    repeat (first | refine CW.seq ?_ | refine CW.block ?_ | refine CW.skip ?_ | refine CW.exit ?_ | refine CW.condT rfl ?_ | refine CW.condF rfl ?_)
    refine CW.reg ?_
    refine WL.val rfl (run_move) ?_
    refine WL.val rfl (run_move) ?_
    refine WL.enter rfl (run_call en15 rfl rfl) (kept_spec _ (hl.step0 hs.clear) (by omega) (Step.hd hs)) ?_
    rintro e w ⟨rfl, hq⟩
    refine ⟨_, rfl, ?_⟩
    replace hs : Step [] [(b9, blk 48 (findR n l).1.cells), (b11, blk 48 (findR n l).1.cells), (b4, blk 48 x.cells)] w0 w := Step.call (L1 := [_]) (L' := []) hs hq
    first | refine WL.val rfl (run_notB rfl) ?_ | refine WL.val rfl (run_not rfl) ?_
    refine WL.val rfl (run_move) ?_
    refine WL.yes rfl rfl rfl ?_
    refine WL.val rfl (run_move) ?_
    refine WL.yes rfl rfl rfl ?_
    refine WL.val rfl (run_move) ?_
    refine WL.yes rfl rfl rfl ?_
    refine WL.val rfl (run_neqBs Try.underlying4 rfl rfl) ?_
    first | refine WL.val rfl (run_pickT rfl) ?_ | refine WL.val rfl (run_pickF rfl) ?_
    refine WL.val rfl (run_move) ?_
    refine WL.yes rfl rfl rfl ?_
    first | refine WL.val rfl (run_loadN ty48 rfl (by first | rfl | assumption | (simp; done)) hs.a0) ?_ | refine WL.val rfl (run_loadN ty48 rfl (by first | rfl | assumption | (simp; done)) hs.a1) ?_ | refine WL.val rfl (run_loadN ty48 rfl (by first | rfl | assumption | (simp; done)) hs.a2) ?_ | refine WL.val rfl (run_loadN ty48 rfl (by first | rfl | assumption | (simp; done)) hs.a3) ?_ | refine WL.val rfl (run_loadN ty48 rfl (by first | rfl | assumption | (simp; done)) hs.a4) ?_ | refine WL.val rfl (run_loadN ty48 rfl (by first | rfl | assumption | (simp; done)) hs.a5) ?_ | refine WL.val rfl (run_loadN ty48 rfl (by first | rfl | assumption | (simp; done)) hs.a0) ?_
    refine WL.yes rfl rfl rfl ?_
    first | refine WL.val rfl (run_loadN ty48 rfl (by first | rfl | assumption | (simp; done)) hs.a0) ?_ | refine WL.val rfl (run_loadN ty48 rfl (by first | rfl | assumption | (simp; done)) hs.a1) ?_ | refine WL.val rfl (run_loadN ty48 rfl (by first | rfl | assumption | (simp; done)) hs.a2) ?_ | refine WL.val rfl (run_loadN ty48 rfl (by first | rfl | assumption | (simp; done)) hs.a3) ?_ | refine WL.val rfl (run_loadN ty48 rfl (by first | rfl | assumption | (simp; done)) hs.a4) ?_ | refine WL.val rfl (run_loadN ty48 rfl (by first | rfl | assumption | (simp; done)) hs.a5) ?_ | refine WL.val rfl (run_loadN ty48 rfl (by first | rfl | assumption | (simp; done)) hs.a0) ?_
    refine WL.yes rfl rfl rfl ?_
    refine WL.val rfl (run_bF (run_neqAgg Ent.lits_iff ent_key (ent_formed hfo) (ent_formed hfo) ent_guard rfl rfl (lits_ent hfo) (lits_ent hfo)) (by simp)) ?_
    first | refine WL.val rfl (run_pickT rfl) ?_ | refine WL.val rfl (run_pickF rfl) ?_
    refine WL.nil ?_
    replace hs : Step [] [(b4, blk 48 x.cells)] w0 w := Step.dropL (L1 := [_, _]) hs
    by_cases hcx : checkE [x] = 0
    · repeat (first | refine CW.seq ?_ | refine CW.block ?_ | refine CW.skip ?_ | refine CW.exit ?_ | refine CW.condT rfl ?_ | refine CW.condF rfl ?_)
      refine CW.reg ?_
      refine WL.val rfl (run_loadN ty48 rfl hxl hs.a0) ?_
      refine WL.buildSlice (cs := x.cells) Try.underlying22 ty48 rfl (by decide) rfl (filled1 hxl rfl) rfl hs (fun b65 w hs => ?_)
      refine WL.enter rfl (run_call en14 rfl rfl) (checkR_spec (l := [x]) hcx _ (es_one hs hx) (Nat.le_refl 1)) ?_
      rintro e w ⟨rfl, hq⟩
      refine ⟨_, rfl, ?_⟩
      replace hs := (hs.callE hq).tail
      refine WL.val rfl (run_bF (run_neq rfl rfl) (by decide)) ?_
      refine WL.nil ?_
      repeat (first | refine CW.seq ?_ | refine CW.block ?_ | refine CW.skip ?_ | refine CW.exit ?_ | refine CW.condT rfl ?_ | refine CW.condF rfl ?_)
      refine CW.reg ?_
      refine WL.val rfl (run_move) ?_
      refine WL.enter rfl (run_call en12 rfl rfl) (lend_spec _ (hl.step0 hs.clear) (by omega)) ?_
      rintro e w ⟨b69, rfl, hq⟩
      refine ⟨_, rfl, ?_⟩
      replace hs := hs.call0 hq
      refine WL.val rfl (run_assign) ?_
      refine WL.nil ?_
      replace hs : Step [] [(b69, LendB b69 l), (b4, blk 48 x.cells)] w0 w := hs
      repeat (first | refine CW.seq ?_ | refine CW.block ?_ | refine CW.skip ?_ | refine CW.exit ?_ | refine CW.condT rfl ?_ | refine CW.condF rfl ?_)
      refine CW.reg ?_
      refine WL.val rfl (run_move) ?_
      refine WL.val rfl (run_loadN ty48 rfl hxl hs.a1) ?_
      refine WL.enter rfl (run_call en28 rfl rfl) (withS_spec (l := l) (x := x) _ (lent_es hs ho hb) hris (by omega) hx) ?_
      rintro e w ⟨u3, Lu3, rfl, hu3, hq⟩
      refine ⟨_, rfl, ?_⟩
      replace hs := (hs.call0 hq).append_comm
      refine WL.val rfl (run_assign) ?_
      refine WL.nil ?_
      replace hs : Step [] ([(b69, LendB b69 l), (b4, blk 48 x.cells)] ++ Lu3) w0 w := hs
      repeat (first | refine CW.seq ?_ | refine CW.block ?_ | refine CW.skip ?_ | refine CW.exit ?_ | refine CW.condT rfl ?_ | refine CW.condF rfl ?_)
      refine CW.reg ?_
      refine WL.val rfl (run_move) ?_
      refine WL.val rfl (run_move) ?_
      refine WL.enter rfl (run_call en15 rfl rfl) (kept_spec _ (hl.step0 hs.clear) (by omega) (Step.hd (L := (b4, blk 48 x.cells) :: Lu3) hs)) ?_
      rintro e w ⟨rfl, hq⟩
      refine ⟨_, rfl, ?_⟩
      replace hs : Step [] ((b4, blk 48 x.cells) :: Lu3) w0 w := Step.call (L1 := [_]) (L := (b4, blk 48 x.cells) :: Lu3) (L' := []) hs hq
      refine WL.val rfl (run_move) ?_
      refine WL.yes rfl rfl rfl ?_
      refine WL.val rfl (run_move) ?_
      refine WL.yes rfl rfl rfl ?_
      refine WL.val rfl (run_move) ?_
      refine WL.yes rfl rfl rfl ?_
      refine WL.val rfl (run_loadN ty48 rfl hxl hs.a0) ?_
      refine WL.yes rfl rfl rfl ?_
      refine WL.enter rfl (run_call en29 rfl rfl) (withR_spec (l := l) (x := x) _ (hl.step0 hs.clear) (by omega) hx) ?_
      rintro e w ⟨u4, Lu4, rfl, hu4, hwo4, hq⟩
      refine ⟨_, rfl, ?_⟩
      replace hs := (hs.call0 hq).append_comm
      refine WL.yes rfl rfl rfl ?_
      refine WL.enter rfl (run_call en22 rfl rfl) (same_true rfl _ (hu3.es hwo (by omega) (Step.dropL (L1 := [_]) (L2 := Lu3 ++ Lu4) hs)) (hu4.es hwo (by omega) hs.append_comm)) ?_
      rintro e w ⟨rfl, hq⟩
      refine ⟨_, rfl, ?_⟩
      replace hs := hs.callE hq
      first | refine WL.val rfl (run_pickT rfl) ?_ | refine WL.val rfl (run_pickF rfl) ?_
      refine WL.val rfl (run_assign) ?_
      refine WL.nil ?_
      repeat (first | refine CW.seq ?_ | refine CW.block ?_ | refine CW.skip ?_ | refine CW.exit ?_ | refine CW.condT rfl ?_ | refine CW.condF rfl ?_)
      refine CW.ret ?_
      refine fin_ret1 rfl ?_
      exact ⟨rfl, hs.clear⟩
    · repeat (first | refine CW.seq ?_ | refine CW.block ?_ | refine CW.skip ?_ | refine CW.exit ?_ | refine CW.condT rfl ?_ | refine CW.condF rfl ?_)
      refine CW.reg ?_
      refine WL.val rfl (run_loadN ty48 rfl hxl hs.a0) ?_
      refine WL.buildSlice (cs := x.cells) Try.underlying22 ty48 rfl (by decide) rfl (filled1 hxl rfl) rfl hs (fun b65 w hs => ?_)
      refine WL.enter rfl (run_call en14 rfl rfl) (checkR_spec (l := [x]) rfl _ (es_one hs hx) (Nat.le_refl 1)) ?_
      rintro e w ⟨rfl, hq⟩
      refine ⟨_, rfl, ?_⟩
      replace hs := (hs.callE hq).tail
      refine WL.val rfl (run_bT (run_neq rfl rfl) (by exact hcx)) ?_
      refine WL.nil ?_
      repeat (first | refine CW.seq ?_ | refine CW.block ?_ | refine CW.skip ?_ | refine CW.exit ?_ | refine CW.condT rfl ?_ | refine CW.condF rfl ?_)
      refine CW.reg ?_
      refine WL.val rfl (run_assign) ?_
      refine WL.nil ?_
      repeat (first | refine CW.seq ?_ | refine CW.block ?_ | refine CW.skip ?_ | refine CW.exit ?_ | refine CW.condT rfl ?_ | refine CW.condF rfl ?_)
      refine CW.ret ?_
      refine fin_ret1 rfl ?_
      exact ⟨rfl, hs.clear⟩
  · refine calls (n := 83) Try.func7 rfl rfl rfl ?_
    repeat (first | refine CW.seq ?_ | refine CW.block ?_ | refine CW.skip ?_ | refine CW.exit ?_ | refine CW.condT rfl ?_ | refine CW.condF rfl ?_)
    refine CW.reg ?_
    refine WL.box (cs := x.cells) rfl rfl rfl hs (fun b4 w hs => ?_)
    refine WL.val rfl (run_assign) ?_
    refine WL.nil ?_
    repeat (first | refine CW.seq ?_ | refine CW.block ?_ | refine CW.skip ?_ | refine CW.exit ?_ | refine CW.condT rfl ?_ | refine CW.condF rfl ?_)
    refine CW.reg ?_
    refine WL.enter rfl (run_call en11 rfl rfl) (known_spec _) ?_
    rintro e w ⟨rfl, hq⟩
    refine ⟨_, rfl, ?_⟩
    replace hs := hs.callE hq
    first | refine WL.val rfl (run_notB rfl) ?_ | refine WL.val rfl (run_not rfl) ?_
    refine WL.nil ?_
    repeat (first | refine CW.seq ?_ | refine CW.block ?_ | refine CW.skip ?_ | refine CW.exit ?_ | refine CW.condT rfl ?_ | refine CW.condF rfl ?_)
    refine CW.reg ?_
    refine WL.val rfl (run_move) ?_
    refine WL.enter rfl (run_call en14 rfl rfl) (checkR_spec rfl _ (hl.step0 hs.clear) hcap) ?_
    rintro e w ⟨rfl, hq⟩
    refine ⟨_, rfl, ?_⟩
    replace hs := hs.callE hq
    refine WL.val rfl (run_bT (run_neq rfl rfl) (by exact hc)) ?_
    refine WL.nil ?_
    repeat (first | refine CW.seq ?_ | refine CW.block ?_ | refine CW.skip ?_ | refine CW.exit ?_ | refine CW.condT rfl ?_ | refine CW.condF rfl ?_)
    refine CW.reg ?_
    refine WL.val rfl (run_assign) ?_
    refine WL.nil ?_
    repeat (first | refine CW.seq ?_ | refine CW.block ?_ | refine CW.skip ?_ | refine CW.exit ?_ | refine CW.condT rfl ?_ | refine CW.condF rfl ?_)
    refine CW.ret ?_
    refine fin_ret1 rfl ?_
    exact ⟨rfl, hs.clear⟩
end Go.Gx
