/- Ranges over a function, over slots: rounds, yields, marks. No program in sight. -/
import Derived.Test.YtnoamfcnamlbhaaDoorPan
import Derived.Test.YtnoamfcnamlbhaaDoorRune1
import Derived.RangeFuncRecord
import Derived.RangeFuncNested
namespace Go.Gx
set_option linter.unusedVariables false
set_option linter.unusedSimpArgs false

/-- The wide fence, plain or within a round. -/
def Fr (ro : Option Nat) : Fence := { Fence.wide with round := ro }
theorem fr_room (ro : Option Nat) (n : Nat) : (Fr ro).room n := fun _ h => by simp [Fr, Fence.wide] at h
theorem fr_calls {ro : Option Nat} {k : Nat} {P : Program} {F : FuncId} {args : Array Value} {w : World} {R : Ending → World → Prop} (h : Calls P F args w R) : CallsIn (Fr ro) k P F args w R := callsIn_wide.2 h
theorem fr_calls' {ro : Option Nat} {k : Nat} {P : Program} {F : FuncId} {args : Array Value} {w : World} {R : Ending → World → Prop} (h : CallsIn (Fr ro) k P F args w R) : Calls P F args w R := callsIn_wide.1 h

section
variable {P : Program} {ops : Array Oper}

def plainOp (o : Oper) : Bool := match o.op with | .defer _ => false | _ => true
theorem plainOp_ne {o : Oper} (h : plainOp o = true) : ∀ c, o.op ≠ .defer c := fun c e => by
  unfold plainOp at h
  rw [e] at h
  cases h
theorem semAt_fr {ro : Option Nat} {o : Oper} (h : plainOp o = true) (ρ : Operand → Value) : o.semAt ro ρ = execOp ρ o := Oper.semAt_eq ro ρ o (plainOp_ne h)

/-- What holds of a list of plain operations holds of it within a round. -/
theorem wpListIn_of {ro : Option Nat} {Q : Exit → Act → World → Prop} (hQ : ∀ a w, ¬ Q .outgrown a w) : ∀ (l : List Oper) (a : Act) (w : World), (l.all plainOp) = true → wpList P ops Q l a w → wpListIn (Fr ro) 0 P ops Q l a w
  | [], a, w, _, h => h
  | o :: l, a, w, hp, h => by
    rw [List.all_cons, Bool.and_eq_true] at hp
    have ih := fun a w => wpListIn_of (ro := ro) hQ l a w hp.2
    simp only [wpList] at h
    simp only [wpListIn]
    split
    · rename_i hw
      rw [if_pos hw] at h
      rcases h with h | ⟨_, a0, w0, h0⟩
      · refine ⟨fun f _ => trivial, ?_⟩
        rw [semAt_fr (ro := (Fr ro).round) hp.1]
        unfold Oper.wp at h
        generalize (execOp a.eval o).run P w = r at h ⊢
        cases r with
        | ok x w' =>
          cases x <;> simp only [Oper.upon] at h <;> simp only [Oper.uponIn]
          case value => exact ih _ _ h
          case skip => exact ih _ _ h
          case defer => exact ih _ _ h
          case enter =>
            refine ⟨fun h => by simp [Fr, Fence.wide] at h, fr_calls (h.mono fun e w' hR => ?_)⟩
            cases e with
            | returned v => exact ih _ _ hR
            | panicked ch => exact hR
            | outgrown => exact hR
          case row =>
            refine ⟨fun h => by simp [Fr, Fence.wide] at h, ?_⟩
            intro c cs _
            have hobt := h c cs
            obtain ⟨v, w', hv, hs⟩ := hobt
            exact ⟨v, w', ih _ _ hv, stepsIn_wide.2 hs⟩
        | halt x w' =>
          cases x <;> simp only [Oper.upon] at h <;> simp only [Oper.uponIn]
          exact h
      · exact absurd h0 (hQ _ _)
    · rename_i hw
      rw [if_neg hw] at h
      exact ⟨fun f _ => trivial, ih _ _ h⟩
end

structure WLI (P : Program) (ro : Option Nat) (ops : Array Oper) (Q : Post) (n : Nat) (l : List Oper) (f : Slots) (ds : List Deferred) (w : World) : Prop where
  out : ∀ a, Rep n f ds a → wpListIn (Fr ro) 0 P ops (lift n Q) l a w
structure CWI (P : Program) (ro : Option Nat) (c : Code) (Q : Post) (n : Nat) (f : Slots) (ds : List Deferred) (w : World) : Prop where
  out : ∀ a, Rep n f ds a → c.wpIn (Fr ro) 0 P (lift n Q) a w

section
variable {P : Program} {ro : Option Nat} {ops : Array Oper} {Q : Post} {n : Nat} {rest : List Oper} {f : Slots} {ds : List Deferred} {w w' : World} {o : Op} {ty : TypeId} {pos : String} {af : Array Edge}

theorem WLI.nil (h : Q .normal f ds w) : WLI P ro ops Q n [] f ds w := ⟨fun a ha => ⟨f, ds, ha, h⟩⟩
theorem WLI.val {d : Nat} {v : Value} (hp : plainOp ⟨some d, o, ty, pos, af, none⟩ = true) (hd : Nat.blt d n = true) (hrun : (execOp (ev f) ⟨some d, o, ty, pos, af, none⟩).run P w = .ok (.value v) w')
    (h : WLI P ro ops Q n rest (upd f d v) ds w') : WLI P ro ops Q n (⟨some d, o, ty, pos, af, none⟩ :: rest) f ds w :=
  ⟨fun a ha => wpListIn_plain rfl fun K hK => by
    refine ⟨fun f _ => trivial, ?_⟩
    rw [semAt_fr (ro := (Fr ro).round) hp, ha.eval, hrun]
    exact hK _ _ (h.out _ (ha.put hd v))⟩

/-- What a round of loop l on this value does: it tells whether it goes on. -/
def Yields (P : Program) (l : Nat) (args : Array Value) (w : World) (R : Bool → World → Prop) : Prop :=
  YieldAt Fence.wide 0 P l args w fun e w' => ∃ b, e = .returned (.bool b) ∧ R b w'
theorem Yields.mono {l : Nat} {args : Array Value} {R R' : Bool → World → Prop} (h : Yields P l args w R) (hr : ∀ b w, R b w → R' b w) : Yields P l args w R' := by
  obtain ⟨fn, tmps, as_, bd, h1, h2⟩ := h
  exact ⟨fn, tmps, as_, bd, h1, h2.mono fun e w ⟨b, he, hb⟩ => ⟨b, he, hr _ _ hb⟩⟩

/-- A call of yield. -/
theorem WLI.yield {d l : Nat} {fo : Operand} {args : Array Operand} {ats : Array TypeId} {vs : List Value} {R : Bool → World → Prop} (hd : Nat.blt d n = true) (hx : ev f fo = .func (.yield l) #[] #[]) (hv : args.toList.map (ev f) = vs)
    (hy : Yields P l vs.toArray w R) (h : ∀ b w', R b w' → WLI P ro ops Q n rest (upd f d (.bool b)) ds w') : WLI P ro ops Q n (⟨some d, .call { callee := .value fo, args, argTypes := ats }, ty, pos, af, none⟩ :: rest) f ds w :=
  ⟨fun a ha => wpListIn_plain rfl fun K hK => by
    refine ⟨fun f _ => trivial, ?_⟩
    have e : args.map (ev f) = vs.toArray := by rw [← hv]; apply Array.ext'; simp
    obtain ⟨fn, tmps, as_, bd, h1, h2⟩ := hy
    have hrun : (execOp (ev f) ⟨some d, .call { callee := .value fo, args, argTypes := ats }, ty, pos, af, none⟩).run P w = .ok (.round l fn tmps as_ bd) w := by
      simp [execOp, resolve, hx, Deferred.ofValue, e, invoke, callFunc, h1]
    rw [semAt_fr (ro := (Fr ro).round) rfl, ha.eval, hrun]
    refine ⟨fun h => by simp [Fr, Fence.wide] at h, RoundIn.mono (F := Fr ro) (show RoundIn (Fr ro) 0 P l fn tmps as_ bd w _ from h2) fun e w' hR => ?_⟩
    obtain ⟨b, rfl, hb⟩ := hR
    exact hK _ _ ((h b w' hb).out _ (ha.put hd (.bool b)))⟩
end

section
variable {P : Program} {ro : Option Nat} {Q : Post} {n : Nat} {f : Slots} {ds : List Deferred} {w : World}

/-- A region that calls yield, in a function's own frame. -/
theorem CW.regY {id : Nat} {l : List Oper} (h : WLI P none l.toArray Q n l f ds w) : CW P (.region id l.toArray false) Q n f ds w :=
  ⟨fun a ha => wpIn_wide.1 (wpIn_region_lit (h.out a ha))⟩

def NoOut (Q : Post) : Prop := ∀ f ds w, ¬ Q .outgrown f ds w
/-- A region within a round, none of whose operations defers: as anywhere. -/
theorem CWI.reg {id : Nat} {l : List Oper} (hp : l.all plainOp = true) (hQ : NoOut Q) (h : WL P l.toArray Q n l f ds w) : CWI P ro (.region id l.toArray false) Q n f ds w :=
  ⟨fun a ha => wpIn_region_lit (wpListIn_of (fun a w ⟨f', ds', _, h⟩ => hQ _ _ _ h) l a w hp (h.out a ha))⟩

theorem CWI.mono {c : Code} {Q' : Post} (h : CWI P ro c Q n f ds w) (hq : ∀ e f ds w, Q e f ds w → Q' e f ds w) : CWI P ro c Q' n f ds w :=
  ⟨fun a ha => wpIn_mono (h.out a ha) fun e a w ⟨f', ds', hr, h⟩ => ⟨f', ds', hr, hq _ _ _ _ h⟩⟩
theorem CWI.seq {x y : Code} (h : CWI P ro x (thenC (CWI P ro y Q n) Q) n f ds w) : CWI P ro (.seq x y) Q n f ds w :=
  ⟨fun a ha => wpIn_seq (wpIn_mono (h.out a ha) fun e a' w' ⟨f', ds', hr, hq⟩ => by
    cases e with
    | normal => exact (show CWI P ro y Q n f' ds' w' from hq).out a' hr
    | exit id => exact ⟨f', ds', hr, hq⟩
    | goto id => exact ⟨f', ds', hr, hq⟩
    | ret => exact ⟨f', ds', hr, hq⟩
    | panic ch => exact ⟨f', ds', hr, hq⟩
    | outgrown => exact ⟨f', ds', hr, hq⟩)⟩
theorem CWI.cond {c : Operand} {x y : Code} {b : Bool} (hc : ev f c = .bool b) (ht : b = true → CWI P ro x Q n f ds w) (hf : b = false → CWI P ro y Q n f ds w) : CWI P ro (.cond c x y) Q n f ds w :=
  ⟨fun a ha => wpIn_cond_split (by rw [ha.eval]; exact hc) (fun h => (ht h).out a ha) (fun h => (hf h).out a ha)⟩
theorem CWI.condT {c : Operand} {x y : Code} (hc : ev f c = .bool true) (h : CWI P ro x Q n f ds w) : CWI P ro (.cond c x y) Q n f ds w :=
  .cond hc (fun _ => h) (fun h => by cases h)
theorem CWI.condF {c : Operand} {x y : Code} (hc : ev f c = .bool false) (h : CWI P ro y Q n f ds w) : CWI P ro (.cond c x y) Q n f ds w :=
  .cond hc (fun h => by cases h) (fun _ => h)
theorem CWI.block {id : Nat} {c : Code} (h : CWI P ro c (inB id Q) n f ds w) : CWI P ro (.block id c) Q n f ds w :=
  ⟨fun a ha => wpIn_block (wpIn_mono (h.out a ha) fun e a' w' ⟨f', ds', hr, hq⟩ => by
    cases e with
    | exit id' =>
      simp only [inB] at hq
      by_cases hid : id' = id
      · subst hid
        simp only [Exit.inBlock, if_true]
        exact ⟨f', ds', hr, by simpa using hq⟩
      · have hb : Nat.beq id' id = false := by
          cases hb : Nat.beq id' id with
          | true => exact absurd (Nat.eq_of_beq_eq_true hb) hid
          | false => rfl
        simp only [Exit.inBlock, hid, if_false]
        rw [hb] at hq
        exact ⟨f', ds', hr, hq⟩
    | normal => exact ⟨f', ds', hr, hq⟩
    | goto id => exact ⟨f', ds', hr, hq⟩
    | ret => exact ⟨f', ds', hr, hq⟩
    | panic ch => exact ⟨f', ds', hr, hq⟩
    | outgrown => exact ⟨f', ds', hr, hq⟩)⟩
theorem CWI.skip (h : Q .normal f ds w) : CWI P ro .skip Q n f ds w := ⟨fun a ha => wpIn_skip ⟨f, ds, ha, h⟩⟩
theorem CWI.ret (h : Q .ret f ds w) : CWI P ro .ret Q n f ds w := ⟨fun a ha => wpIn_ret ⟨f, ds, ha, h⟩⟩
theorem CWI.exit {id : Nat} (h : Q (.exit id) f ds w) : CWI P ro (.exit id) Q n f ds w := ⟨fun a ha => wpIn_exit ⟨f, ds, ha, h⟩⟩
theorem CWI.label {id : Nat} (h : Q .normal f ds w) : CWI P ro (.label id) Q n f ds w := ⟨fun a ha => wpIn_label ⟨f, ds, ha, h⟩⟩
theorem CWI.wide {c : Code} (h : CWI P none c Q n f ds w) : CW P c Q n f ds w := ⟨fun a ha => wpIn_wide.1 (h.out a ha)⟩
theorem CWI.ofWide {c : Code} (h : CW P c Q n f ds w) : CWI P none c Q n f ds w := ⟨fun a ha => wpIn_wide.2 (h.out a ha)⟩

/-- The record of a loop. -/
def RecOf (t : Tmp) (assign body : Code) (f : Slots) (n : Nat) (r : Loop) : Prop := r.params = #[t] ∧ r.assign = assign ∧ r.body = body ∧ r.tmps.size = n ∧ ∀ k, r.tmps.getD k undef = f k
def Loop.at (r : Loop) (s : LoopState) (p : Option Code) : Loop := { r with state := s, pending := p }
theorem RecOf.at {t : Tmp} {as_ bd : Code} {r : Loop} (h : RecOf t as_ bd f n r) (s : LoopState) (p : Option Code) : RecOf t as_ bd f n (Loop.at r s p) := h

/-- What a round's end must give: the record is set; then R. -/
def RQ (l : Nat) (R : Bool → World → Prop) : Post
  | .normal, _, _, w => ∃ S L w0 r, Step S ((l, .loop r) :: L) w0 w ∧ ∀ w', Step S ((l, .loop (Loop.at r .ready none)) :: L) w0 w' → R true w'
  | .ret, _, _, w => ∃ S L w0 r, Step S ((l, .loop r) :: L) w0 w ∧ ∀ w', Step S ((l, .loop (Loop.at r .done (some .ret))) :: L) w0 w' → R false w'
  | .exit id, _, _, w => ∃ S L w0 r, Step S ((l, .loop r) :: L) w0 w ∧ ∀ w', Step S ((l, .loop (Loop.at r .done (some (.exit id)))) :: L) w0 w' → R false w'
  | .goto id, _, _, w => False
  | .panic _, _, _, _ => False
  | .outgrown, _, _, _ => False

theorem rq_end {l : Nat} {R : Bool → World → Prop} {S : List Nat} {L : List (Nat × Obj)} {w0 w : World} {r : Loop} (hs : Step S ((l, .loop r) :: L) w0 w) (jump : Option Code) :
    ∃ w', (Instr.endRound l jump).run P w = .ok (.bool jump.isNone) w' ∧ Step S ((l, .loop (Loop.at r (if jump.isNone then .ready else .done) jump)) :: L) w0 w' :=
  ⟨_, run_endRound jump hs.hd, hs.setObj _⟩

/-- One round of an outermost or inner loop, out of its code's walk. -/
theorem yields_of {l : Nat} {v : Value} {t : Tmp} {as_ bd : Code} {r : Loop} {S : List Nat} {L : List (Nat × Obj)} {w0 : World} {R : Bool → World → Prop} (hr : RecOf t as_ bd f n r) (hst : r.state = .ready) (ht : Nat.blt t n = true) (hs : Step S ((l, .loop r) :: L) w0 w)
    (h : CWI P (some l) as_ (thenC (fun f1 ds1 w1 => ∃ S1 L1 w10 r1, Step S1 ((l, .loop r1) :: L1) w10 w1 ∧ r1.state = .ready ∧ ∀ w2, Step S1 ((l, .loop (Loop.at r1 .busy r1.pending)) :: L1) w10 w2 → CWI P (some l) bd (RQ l R) n f1 ds1 w2) (fun _ _ _ _ => False)) n (upd f t v) [] w) :
    Yields P l #[v] w R := by
  obtain ⟨h1, h2, h3, h4, h5⟩ := hr
  have hy := run_yield (P := P) (args := #[v]) hs.hd (by rw [h1]; rfl)
  refine ⟨_, _, _, _, hy, ?_⟩
  rw [h1, h2, h3]
  have hfold : (#[t].zip #[v]).foldl (fun (tmps : Array Value) (x : Tmp × Value) => match x with | (t, a) => tmps.setIfInBounds t a) r.tmps = r.tmps.setIfInBounds t v := by
    rw [← Array.foldl_toList, Array.toList_zip]
    rfl
  rw [hfold]
  have hrep0 : Rep n f [] { tmps := r.tmps, defers := [] } := ⟨h4, h5, rfl⟩
  have hrep := hrep0.put ht v
  have hw := h.out _ hrep
  refine roundIn_of_wpIn (F := Fence.wide) trivial (wpIn_mono (F := Fence.wide.inRound l) hw fun e a w1 ⟨f1, ds1, hr1, hq⟩ => ?_)
  cases e with
  | normal =>
    obtain ⟨S1, L1, w10, r1, hs1, hr1s, hb⟩ := hq
    refine ⟨_, run_beginRound hs1.hd hr1s, ?_⟩
    have hbw := hb _ (hs1.setObj (.loop (Loop.at r1 .busy r1.pending)))
    refine wpIn_mono (F := Fence.wide.inRound l) (hbw.out a hr1) fun e a2 w2 ⟨f2, ds2, hr2, hq2⟩ => ?_
    cases e with
    | normal =>
      obtain ⟨S2, L2, w20, r2, hs2, hR⟩ := hq2
      have hobt := rq_end (P := P) (R := R) hs2 none
      obtain ⟨w', he, hs'⟩ := hobt
      exact ⟨_, w', he, true, rfl, hR w' hs'⟩
    | ret =>
      obtain ⟨S2, L2, w20, r2, hs2, hR⟩ := hq2
      have hobt := rq_end (P := P) (R := R) hs2 (some .ret)
      obtain ⟨w', he, hs'⟩ := hobt
      exact ⟨_, w', he, false, rfl, hR w' hs'⟩
    | exit id =>
      obtain ⟨S2, L2, w20, r2, hs2, hR⟩ := hq2
      have hobt := rq_end (P := P) (R := R) hs2 (some (.exit id))
      obtain ⟨w', he, hs'⟩ := hobt
      exact ⟨_, w', he, false, rfl, hR w' hs'⟩
    | goto id => exact hq2.elim
    | panic ch => exact hq2.elim
    | outgrown => exact hq2.elim
  | exit id => exact hq.elim
  | goto id => exact hq.elim
  | ret => exact hq.elim
  | panic ch => exact hq.elim
  | outgrown => exact hq.elim

/-- What stands behind a range over a function. -/
def Behind (P : Program) (ro : Option Nat) (l : Nat) (Q : Post) (n : Nat) (f : Slots) (ds : List Deferred) (w : World) : Prop :=
  ∃ S L w0 r, Step S ((l, .loop r) :: L) w0 w ∧ r.state ≠ .busy ∧ ∀ w', Step S ((l, .loop (Loop.at r .exhausted r.pending)) :: L) w0 w' →
    match r.pending with
    | none => Q .normal f ds w'
    | some c => CWI P ro c Q n f ds w'

def markOf (b : Nat) : Deferred := { target := .collected b, args := #[] }

theorem rangePost_of {l : Nat} {a' : Act} (hr : Rep n f ds a') {e : Ending} {w1 : World} (h : (∃ v, e = .returned v) ∧ Behind P ro l Q n f ds w1) : rangePost (Fr ro) 0 P l (lift n Q) a' e w1 := by
  obtain ⟨⟨v, rfl⟩, S, L, w0, r, hs, hb, hk⟩ := h
  refine ⟨r.pending, _, run_endLoop hs.hd hb, ?_⟩
  have := hk _ (hs.setObj (.loop (Loop.at r .exhausted r.pending)))
  cases hp : r.pending with
  | none =>
    rw [hp] at this
    exact ⟨f, ds, hr, this⟩
  | some c =>
    rw [hp] at this
    exact this.out a' hr

/-- 'for x := range g { .. }' in a function's own frame. -/
theorem CW.rangeFunc {g : Operand} {t : Tmp} {as_ bd : Code} {F : FuncId} {cap : List Value} {S : List Nat} {L : List (Nat × Obj)} {w0 : World} (hF : En P F) (hg : ev f g = .func (.func F) #[] cap.toArray) (hs : Step S L w0 w)
    (h : ∀ l b0 r w2, RecOf t as_ bd f n r → r.state = .ready → r.pending = none → Step S ((l, .loop r) :: (b0, .deferred (some [])) :: L) w0 w2 →
      Calls P F (.func (.yield l) #[] #[] :: cap).toArray w2 fun e w' => (∃ v, e = .returned v) ∧ Behind P none l Q n f (markOf b0 :: ds) w') : CW P (.rangeFunc g #[t] as_ bd) Q n f ds w :=
  ⟨fun a ha => wpIn_wide.1 (wpIn_rangeFunc (F := Fence.wide) (n := 0) fun fn _ => by
    have hs1 := hs.alloc (.deferred (some []))
    have hs2 := hs1.alloc (.loop { state := .ready, pending := none, fn := fn, tmps := a.tmps, params := #[t], assign := as_, body := bd, defers := w.heap.size })
    have hsz : (w.alloc (.deferred (some []))).heap.size = w.heap.size + 1 := by simp
    rw [hsz] at hs2
    have hc := h (w.heap.size + 1) w.heap.size _ _ ⟨rfl, rfl, rfl, ha.size, ha.get⟩ rfl rfl hs2
    have hinv := invoke_fn (P := P) (w := (w.alloc (.deferred (some []))).alloc (.loop { state := .ready, pending := none, fn := fn, tmps := a.tmps, params := #[t], assign := as_, body := bd, defers := w.heap.size })) hF cap.toArray #[.func (.yield (w.heap.size + 1)) #[] #[]]
    refine ⟨_, _, _, { target := .fn (.func F) cap.toArray, args := #[.func (.yield (w.heap.size + 1)) #[] #[]] }, _, F, _, _, run_enterLoop_outer fn a.tmps #[t] as_ bd, ?_, fun f' _ => trivial, hinv, fun h => by simp [Fence.wide] at h, ?_⟩
    · have hk : ∀ v, ev f (.const v) = v := fun _ => rfl
      rw [ha.eval]
      simp [rangeCall, resolve, hg, Deferred.ofValue, hk]
    · have hh : (#[Value.func (.yield (w.heap.size + 1)) #[] #[]] ++ cap.toArray) = (Value.func (.yield (w.heap.size + 1)) #[] #[] :: cap).toArray := by apply Array.ext'; simp
      rw [hh]
      exact callsIn_wide.2 (hc.mono fun e w' hR => rangePost_of (ro := none) (ds := markOf w.heap.size :: ds) (a' := { tmps := a.tmps, defers := [{ target := .collected w.heap.size, args := #[] }] ++ a.defers }) ⟨ha.size, ha.get, by simp [ha.defers, markOf]⟩ hR))⟩

/-- The same within a round of loop l0. -/
theorem CWI.rangeFunc {g : Operand} {t : Tmp} {as_ bd : Code} {F : FuncId} {cap : List Value} {S : List Nat} {L : List (Nat × Obj)} {w0 : World} {l0 : Nat} {r0 : Loop} (hF : En P F) (hg : ev f g = .func (.func F) #[] cap.toArray) (hs : Step S L w0 w) (h0 : w.heap[l0]? = some (.loop r0))
    (h : ∀ l r w2, RecOf t as_ bd f n r → r.state = .ready → r.pending = none → Step S ((l, .loop r) :: L) w0 w2 →
      Calls P F (.func (.yield l) #[] #[] :: cap).toArray w2 fun e w' => (∃ v, e = .returned v) ∧ Behind P (some l0) l Q n f ds w') : CWI P (some l0) (.rangeFunc g #[t] as_ bd) Q n f ds w :=
  ⟨fun a ha => wpIn_rangeFunc (F := Fr (some l0)) (n := 0) fun fn _ => by
    have hs2 := hs.alloc (.loop { state := .ready, pending := none, fn := fn, tmps := a.tmps, params := #[t], assign := as_, body := bd, defers := r0.defers })
    have hc := h w.heap.size _ _ ⟨rfl, rfl, rfl, ha.size, ha.get⟩ rfl rfl hs2
    have hinv := invoke_fn (P := P) (w := w.alloc (.loop { state := .ready, pending := none, fn := fn, tmps := a.tmps, params := #[t], assign := as_, body := bd, defers := r0.defers })) hF cap.toArray #[.func (.yield w.heap.size) #[] #[]]
    refine ⟨_, _, _, { target := .fn (.func F) cap.toArray, args := #[.func (.yield w.heap.size) #[] #[]] }, _, F, _, _, run_enterLoop_inner h0 fn a.tmps #[t] as_ bd, ?_, fun f' _ => trivial, hinv, fun h => by simp [Fr, Fence.wide] at h, ?_⟩
    · have hk : ∀ v, ev f (.const v) = v := fun _ => rfl
      rw [ha.eval]
      simp [rangeCall, resolve, hg, Deferred.ofValue, hk]
    · have hh : (#[Value.func (.yield w.heap.size) #[] #[]] ++ cap.toArray) = (Value.func (.yield w.heap.size) #[] #[] :: cap).toArray := by apply Array.ext'; simp
      rw [hh]
      exact fr_calls (hc.mono fun e w' hR => rangePost_of (ro := some l0) (ds := ds) (a' := { tmps := a.tmps, defers := [] ++ a.defers }) ⟨ha.size, ha.get, by simp [ha.defers]⟩ hR)⟩
end

section marks
variable {P : Program} {n : Nat} {w : World} {fn : Func} {R : Ending → World → Prop} {f : Slots}

def finM (P : Program) (n : Nat) (fn : Func) (R : Ending → World → Prop) : Post := fun e f ds w => ∀ a, Rep n f ds a → bodyPostM Fence.wide 0 P fn R e a w
theorem callsM {F : FuncId} {c : Code} {vs : List Value} (hf : P.funcs[F]? = some fn) (hb : fn.body = some c) (hn : fn.ntmps = n) (hv : Nat.ble vs.length n = true)
    (h : CW P c (finM P n fn R) n (ini vs) [] w) : Calls P F vs.toArray w R :=
  (callsIn_wide (n := 0)).1 (callsIn_of_wp_marks hf hb trivial (wpIn_wide.2 (Code.wp_mono (fun e a w ⟨f, ds, hr, hq⟩ => hq a hr) (h.out _ (by rw [hn]; exact rep_ini (by simpa using hv))))))

/-- The blocks of the marks, open and shut. -/
def marksO (bs : List Nat) : List (Nat × Obj) := bs.map fun b => (b, .deferred (some []))
def marksS (bs : List Nat) : List (Nat × Obj) := bs.map fun b => (b, .deferred none)
theorem leavesM_of {tmps : Array Value} {S : List Nat} {w0 : World} : ∀ (bs : List Nat) (L : List (Nat × Obj)) (w : World), Step S (marksO bs ++ L) w0 w →
    (∀ w', Step S (marksS bs ++ L) w0 w' → ∃ v, (results fn tmps).run P w' = .ok v w' ∧ R (.returned v) w') → LeavesInM Fence.wide 0 P fn tmps R (bs.map markOf) .returning w
  | [], L, w, hs, h => h w hs
  | b :: bs, L, w, hs, h => by
    refine ⟨by simp, .inl ⟨b, _, rfl, run_takeDeferred hs.hd, ?_⟩⟩
    have hs' : Step S ((b, .deferred none) :: (marksO bs ++ L)) w0 (putO w b (.deferred none)) := Step.setObj (L := marksO bs ++ L) hs _
    refine leavesM_of bs ((b, .deferred none) :: L) _ (hs'.perm List.perm_middle.symm) fun w' hw' => ?_
    exact h w' (hw'.perm List.perm_middle)
theorem finM_ret {e : Exit} (he : e = .ret ∨ e = .normal) {bs : List Nat} {S : List Nat} {L : List (Nat × Obj)} {w0 : World} (hs : Step S (marksO bs ++ L) w0 w)
    (h : ∀ a, Rep n f (bs.map markOf) a → ∀ w', Step S (marksS bs ++ L) w0 w' → ∃ v, (results fn a.tmps).run P w' = .ok v w' ∧ R (.returned v) w') : finM P n fn R e f (bs.map markOf) w := fun a ha => by
  have := leavesM_of (fn := fn) (R := R) (tmps := a.tmps) bs L w hs (h a ha)
  rcases he with rfl | rfl
  · show LeavesInM Fence.wide 0 P fn a.tmps R a.defers .returning w
    rw [ha.defers]
    exact this
  · show LeavesInM Fence.wide 0 P fn a.tmps R a.defers .returning w
    rw [ha.defers]
    exact this
theorem res_tmp1 {t : Tmp} {a : Act} {ds : List Deferred} (ha : Rep n f ds a) (hr : fn.results = #[.tmp t]) : (results fn a.tmps).run P w = .ok (f t) w := by
  rw [results_tmp hr, ha.get]
theorem res_tmp2 {t u : Tmp} {a : Act} {ds : List Deferred} (ha : Rep n f ds a) (hr : fn.results = #[.tmp t, .tmp u]) : (results fn a.tmps).run P w = .ok (.tuple #[f t, f u]) w := by
  rw [results_tmp2 hr, ha.get, ha.get]
end marks

section more
variable {P : Program} {ro : Option Nat} {Q : Post} {n l : Nat} {f : Slots} {ds : List Deferred} {w w0 : World} {S : List Nat} {L : List (Nat × Obj)} {r : Loop}
theorem behind_none (hs : Step S ((l, .loop r) :: L) w0 w) (hst : r.state = .ready) (hp : r.pending = none) (h : ∀ w', Step S ((l, .loop (Loop.at r .exhausted none)) :: L) w0 w' → Q .normal f ds w') : Behind P ro l Q n f ds w := by
  refine ⟨S, L, w0, r, hs, by rw [hst]; simp, fun w' hs' => ?_⟩
  rw [hp] at hs' ⊢
  exact h w' hs'
theorem behind_some {c : Code} (hs : Step S ((l, .loop r) :: L) w0 w) (hst : r.state = .done) (hp : r.pending = some c) (h : ∀ w', Step S ((l, .loop (Loop.at r .exhausted (some c))) :: L) w0 w' → CWI P ro c Q n f ds w') : Behind P ro l Q n f ds w := by
  refine ⟨S, L, w0, r, hs, by rw [hst]; simp, fun w' hs' => ?_⟩
  rw [hp] at hs' ⊢
  exact h w' hs'
theorem Loop.at_back {s : LoopState} {p : Option Code} (hs : r.state = .ready) (hp : r.pending = none) : Loop.at (Loop.at r s p) .ready none = r := by
  cases r
  simp only at hs hp
  subst hs hp
  rfl
theorem Step.callAll {L1 L' : List (Nat × Obj)} {w' : World} (h : Step S L1 w0 w) (hc : Step (L1.map (·.1)) L' w w') : Step S L' w0 w' := by
  have := Step.call (L1 := L1) (L := []) (by rw [List.append_nil]; exact h) hc
  rwa [List.append_nil] at this
theorem perm4 {α : Type} (a b c d : α) (X : List α) : (X ++ [a, b, c, d]).Perm (d :: b :: c :: a :: X) :=
  List.perm_append_comm.trans ((List.perm_middle (l₁ := [a, b, c])).trans (List.Perm.cons d (List.perm_middle (l₁ := [b, c])).symm))
end more

section more2
variable {P : Program} {Q : Post} {n : Nat} {f : Slots} {ds : List Deferred} {w w0 : World} {S : List Nat} {L : List (Nat × Obj)}
/-- A loop whose rounds may lay marks. -/
theorem CW.loopD {c : Code} (I : Nat → Slots → List Deferred → World → Prop) {m : Nat} (h0 : I m f ds w)
    (hr : ∀ m f ds w, I m f ds w → CW P c (thenC (fun f' ds' w' => ∃ m', m' < m ∧ I m' f' ds' w') Q) n f ds w) : CW P (.loop c) Q n f ds w :=
  ⟨fun a ha => wp_loop_ex (fun m a w => ∃ f ds, Rep n f ds a ∧ I m f ds w) ⟨f, ds, ha, h0⟩ fun m a w ⟨f, ds, ha, hI⟩ =>
    Code.wp_mono (fun e a' w' ⟨f', ds', hr', hq⟩ => by
      cases e with
      | normal =>
        obtain ⟨m', hlt, hI'⟩ := hq
        exact ⟨m', hlt, f', ds', hr', hI'⟩
      | exit id => exact ⟨f', ds', hr', hq⟩
      | goto id => exact ⟨f', ds', hr', hq⟩
      | ret => exact ⟨f', ds', hr', hq⟩
      | panic ch => exact ⟨f', ds', hr', hq⟩
      | outgrown => exact ⟨f', ds', hr', hq⟩) ((hr m f ds w hI).out a ha)⟩
theorem Step.inCell {b o : Nat} {T : TypeId} {cs : List Value} {v : Value} (hs : Step S L w0 w) (hm : (b, blk T cs) ∈ L) (ho : cs[o]? = some v) : w.cell? ⟨b, o, none⟩ = some v := by rw [cell_blk (hs.has _ hm), ho]
theorem marksO_cons (b : Nat) (bs : List Nat) : marksO (b :: bs) = (b, .deferred (some [])) :: marksO bs := rfl
end more2
end Go.Gx
