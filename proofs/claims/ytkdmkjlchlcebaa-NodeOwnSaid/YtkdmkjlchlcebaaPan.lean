/- Panics, deferred calls, recover: over slots. No program in sight. -/
import Derived.Test.YtkdmkjlchlcebaaAny
import Derived.Recover
namespace Go.Gx
set_option linter.unusedVariables false
set_option linter.unusedSimpArgs false

section
variable {P : Program} {ops : Array Oper} {Q : Post} {n : Nat} {rest : List Oper} {f : Slots} {ds : List Deferred} {w w' : World} {o : Op} {ty : TypeId} {pos : String} {af : Array Edge} {d : Option Tmp}

/-- A call that panics. -/
theorem WL.enterX {F : FuncId} {args : Array Value} {R : Ending → World → Prop}
    (hrun : (execOp (ev f) ⟨d, o, ty, pos, af, none⟩).run P w = .ok (.enter F args) w) (hc : Calls P F args w R)
    (h : ∀ e w', R e w' → ∃ ch, e = .panicked ch ∧ Q (.panic ch) f ds w') : WL P ops Q n (⟨d, o, ty, pos, af, none⟩ :: rest) f ds w :=
  ⟨fun a ha => wpList_plain rfl fun K hK => by
    unfold Oper.wp
    rw [ha.eval, hrun]
    refine hc.mono fun e w' hR => ?_
    have hobt := h e w' hR
    obtain ⟨ch, rfl, hq⟩ := hobt
    exact ⟨f, ds, ha, hq⟩⟩

theorem run_mkIface {T : TypeId} {t : TypeDesc} {x : Operand} (ht : P.underlying T = some t) (hi : (match t with | .interface _ => false | _ => true) = true) :
    (execOp (ev f) ⟨d, .makeInterface T x, ty, pos, af, none⟩).run P w = .ok (.value (.iface T (ev f x))) w := by
  cases t <;> simp [execOp, Instr.makeInterface, run_underlying ht] at hi ⊢

theorem run_panicI {T : TypeId} {v : Value} {x : Operand} (hx : ev f x = .iface T v) :
    (execOp (ev f) ⟨d, .panic x, ty, pos, af, none⟩).run P w = .halt (.panic (.iface T v)) w := by
  simp [execOp, hx, Instr.panic, goPanic]

theorem invoke_fn {F : FuncId} (hF : En P F) (cap vas : Array Value) : (invoke (.fn (.func F) cap) vas).run P w = .ok (.enter F (vas ++ cap)) w := by
  have hobt := hF.ok
  obtain ⟨fn, hf, hb, hn⟩ := hobt
  simp only [invoke, callFunc, Sem.run_bind, run_program, Result.andThen_ok, hf, hn, hb, Bool.false_eq_true, if_false, Sem.run_pure]

theorem run_callV {F : FuncId} {fo : Operand} {args : Array Operand} {ats : Array TypeId} {vs cap : List Value} (hF : En P F)
    (hx : ev f fo = .func (.func F) #[] cap.toArray) (hv : args.toList.map (ev f) = vs) :
    (execOp (ev f) ⟨d, .call { callee := .value fo, args, argTypes := ats }, ty, pos, af, none⟩).run P w = .ok (.enter F (vs ++ cap).toArray) w := by
  have e : args.map (ev f) = vs.toArray := by rw [← hv]; apply Array.ext'; simp
  have h := invoke_fn (w := w) hF cap.toArray vs.toArray
  rw [List.append_toArray] at h
  simp [execOp, resolve, hx, Deferred.ofValue, e]
  simpa using h

theorem run_makeFuncC {F : Fn} {captured : Array Operand} {cs : List Value} (hc : captured.toList.map (ev f) = cs) :
    (execOp (ev f) ⟨d, .makeFunc F #[] captured, ty, pos, af, none⟩).run P w = .ok (.value (.func F #[] cs.toArray)) w := by
  have e : captured.map (ev f) = cs.toArray := by rw [← hc]; apply Array.ext'; simp
  rw [run_makeFunc, e]
  simp
theorem run_deferV {F : FuncId} {fo : Operand} {ats : Array TypeId} {cap : List Value}
    (hx : ev f fo = .func (.func F) #[] cap.toArray) :
    (execOp (ev f) ⟨d, .defer { callee := .value fo, args := #[], argTypes := ats }, ty, pos, af, none⟩).run P w = .ok (.defer { target := .fn (.func F) cap.toArray, args := #[] }) w := by
  simp [execOp, resolve, hx, Deferred.ofValue]

theorem run_assertOk {T A : TypeId} {t : TypeDesc} {v : Value} {x : Operand} (ht : P.underlying A = some t) (hi : (match t with | .interface _ => false | _ => true) = true) (hx : ev f x = .iface A v) :
    (execOp (ev f) ⟨d, .typeAssert x T A true, ty, pos, af, none⟩).run P w = .ok (.value (.tuple #[v, .bool true])) w := by
  cases t <;> simp [execOp, Instr.typeAssert, run_underlying ht, hx] at hi ⊢
theorem run_assertNil {T A : TypeId} {t : TypeDesc} {agg : Bool} {m by_ : Nat} {zs : List Value} {x : Operand} (ht : P.underlying A = some t) (hi : (match t with | .interface _ => false | _ => true) = true) (hA : Ty P A agg m by_ zs) (hx : ev f x = .nilIface) :
    ∃ z, (zeroValue A).run P w = .ok z w ∧ z.cells = zs.toArray ∧ (execOp (ev f) ⟨d, .typeAssert x T A true, ty, pos, af, none⟩).run P w = .ok (.value (.tuple #[z, .bool false])) w := by
  have hobt := run_zero hA w
  obtain ⟨z, hz, hc⟩ := hobt
  refine ⟨z, hz, hc, ?_⟩
  cases t <;> simp [execOp, Instr.typeAssert, run_underlying ht, hx, hz] at hi ⊢
end

section defers
variable {P : Program} {n : Nat} {w : World} {fn : Func} {R : Ending → World → Prop} {f : Slots}

def finD (P : Program) (n : Nat) (fn : Func) (R : Ending → World → Prop) : Post := fun e f ds w => ∀ a, Rep n f ds a → bodyPostD P fn R e a w

theorem callsDef {F : FuncId} {c : Code} {vs : List Value} (hf : P.funcs[F]? = some fn) (hb : fn.body = some c) (hn : fn.ntmps = n) (hv : Nat.ble vs.length n = true)
    (h : CW P c (finD P n fn R) n (ini vs) [] w) : Calls P F vs.toArray w R :=
  calls_of_wp_defers hf hb (Code.wp_mono (fun e a w ⟨f, ds, hr, hq⟩ => hq a hr) (h.out _ (by rw [hn]; exact rep_ini (by simpa using hv))))

/-- A deferred call that hands nothing over, at a plain return; then what the results' cells hold. -/
theorem finD_ret {F : FuncId} {cap : List Value} (hF : En P F)
    (hc : CallsD P F cap.toArray .returning w fun e u' w' => (∃ v, e = .returned v) ∧ settle u' = .returning ∧ ∀ a : Act, Rep n f [{ target := .fn (.func F) cap.toArray, args := #[] }] a → ∃ v, (results fn a.tmps).run P w' = .ok v w' ∧ R (.returned v) w') :
    finD P n fn R .ret f [{ target := .fn (.func F) cap.toArray, args := #[] }] w := fun a ha => by
  show Leaves P fn a.tmps R a.defers .returning w
  rw [ha.defers]
  refine leaves_cons (by simp) (by rw [invoke_fn hF]; simp) (hc.mono fun e u' w' h => ?_)
  obtain ⟨⟨v, rfl⟩, h2, h3⟩ := h
  simp only [h2]
  exact h3 a ha
theorem finD_panic {F : FuncId} {cap : List Value} {ch : List PanicEntry} (hF : En P F)
    (hc : CallsD P F cap.toArray (.panicking ch) w fun e u' w' => (∃ v, e = .returned v) ∧ settle u' = .returning ∧ ∀ a : Act, Rep n f [{ target := .fn (.func F) cap.toArray, args := #[] }] a → ∃ v, (results fn a.tmps).run P w' = .ok v w' ∧ R (.returned v) w') :
    finD P n fn R (.panic ch) f [{ target := .fn (.func F) cap.toArray, args := #[] }] w := fun a ha => by
  show Leaves P fn a.tmps R a.defers (.panicking ch) w
  rw [ha.defers]
  refine leaves_cons (by simp) (by rw [invoke_fn hF]; simp) (hc.mono fun e u' w' h => ?_)
  obtain ⟨⟨v, rfl⟩, h2, h3⟩ := h
  simp only [h2]
  exact h3 a ha
/-- A return with no deferred call laid. -/
theorem finD_ret0 (h : ∀ a : Act, Rep n f [] a → ∃ v, (results fn a.tmps).run P w = .ok v w ∧ R (.returned v) w) : finD P n fn R .ret f [] w := fun a ha => by
  show Leaves P fn a.tmps R a.defers .returning w
  rw [ha.defers]
  exact h a ha

theorem res_cell1 {t : Tmp} {T : TypeId} {A : Addr} {v : Value} {a : Act} {ds : List Deferred} (ha : Rep n f ds a) (hr : fn.results = #[.cell t T]) (hA : f t = .pointer (some A)) (hv : (loadVar T A).run P w = .ok v w) : (results fn a.tmps).run P w = .ok v w := by
  simp [results, hr, ha.get, hA, asAddr, hv]
theorem res_cell2 {t t' : Tmp} {T T' : TypeId} {A A' : Addr} {v v' : Value} {a : Act} {ds : List Deferred} (ha : Rep n f ds a) (hr : fn.results = #[.cell t T, .cell t' T']) (hA : f t = .pointer (some A)) (hA' : f t' = .pointer (some A')) (hv : (loadVar T A).run P w = .ok v w) (hv' : (loadVar T' A').run P w = .ok v' w) : (results fn a.tmps).run P w = .ok (.tuple #[v, v']) w := by
  simp [results, hr, ha.get, hA, hA', asAddr, hv, hv']

/-- A deferred call that asks for no panic. -/
theorem callsD_plain {F : FuncId} {c : Code} {vs : List Value} {u : FrameMode} (hf : P.funcs[F]? = some fn) (hb : fn.body = some c) (hn : fn.ntmps = n) (hv : Nat.ble vs.length n = true)
    (h : CW P c (fin P n fn R) n (ini vs) [] w) : CallsD P F vs.toArray u w fun e u' w' => u' = u ∧ R e w' :=
  callsD_of_wp hf hb (Code.wp_mono (fun e a w ⟨f, ds, hr, hq⟩ => hq a hr) (h.out _ (by rw [hn]; exact rep_ini (by simpa using hv))))
end defers

/-! ### recover -/
section recover
variable {P : Program} {n : Nat} {w : World} {f : Slots} {ds : List Deferred} {cs : List Frame}

abbrev PostS := Exit → Slots → List Deferred → List Frame → World → Prop
def liftS (n : Nat) (Q : PostS) : Exit → Act → List Frame → World → Prop := fun e a cs w => ∃ f ds, Rep n f ds a ∧ Q e f ds cs w
structure CS (P : Program) (c : Code) (Q : PostS) (n : Nat) (f : Slots) (ds : List Deferred) (cs : List Frame) (w : World) : Prop where
  out : ∀ a, Rep n f ds a → c.wpS P (liftS n Q) a cs w

theorem wpS_mono {Q Q' : Exit → Act → List Frame → World → Prop} {c : Code} {a : Act} (hq : ∀ e a cs w, Q e a cs w → Q' e a cs w) (h : c.wpS P Q a cs w) : c.wpS P Q' a cs w :=
  fun b k hb hr => let ⟨e, a', cs', w', q, r⟩ := h b k hb hr; ⟨e, a', cs', w', hq _ _ _ _ q, r⟩

theorem CS.of {Q : PostS} {c : Code} (h : CW P c (fun e f ds w => Q e f ds cs w) n f ds w) : CS P c Q n f ds cs w :=
  ⟨fun a ha => wpS_of_wp (Code.wp_mono (fun e a w ⟨f, ds, hr, hq⟩ => ⟨f, ds, hr, hq⟩) (h.out a ha))⟩

def thenS (K : Slots → List Deferred → List Frame → World → Prop) (Q : PostS) : PostS
  | .normal, f, ds, cs, w => K f ds cs w
  | .exit id, f, ds, cs, w => Q (.exit id) f ds cs w
  | .goto l, f, ds, cs, w => Q (.goto l) f ds cs w
  | .ret, f, ds, cs, w => Q .ret f ds cs w
  | .panic ch, f, ds, cs, w => Q (.panic ch) f ds cs w
  | .outgrown, f, ds, cs, w => Q .outgrown f ds cs w

theorem CS.seq {Q : PostS} {x y : Code} (h : CS P x (thenS (CS P y Q n) Q) n f ds cs w) : CS P (.seq x y) Q n f ds cs w :=
  ⟨fun a ha => wpS_seq (wpS_mono (fun e a cs w ⟨f, ds, hr, hq⟩ => by
    cases e with
    | normal => exact (show CS P y Q n f ds cs w from hq).out a hr
    | exit id => exact ⟨f, ds, hr, hq⟩
    | goto l => exact ⟨f, ds, hr, hq⟩
    | ret => exact ⟨f, ds, hr, hq⟩
    | panic ch => exact ⟨f, ds, hr, hq⟩
    | outgrown => exact ⟨f, ds, hr, hq⟩) (h.out a ha))⟩

theorem CS.recover {Q : PostS} {id d1 d2 : Nat} {ats : Array TypeId} {t1 t2 : TypeId} {p1 p2 : String} {a1 a2 : Array Edge} {v : Value} {cs' : List Frame} (h1 : Nat.blt d1 n = true) (h2 : Nat.blt d2 n = true)
    (hrec : recoverD cs = some (v, cs') ∨ recoverD cs = none ∧ v = .nilIface ∧ cs' = cs) (h : Q .normal (upd (upd f d1 v) d2 v) ds cs' w) :
    CS P (.region id #[⟨some d1, .call { callee := .builtin .recover, args := #[], argTypes := ats }, t1, p1, a1, none⟩, ⟨some d2, .assign (.tmp d1), t2, p2, a2, none⟩] false) Q n f ds cs w :=
  ⟨fun a ha => wpS_region (by
    have e1 : (execOp a.eval ⟨some d1, .call { callee := .builtin .recover, args := #[], argTypes := ats }, t1, p1, a1, none⟩).run P w = .ok .recover w := by
      simp [execOp, resolve, invoke, builtin]
    have hp := ha.put h1 v
    have e2 : (execOp (a.put (some d1) v).eval ⟨some d2, .assign (.tmp d1), t2, p2, a2, none⟩).run P w = .ok (.value v) w := by
      rw [hp.eval]
      have : ev (upd f d1 v) (.tmp d1) = v := upd_same f d1 v
      simp [execOp, this]
    have hfin : liftS n Q .normal ((a.put (some d1) v).put (some d2) v) cs' w := ⟨_, _, hp.put h2 v, h⟩
    have hr2 : List.range 2 = [0, 1] := rfl
    rcases hrec with hrec | ⟨hrec, rfl, rfl⟩
    · simp [wpOpsS, hr2, Region.wanted, e1, hrec, e2, Oper.upon, hfin]
    · simp [wpOpsS, hr2, Region.wanted, e1, hrec, e2, Oper.upon, hfin])⟩

def finS (P : Program) (n : Nat) (fn : Func) (c0 : Frame) (cs : List Frame) (R : Ending → FrameMode → World → Prop) : PostS := fun e f ds cs' w => ∀ a, Rep n f ds a → bodyPostS P fn c0 cs R e a cs' w

theorem callsD_rec {F : FuncId} {fn : Func} {c : Code} {vs : List Value} {u : FrameMode} {R : Ending → FrameMode → World → Prop} (hf : P.funcs[F]? = some fn) (hb : fn.body = some c) (hn : fn.ntmps = n) (hv : Nat.ble vs.length n = true)
    (h : ∀ (c0 : Frame) (cs : List Frame), c0.mode = u → CS P c (finS P n fn c0 cs R) n (ini vs) [] (c0 :: cs) w) : CallsD P F vs.toArray u w R :=
  callsD_of_wpS hf hb fun c0 cs hu => wpS_mono (fun e a cs w ⟨f, ds, hr, hq⟩ => hq a hr) ((h c0 cs hu).out _ (by rw [hn]; exact rep_ini (by simpa using hv)))

theorem finS_end0 {fn : Func} {c0 : Frame} {R : Ending → FrameMode → World → Prop} {u' : FrameMode} (hr : fn.results = #[]) (h : R (.returned (.tuple #[])) u' w) : finS P n fn c0 cs R .normal f [] ({ c0 with mode := u' } :: cs) w :=
  fun a ha => ⟨ha.defers, u', rfl, _, results_none hr _ _ _, h⟩
end recover
end Go.Gx
