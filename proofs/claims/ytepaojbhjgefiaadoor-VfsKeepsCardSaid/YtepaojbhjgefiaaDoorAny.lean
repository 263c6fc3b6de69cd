/- Regions that draw their order and hold operations with effects: quiet ones may be taken first, then each that is ready. No program in sight. -/
import Derived.Test.YtepaojbhjgefiaaDoorEff
import Derived.Orders
namespace Go.Gx
set_option linter.unusedVariables false
set_option linter.unusedSimpArgs false

section any
variable {P : Program} {ops : Array Oper} {Q : Exit → Act → World → Prop} {md : Region.Mode} {A C : World → Prop}

/-- As 'wpAny', and A holds at each stage, and as long as operation s has not run, C. -/
def wpAnyI (P : Program) (md : Region.Mode) (ops : Array Oper) (Q : Exit → Act → World → Prop) (s : Nat) (A C : World → Prop) : Nat → Array Bool → Act → World → Prop
  | 0, listed, a, w => (A w ∧ (listed.getD s false = false → C w)) ∧ Region.ready md ops listed = [] ∧ Q .normal a w
  | fuel + 1, listed, a, w => (A w ∧ (listed.getD s false = false → C w)) ∧ (Region.ready md ops listed = [] → Q .normal a w) ∧
    ∀ i ∈ Region.ready md ops listed, wpOp P ops Q i (wpAnyI P md ops Q s A C fuel (listed.setIfInBounds i true)) a w

theorem wpAnyI.here {s : Nat} : ∀ {fuel : Nat} {listed : Array Bool} {a : Act} {w : World}, wpAnyI P md ops Q s A C fuel listed a w → A w ∧ (listed.getD s false = false → C w)
  | 0, _, _, _, h => h.1
  | _ + 1, _, _, _, h => h.1

theorem wpAnyI.relax {s s' : Nat} {C' : World → Prop} : ∀ {fuel : Nat} {listed : Array Bool} {a : Act} {w : World}, listed.getD s false = true → wpAnyI P md ops Q s' A C' fuel listed a w → wpAnyI P md ops Q s A C fuel listed a w
  | 0, _, _, _, hu, h => ⟨⟨h.1.1, fun h0 => (by rw [hu] at h0; cases h0)⟩, h.2.1, h.2.2⟩
  | _ + 1, _, _, _, hu, h => ⟨⟨h.1.1, fun h0 => (by rw [hu] at h0; cases h0)⟩, h.2.1, fun i hi => wpOp_mono (fun _ _ h' => wpAnyI.relax (getD_set_true hu) h') (h.2.2 i hi)⟩

theorem wpAnyI.any {s : Nat} : ∀ {fuel : Nat} {listed : Array Bool} {a : Act} {w : World}, wpAnyI P md ops Q s A C fuel listed a w → wpAny P md ops Q fuel listed a w
  | 0, _, _, _, h => h.2
  | _ + 1, _, _, _, h => ⟨h.2.1, fun i hi => wpOp_mono (fun _ _ h' => wpAnyI.any h') (h.2.2 i hi)⟩

def YieldsC (P : Program) (ops : Array Oper) (C : World → Prop) (o : Oper) (v : Value) (a : Act) : Prop :=
  (Region.wanted o (yielded ops a.tmps) = true ∧ ∀ w, C w → (execOp a.eval o).run P w = .ok (.value v) w) ∨
  (Region.wanted o (yielded ops a.tmps) = false ∧ v = undef)

theorem YieldsC.wpOp {i : Nat} {o : Oper} {v : Value} {a : Act} (hi : ops[i]? = some o) (hy : YieldsC P ops C o v a)
    {K : Act → World → Prop} {w : World} (hC : C w) (h : K (a.put o.dst v) w) : wpOp P ops Q i K a w := by
  unfold Go.wpOp
  simp only [hi]
  rcases hy with ⟨hw, hv⟩ | ⟨hw, rfl⟩
  · simp only [hw, if_true, Oper.wp, hv w hC, Oper.upon]; exact .inl h
  · simp only [hw, Bool.false_eq_true, if_false]; exact h

theorem YieldsC.of_same {o : Oper} {v : Value} {a a' : Act} (hy : YieldsC P ops C o v a) (he : execOp a'.eval o = execOp a.eval o)
    (hw : Region.wanted o (yielded ops a'.tmps) = Region.wanted o (yielded ops a.tmps)) : YieldsC P ops C o v a' := by
  unfold YieldsC at *
  rw [he, hw]
  exact hy

theorem wpOp_putC {j : Nat} {oi oj : Oper} {v : Value} (hj : ops[j]? = some oj) (hap : oi.apart ops oj = true)
    (hsi : ∀ cs b, oi.op ≠ .select cs b) (hsj : ∀ cs b, oj.op ≠ .select cs b)
    (hQ : ∀ c a w, Q (.panic c) (a.put oi.dst v) w → Q (.panic c) a w) {K : Act → World → Prop} {a : Act} {w : World}
    (hy : YieldsC P ops C oi v a) (h : wpOp P ops Q j K (a.put oi.dst v) w) :
    wpOp P ops Q j (fun a' w' => YieldsC P ops C oi v a' ∧ K (a'.put oi.dst v) w') a w := by
  have hobt := Oper.apart_spec hap
  obtain ⟨h1, h2, h3⟩ := hobt
  have keep : ∀ (a : Act), YieldsC P ops C oi v a → ∀ u, YieldsC P ops C oi v (a.put oj.dst u) := fun a hy u =>
    hy.of_same (execOp_put oi hsi a oj.dst u h3) (wanted_put oi a oj.dst u h3)
  have keepD : ∀ d, YieldsC P ops C oi v { a with defers := d :: a.defers } := fun d => hy.of_same rfl rfl
  unfold wpOp at *
  simp only [hj] at *
  rw [wanted_put oj a oi.dst v h1] at h
  split
  · rename_i hw
    simp only [hw, if_true] at h
    rcases h with h | ⟨hasks, hlets⟩
    case inr => exact .inr ⟨by unfold Oper.asks at *; rw [execOp_put oj hsj a oi.dst v h1] at hasks; exact hasks, hlets⟩
    refine .inl ?_
    unfold Oper.wp at *
    rw [execOp_put oj hsj a oi.dst v h1] at h
    generalize (execOp a.eval oj).run P w = r at *
    cases r with
    | ok n w' =>
      cases n <;> simp only [Oper.upon] at h ⊢
      case value u => exact ⟨keep a hy u, by rw [← Act.put_comm a v u h2]; exact h⟩
      case skip => exact ⟨keep a hy _, by rw [← Act.put_comm a v undef h2]; exact h⟩
      case defer d =>
        refine ⟨keep _ (keepD d) _, ?_⟩
        rw [← Act.put_comm _ v undef h2, ← Act.put_defers]
        exact h
      case enter f args =>
        refine Calls.mono h fun e w'' he => ?_
        cases e with
        | returned u => exact ⟨keep a hy u, by rw [← Act.put_comm a v u h2]; exact he⟩
        | panicked c => exact hQ _ _ _ he
        | outgrown => exact he
      case row row args => exact Rows.mono h fun u w'' he => ⟨keep a hy u, by rw [← Act.put_comm a v u h2]; exact he⟩
    | halt x w' =>
      cases x <;> simp only [Oper.upon] at h ⊢
      case panic u => exact hQ _ _ _ h
  · rename_i hw
    simp only [hw] at h
    exact ⟨keep a hy _, by rw [← Act.put_comm a v undef h2]; exact h⟩

/-- Operation s (if there is one) comes behind i. -/
def endsBehind (md : Region.Mode) (ops : Array Oper) (i s : Nat) : Bool := match ops[s]? with
  | some os => os.after.any fun e => Region.binds md e && e.on == i
  | none => true

theorem wpAnyI_first {s i : Nat} {oi : Oper} {v : Value} {D : World → Prop} (J : Array Bool → Prop) (hi : ops[i]? = some oi) (hsel : ∀ (j : Nat) (o : Oper) cs b, ops[j]? = some o → o.op ≠ .select cs b)
    (hJ : ∀ listed j, J listed → i ∈ Region.ready md ops listed → j ∈ Region.ready md ops listed → j ≠ i → J (listed.setIfInBounds j true))
    (hD : ∀ listed w, J listed → A w ∧ ((listed.setIfInBounds i true).getD s false = false → C w) → D w ∧ (listed.getD s false = false → C w))
    (hQ : ∀ c a w, Q (.panic c) (a.put oi.dst v) w → Q (.panic c) a w) :
    ∀ (fuel : Nat) (listed : Array Bool) (a : Act) (w : World), J listed →
      (∀ j oj, ops[j]? = some oj → j ≠ i → listed.getD j true = false → (∀ e ∈ oj.after, Region.binds md e = true → e.on ≠ i) → oi.apart ops oj = true) →
      i ∈ Region.ready md ops listed → YieldsC P ops D oi v a →
      wpAnyI P md ops Q s A C fuel (listed.setIfInBounds i true) (a.put oi.dst v) w → wpAnyI P md ops Q s A C (fuel + 1) listed a w := by
  intro fuel
  induction fuel with
  | zero =>
    intro listed a w hu _ hr hy H
    have hC := hD listed w hu H.1
    refine ⟨⟨H.1.1, hC.2⟩, fun h => (by rw [h] at hr; cases hr), fun j hj => ?_⟩
    by_cases hji : j = i
    · subst hji; exact hy.wpOp hi hC.1 H
    · have := ready_mono hj hji
      rw [H.2.1] at this
      cases this
  | succ fuel ih =>
    intro listed a w hu hfree hr hy H
    have hC := hD listed w hu H.1
    refine ⟨⟨H.1.1, hC.2⟩, fun h => (by rw [h] at hr; cases hr), fun j hj => ?_⟩
    by_cases hji : j = i
    · subst hji; exact hy.wpOp hi hC.1 H
    · have h1 := H.2.2 j (ready_mono hj hji)
      have hobt := mem_ready.1 hj
      obtain ⟨hjun, oj, hoj, hall⟩ := hobt
      have hnot : ∀ e ∈ oj.after, Region.binds md e = true → e.on ≠ i := fun e he hb heq => by
        have h1 := hall e he hb
        have h0 := (mem_ready.1 hr).1
        rw [heq] at h1
        rcases Nat.lt_or_ge i listed.size with h' | h'
        · simp [h'] at h0 h1; rw [h0] at h1; cases h1
        · simp [Array.getElem?_eq_none h'] at h1
      have h2 := wpOp_putC hoj (hfree j oj hoj hji hjun hnot) (fun cs b => hsel i oi cs b hi) (fun cs b => hsel j oj cs b hoj) hQ hy h1
      have hfree' : ∀ k ok, ops[k]? = some ok → k ≠ i → (listed.setIfInBounds j true).getD k true = false →
          (∀ e ∈ ok.after, Region.binds md e = true → e.on ≠ i) → oi.apart ops ok = true := fun k ok hk hki hun hno => by
        refine hfree k ok hk hki ?_ hno
        by_cases hjk : j = k
        · subst hjk; exact hjun
        · rw [getD_set_ne true hjk] at hun; exact hun
      refine wpOp_mono (fun a' w' h3 => ih (listed.setIfInBounds j true) a' w' (hJ listed j hu hr hj hji) hfree' (ready_mono hr (Ne.symm hji)) h3.1 ?_) h2
      rw [Array.setIfInBounds_comm _ _ hji]
      exact h3.2

/-- What yields as long as s has not run, where s comes behind it. -/
theorem wpAnyI_firstC {s i : Nat} {oi : Oper} {v : Value} (hi : ops[i]? = some oi) (hsel : ∀ (j : Nat) (o : Oper) cs b, ops[j]? = some o → o.op ≠ .select cs b)
    (hs : endsBehind md ops i s = true) (his : i ≠ s) (hQ : ∀ c a w, Q (.panic c) (a.put oi.dst v) w → Q (.panic c) a w) {fuel : Nat} {listed : Array Bool} {a : Act} {w : World} (hu : listed.getD s false = false)
    (hf : ∀ j oj, ops[j]? = some oj → j ≠ i → listed.getD j true = false → (∀ e ∈ oj.after, Region.binds md e = true → e.on ≠ i) → oi.apart ops oj = true)
    (hr : i ∈ Region.ready md ops listed) (hy : YieldsC P ops C oi v a) (h : wpAnyI P md ops Q s A C fuel (listed.setIfInBounds i true) (a.put oi.dst v) w) : wpAnyI P md ops Q s A C (fuel + 1) listed a w :=
  wpAnyI_first (D := C) (fun listed => listed.getD s false = false) hi hsel (fun listed j hJ hri hrj hji => by
    have hjs : j ≠ s := fun e => by
      subst e
      have hobt := mem_ready.1 hrj
      obtain ⟨_, oj, hoj, hall⟩ := hobt
      simp only [endsBehind, hoj] at hs
      have hobt := Array.any_eq_true'.1 hs
      obtain ⟨e, he, hb⟩ := hobt
      simp only [Bool.and_eq_true, beq_iff_eq] at hb
      have h1 := hall e he hb.1
      have h0 := (mem_ready.1 hri).1
      rw [hb.2] at h1
      rcases Nat.lt_or_ge i listed.size with h' | h'
      · simp [h'] at h0 h1; rw [h0] at h1; cases h1
      · simp [Array.getElem?_eq_none h'] at h1
    show (listed.setIfInBounds j true).getD s false = false
    rw [getD_set_ne false hjs]; exact hJ) (fun listed w hJ h => by
    have := h.2 (by rw [getD_set_ne false his]; exact hJ)
    exact ⟨this, fun _ => this⟩) hQ fuel listed a w hu hf hr hy h

/-- What yields at each stage. -/
theorem wpAnyI_firstA {s i : Nat} {oi : Oper} {v : Value} (hi : ops[i]? = some oi) (hsel : ∀ (j : Nat) (o : Oper) cs b, ops[j]? = some o → o.op ≠ .select cs b)
    (his : i ≠ s) (hQ : ∀ c a w, Q (.panic c) (a.put oi.dst v) w → Q (.panic c) a w) {fuel : Nat} {listed : Array Bool} {a : Act} {w : World}
    (hf : ∀ j oj, ops[j]? = some oj → j ≠ i → listed.getD j true = false → (∀ e ∈ oj.after, Region.binds md e = true → e.on ≠ i) → oi.apart ops oj = true)
    (hr : i ∈ Region.ready md ops listed) (hy : YieldsC P ops A oi v a) (h : wpAnyI P md ops Q s A C fuel (listed.setIfInBounds i true) (a.put oi.dst v) w) : wpAnyI P md ops Q s A C (fuel + 1) listed a w :=
  wpAnyI_first (D := A) (fun _ => True) hi hsel (fun _ _ _ _ _ _ => trivial) (fun listed w _ h => ⟨h.1, fun h0 => h.2 (by rw [getD_set_ne false his]; exact h0)⟩) hQ fuel listed a w trivial hf hr hy h
end any

/-! ### The same over slots -/
def lst (n : Nat) (done : List Nat) : Array Bool := done.foldr (fun i l => l.setIfInBounds i true) (Array.replicate n false)

section al
variable {P : Program} {ops : Array Oper} {n : Nat} {f : Slots} {ds : List Deferred} {w : World} {A C : World → Prop} {s : Nat} {Qn : Slots → World → Prop} {Qp : List PanicEntry → World → Prop}

def anyPost (n : Nat) (ds : List Deferred) (Qn : Slots → World → Prop) (Qp : List PanicEntry → World → Prop) : Exit → Act → World → Prop
  | .normal, a, w => ∃ f, Rep n f ds a ∧ Qn f w
  | .panic c, a, w => a.tmps.size = n ∧ a.defers = ds ∧ Qp c w
  | _, _, _ => False

structure AL (P : Program) (ops : Array Oper) (s : Nat) (A C : World → Prop) (Qn : Slots → World → Prop) (Qp : List PanicEntry → World → Prop) (n : Nat) (ds : List Deferred) (fuel : Nat) (done : List Nat) (f : Slots) (w : World) : Prop where
  out : ∀ a, Rep n f ds a → wpAnyI P .any ops (anyPost n ds Qn Qp) s A C fuel (lst ops.size done) a w

def quietAt (ops : Array Oper) (s : Nat) (done : List Nat) (i : Nat) : Bool := endsBehind .any ops i s && i != s && !(lst ops.size done).getD s false && Region.noSelect ops && Region.free .any ops (lst ops.size done) i && (Region.ready .any ops (lst ops.size done)).contains i

/-- Nothing is asked behind s: the same check without it. -/
def quietA (ops : Array Oper) (s : Nat) (done : List Nat) (i : Nat) : Bool := i != s && Region.noSelect ops && Region.free .any ops (lst ops.size done) i && (Region.ready .any ops (lst ops.size done)).contains i

theorem AL.panicKept {o : Option Tmp} {v : Value} : ∀ (c : List PanicEntry) (a : Act) (w : World), anyPost n ds Qn Qp (.panic c) (a.put o v) w → anyPost n ds Qn Qp (.panic c) a w := by
  rintro c a' w' ⟨h1, h2, h3⟩
  refine ⟨?_, ?_, h3⟩
  · rw [← h1]; cases o <;> simp [Act.put]
  · rw [← h2]; cases o <;> rfl

theorem AL.first {fuel : Nat} {done : List Nat} (i : Nat) {oi : Oper} {v : Value} {f' : Slots} (hi : ops[i]? = some oi) (hq : quietAt ops s done i = true)
    (hrep : ∀ a, Rep n f ds a → Rep n f' ds (a.put oi.dst v)) (hy : ∀ a, Rep n f ds a → YieldsC P ops C oi v a)
    (h : AL P ops s A C Qn Qp n ds fuel (i :: done) f' w) : AL P ops s A C Qn Qp n ds (fuel + 1) done f w := by
  simp only [quietAt, Bool.and_eq_true, bne_iff_ne, Bool.not_eq_true'] at hq
  obtain ⟨⟨⟨⟨⟨hq1, hq2⟩, hq3⟩, hq4⟩, hq5⟩, hq6⟩ := hq
  exact ⟨fun a ha => wpAnyI_firstC hi (Region.noSelect_spec hq4) hq1 hq2 AL.panicKept hq3 (Region.free_spec hi hq5) (by simpa using hq6) (hy a ha) (h.out _ (hrep a ha))⟩
theorem AL.firstA {fuel : Nat} {done : List Nat} (i : Nat) {oi : Oper} {v : Value} {f' : Slots} (hi : ops[i]? = some oi) (hq : quietA ops s done i = true)
    (hrep : ∀ a, Rep n f ds a → Rep n f' ds (a.put oi.dst v)) (hy : ∀ a, Rep n f ds a → YieldsC P ops A oi v a)
    (h : AL P ops s A C Qn Qp n ds fuel (i :: done) f' w) : AL P ops s A C Qn Qp n ds (fuel + 1) done f w := by
  simp only [quietA, Bool.and_eq_true, bne_iff_ne] at hq
  obtain ⟨⟨⟨hq2, hq4⟩, hq5⟩, hq6⟩ := hq
  exact ⟨fun a ha => wpAnyI_firstA hi (Region.noSelect_spec hq4) hq2 AL.panicKept (Region.free_spec hi hq5) (by simpa using hq6) (hy a ha) (h.out _ (hrep a ha))⟩

section
variable {o : Op} {ty : TypeId} {pos : String} {af : Array Edge} {fuel : Nat} {done : List Nat}

theorem AL.val (i : Nat) {d : Nat} {v : Value} (hi : ops[i]? = some ⟨some d, o, ty, pos, af, none⟩) (hq : quietAt ops s done i = true) (hd : Nat.blt d n = true)
    (hrun : ∀ w, C w → (execOp (ev f) ⟨some d, o, ty, pos, af, none⟩).run P w = .ok (.value v) w)
    (h : AL P ops s A C Qn Qp n ds fuel (i :: done) (upd f d v) w) : AL P ops s A C Qn Qp n ds (fuel + 1) done f w :=
  .first i hi hq (fun a ha => ha.put hd v) (fun a ha => .inl ⟨by simp [Region.wanted], fun w hw => by rw [ha.eval]; exact hrun w hw⟩) h

theorem AL.valY (i : Nat) {d j dj : Nat} {v : Value} {want : Bool} (hi : ops[i]? = some ⟨some d, o, ty, pos, af, some (j, want)⟩) (hq : quietAt ops s done i = true) (hd : Nat.blt d n = true)
    (hj : (ops[j]?).bind (·.dst) = some dj) (hdj : Nat.blt dj n = true) (hv : f dj = .bool want)
    (hrun : ∀ w, C w → (execOp (ev f) ⟨some d, o, ty, pos, af, none⟩).run P w = .ok (.value v) w)
    (h : AL P ops s A C Qn Qp n ds fuel (i :: done) (upd f d v) w) : AL P ops s A C Qn Qp n ds (fuel + 1) done f w :=
  .first i hi hq (fun a ha => ha.put hd v) (fun a ha => .inl ⟨by
    have hy := yielded_rep (ops := ops) ha hj hdj
    rw [hv] at hy
    simp only [Region.wanted, hy, beq_self_eq_true], fun w hw => by rw [ha.eval]; exact hrun w hw⟩) h

theorem AL.valN (i : Nat) {d j dj : Nat} {want : Bool} (hi : ops[i]? = some ⟨some d, o, ty, pos, af, some (j, want)⟩) (hq : quietAt ops s done i = true) (hd : Nat.blt d n = true)
    (hj : (ops[j]?).bind (·.dst) = some dj) (hdj : Nat.blt dj n = true) (hv : f dj = .bool (!want) ∨ f dj = undef)
    (h : AL P ops s A C Qn Qp n ds fuel (i :: done) (upd f d undef) w) : AL P ops s A C Qn Qp n ds (fuel + 1) done f w :=
  .first i hi hq (fun a ha => ha.put hd undef) (fun a ha => .inr ⟨by
    have hy := yielded_rep (ops := ops) ha hj hdj
    simp only [Region.wanted, hy]
    rcases hv with hv | hv
    · rw [hv]; cases want <;> rfl
    · rw [hv]; rfl, rfl⟩) h

theorem AL.valA (i : Nat) {d : Nat} {v : Value} (hi : ops[i]? = some ⟨some d, o, ty, pos, af, none⟩) (hq : quietA ops s done i = true) (hd : Nat.blt d n = true)
    (hrun : ∀ w, A w → (execOp (ev f) ⟨some d, o, ty, pos, af, none⟩).run P w = .ok (.value v) w)
    (h : AL P ops s A C Qn Qp n ds fuel (i :: done) (upd f d v) w) : AL P ops s A C Qn Qp n ds (fuel + 1) done f w :=
  .firstA i hi hq (fun a ha => ha.put hd v) (fun a ha => .inl ⟨by simp [Region.wanted], fun w hw => by rw [ha.eval]; exact hrun w hw⟩) h

theorem AL.valAY (i : Nat) {d j dj : Nat} {v : Value} {want : Bool} (hi : ops[i]? = some ⟨some d, o, ty, pos, af, some (j, want)⟩) (hq : quietA ops s done i = true) (hd : Nat.blt d n = true)
    (hj : (ops[j]?).bind (·.dst) = some dj) (hdj : Nat.blt dj n = true) (hv : f dj = .bool want)
    (hrun : ∀ w, A w → (execOp (ev f) ⟨some d, o, ty, pos, af, none⟩).run P w = .ok (.value v) w)
    (h : AL P ops s A C Qn Qp n ds fuel (i :: done) (upd f d v) w) : AL P ops s A C Qn Qp n ds (fuel + 1) done f w :=
  .firstA i hi hq (fun a ha => ha.put hd v) (fun a ha => .inl ⟨by
    have hy := yielded_rep (ops := ops) ha hj hdj
    rw [hv] at hy
    simp only [Region.wanted, hy, beq_self_eq_true], fun w hw => by rw [ha.eval]; exact hrun w hw⟩) h

theorem AL.valAN (i : Nat) {d j dj : Nat} {want : Bool} (hi : ops[i]? = some ⟨some d, o, ty, pos, af, some (j, want)⟩) (hq : quietA ops s done i = true) (hd : Nat.blt d n = true)
    (hj : (ops[j]?).bind (·.dst) = some dj) (hdj : Nat.blt dj n = true) (hv : f dj = .bool (!want) ∨ f dj = undef)
    (h : AL P ops s A C Qn Qp n ds fuel (i :: done) (upd f d undef) w) : AL P ops s A C Qn Qp n ds (fuel + 1) done f w :=
  .firstA i hi hq (fun a ha => ha.put hd undef) (fun a ha => .inr ⟨by
    have hy := yielded_rep (ops := ops) ha hj hdj
    simp only [Region.wanted, hy]
    rcases hv with hv | hv
    · rw [hv]; cases want <;> rfl
    · rw [hv]; rfl, rfl⟩) h

/-- What stands behind an operation with effects. -/
def alPost (P : Program) (ops : Array Oper) (s : Nat) (A C : World → Prop) (Qn : Slots → World → Prop) (Qp : List PanicEntry → World → Prop) (n : Nat) (ds : List Deferred) (fuel : Nat) (done : List Nat) : Post
  | .normal, f, ds', w => ds' = ds ∧ AL P ops s A C Qn Qp n ds fuel done f w
  | .panic c, f, ds', w => ds' = ds ∧ Qp c w
  | _, _, _, _ => False

theorem wpOp_of_WL {i : Nat} {o : Oper} (hi : ops[i]? = some o) (h : WL P ops (alPost P ops s A C Qn Qp n ds fuel (i :: done)) n [o] f ds w) {a : Act} (ha : Rep n f ds a) :
    wpOp P ops (anyPost n ds Qn Qp) i (wpAnyI P .any ops (anyPost n ds Qn Qp) s A C fuel ((lst ops.size done).setIfInBounds i true)) a w := by
  have h1 := h.out a ha
  have e : (lst ops.size done).setIfInBounds i true = lst ops.size (i :: done) := rfl
  rw [e]
  have hn : ∀ a' w', lift n (alPost P ops s A C Qn Qp n ds fuel (i :: done)) .normal a' w' → wpAnyI P .any ops (anyPost n ds Qn Qp) s A C fuel (lst ops.size (i :: done)) a' w' := by
    rintro a' w' ⟨f', ds', hr, rfl, hA⟩
    exact hA.out a' hr
  unfold wpOp
  simp only [hi]
  simp only [wpList] at h1
  split
  · rename_i hw
    simp only [hw, if_true] at h1
    rcases h1 with h1 | ⟨_, a0, w0, f0, ds0, _, hF⟩
    · refine .inl ?_
      unfold Oper.wp at h1 ⊢
      generalize (execOp a.eval o).run P w = r at h1 ⊢
      cases r with
      | ok x w' =>
        cases x <;> simp only [Oper.upon] at h1 ⊢
        case value => exact hn _ _ h1
        case skip => exact hn _ _ h1
        case defer => exact hn _ _ h1
        case enter =>
          refine h1.mono fun e w' hR => ?_
          cases e with
          | returned v => exact hn _ _ hR
          | panicked ch => obtain ⟨f0, ds0, hr, rfl, hp⟩ := hR; exact ⟨hr.size, hr.defers, hp⟩
          | outgrown => obtain ⟨a1, w1, f0, ds0, _, hF⟩ := hR; exact hF.elim
        case row => exact h1.mono fun v w' hR => hn _ _ hR
      | halt x w' =>
        cases x <;> simp only [Oper.upon] at h1 ⊢
        obtain ⟨f0, ds0, hr, rfl, hp⟩ := h1
        exact ⟨hr.size, hr.defers, hp⟩
    · exact hF.elim
  · rename_i hw
    simp only [hw] at h1
    exact hn _ _ h1

theorem AL.fork (rs : List Nat) (hr : (Region.ready .any ops (lst ops.size done)) = rs) (hne : rs.isEmpty = false) (hA : A w) (hC : C w)
    (h : ∀ i ∈ rs, ∃ o, ops[i]? = some o ∧ WL P ops (alPost P ops s A C Qn Qp n ds fuel (i :: done)) n [o] f ds w) : AL P ops s A C Qn Qp n ds (fuel + 1) done f w :=
  ⟨fun a ha => ⟨⟨hA, fun _ => hC⟩, fun h0 => (by rw [hr] at h0; rw [h0] at hne; cases hne), fun i hi => by
    have hobt := h i (by rw [← hr]; exact hi)
    obtain ⟨o, ho, hw⟩ := hobt
    exact wpOp_of_WL ho hw ha⟩⟩

theorem AL.one (i : Nat) {o : Oper} (hr : (Region.ready .any ops (lst ops.size done)) = [i]) (hi : ops[i]? = some o) (hA : A w) (hC : C w)
    (h : WL P ops (alPost P ops s A C Qn Qp n ds fuel (i :: done)) n [o] f ds w) : AL P ops s A C Qn Qp n ds (fuel + 1) done f w :=
  .fork [i] hr rfl hA hC (fun k hk => by simp at hk; subst hk; exact ⟨o, hi, h⟩)
theorem AL.two (i j : Nat) {o o' : Oper} (hr : (Region.ready .any ops (lst ops.size done)) = [i, j]) (hi : ops[i]? = some o) (hj : ops[j]? = some o') (hA : A w) (hC : C w)
    (h : WL P ops (alPost P ops s A C Qn Qp n ds fuel (i :: done)) n [o] f ds w) (h' : WL P ops (alPost P ops s A C Qn Qp n ds fuel (j :: done)) n [o'] f ds w) : AL P ops s A C Qn Qp n ds (fuel + 1) done f w :=
  .fork [i, j] hr rfl hA hC (fun k hk => by
    simp at hk
    rcases hk with rfl | rfl
    · exact ⟨o, hi, h⟩
    · exact ⟨o', hj, h'⟩)
theorem AL.three (i j k : Nat) {o o' o'' : Oper} (hr : (Region.ready .any ops (lst ops.size done)) = [i, j, k]) (hi : ops[i]? = some o) (hj : ops[j]? = some o') (hk : ops[k]? = some o'') (hA : A w) (hC : C w)
    (h : WL P ops (alPost P ops s A C Qn Qp n ds fuel (i :: done)) n [o] f ds w) (h' : WL P ops (alPost P ops s A C Qn Qp n ds fuel (j :: done)) n [o'] f ds w)
    (h'' : WL P ops (alPost P ops s A C Qn Qp n ds fuel (k :: done)) n [o''] f ds w) : AL P ops s A C Qn Qp n ds (fuel + 1) done f w :=
  .fork [i, j, k] hr rfl hA hC (fun m hm => by
    simp at hm
    rcases hm with rfl | rfl | rfl
    · exact ⟨o, hi, h⟩
    · exact ⟨o', hj, h'⟩
    · exact ⟨o'', hk, h''⟩)

theorem AL.end (hr : (Region.ready .any ops (lst ops.size done)).isEmpty = true) (hA : A w) (hC : C w) (h : Qn f w) : AL P ops s A C Qn Qp n ds 0 done f w :=
  ⟨fun a ha => ⟨⟨hA, fun _ => hC⟩, by simpa using hr, f, ha, h⟩⟩
/-- Behind operation s nothing is asked of the world any more. -/
theorem AL.relax (hu : (lst ops.size done).getD s false = true) (h : AL P ops 1000000 A (fun _ => True) Qn Qp n ds fuel done f w) : AL P ops s A C Qn Qp n ds fuel done f w :=
  ⟨fun a ha => (h.out a ha).relax hu⟩
end

theorem CW.any {Q : Post} {id : Nat} {l : List Oper} (s k : Nat) (hm : P.follows .mixedOrders = true) (hk : l.length = k)
    (h : AL P l.toArray s A C (fun f w => Q .normal f ds w) (fun c w => ∀ f, Q (.panic c) f ds w) n ds k [] f w.drew) : CW P (.region id l.toArray true) Q n f ds w :=
  ⟨fun a ha => by
    refine Code.wp_mono ?_ (wp_region_any (Q := anyPost n ds (fun f w => Q .normal f ds w) (fun c w => ∀ f, Q (.panic c) f ds w)) hm ?_)
    · intro e a' w' hq
      cases e with
      | normal => obtain ⟨f', hr, hq⟩ := hq; exact ⟨f', ds, hr, hq⟩
      | panic c => obtain ⟨h1, h2, hq⟩ := hq; exact ⟨fun t => a'.tmps.getD t undef, ds, ⟨h1, fun t => rfl, h2⟩, hq _⟩
      | exit id => exact hq.elim
      | goto id => exact hq.elim
      | ret => exact hq.elim
      | outgrown => exact hq.elim
    · have h1 := (h.out a ha).any
      have e : l.toArray.size = k := by simp [hk]
      rw [e] at h1 ⊢
      exact h1⟩
end al
end Go.Gx
