/- Rules of my own for walking: a frame as a function from slots to values, one rule an operation and a form of code; no program in sight. -/
import Derived.WalkKit
import Derived.Deep.Quiet
import Derived.WalkLawsBesides
import Derived.WalkSpells
namespace Go.Gx
set_option linter.unusedVariables false
set_option linter.unusedSimpArgs false

abbrev Slots := Nat → Value

def upd (f : Slots) (d : Nat) (v : Value) : Slots := fun t => bif Nat.beq t d then v else f t

def updL (f : Slots) : List (Nat × Value) → Slots
  | [] => f
  | p :: L => upd (updL f L) p.1 p.2

def ev (f : Slots) : Operand → Value
  | .tmp t => f t
  | .const v => v
  | .global g => .pointer (some ⟨g, 0, none⟩)
  | .func F => .func (.func F) #[] #[]

theorem upd_same (f : Slots) (d : Nat) (v : Value) : upd f d v d = v := by simp [upd]

theorem upd_of (f : Slots) {d : Nat} {v : Value} (h : f d = v) : upd f d v = f := by
  funext t
  unfold upd
  cases hb : Nat.beq t d with
  | true => rw [Nat.eq_of_beq_eq_true hb]; exact h.symm
  | false => rfl

/-- What some slots hold. -/
def Holds (f : Slots) : List (Nat × Value) → Prop
  | [] => True
  | p :: L => f p.1 = p.2 ∧ Holds f L

theorem Holds.nil {f : Slots} : Holds f [] := trivial
theorem Holds.cons {f : Slots} {d : Nat} {v : Value} {L : List (Nat × Value)} (h : f d = v) (hL : Holds f L) : Holds f ((d, v) :: L) := ⟨h, hL⟩

theorem Holds.updL {f : Slots} : ∀ {L : List (Nat × Value)}, Holds f L → Gx.updL f L = f
  | [], _ => rfl
  | p :: L, h => by
    show upd (Gx.updL f L) p.1 p.2 = f
    rw [Holds.updL h.2]
    exact upd_of f h.1

theorem Holds.chain {f : Slots} {L : List (Nat × Value)} (h : Holds f L) : ∃ g, f = Gx.updL g L := ⟨f, h.updL.symm⟩

structure Rep (n : Nat) (f : Slots) (ds : List Deferred) (a : Act) : Prop where
  size : a.tmps.size = n
  get : ∀ t, a.tmps.getD t undef = f t
  defers : a.defers = ds

theorem Rep.eval {n : Nat} {f : Slots} {ds : List Deferred} {a : Act} (h : Rep n f ds a) : a.eval = ev f := by
  funext x
  cases x with
  | tmp t => exact h.get t
  | const v => rfl
  | global g => rfl
  | func F => rfl

theorem getD_set {α : Type} (xs : Array α) (d t : Nat) (v u : α) (hd : d < xs.size) : (xs.setIfInBounds d v).getD t u = bif Nat.beq t d then v else xs.getD t u := by
  simp only [Array.getD_eq_getD_getElem?]
  cases hb : Nat.beq t d with
  | true =>
    have := Nat.eq_of_beq_eq_true hb
    subst this
    simp [hd]
  | false =>
    have hne : d ≠ t := fun e => by subst e; simp at hb
    simp [Array.getElem?_setIfInBounds_ne hne]

theorem Rep.put {n : Nat} {f : Slots} {ds : List Deferred} {a : Act} (h : Rep n f ds a) {d : Nat} (hd : Nat.blt d n = true) (v : Value) : Rep n (upd f d v) ds (a.put (some d) v) := by
  have hd' : d < a.tmps.size := by rw [h.size]; simpa [Nat.blt_eq] using hd
  refine ⟨by simp [Act.put, h.size], fun t => ?_, h.defers⟩
  show (a.tmps.setIfInBounds d v).getD t undef = _
  rw [getD_set _ _ _ _ _ hd']
  simp only [upd, h.get]

theorem Rep.putNone {n : Nat} {f : Slots} {ds : List Deferred} {a : Act} (h : Rep n f ds a) (v : Value) : Rep n f ds (a.put none v) := h

abbrev Post := Exit → Slots → List Deferred → World → Prop

def lift (n : Nat) (Q : Post) : Exit → Act → World → Prop := fun e a w => ∃ f ds, Rep n f ds a ∧ Q e f ds w

structure WL (P : Program) (ops : Array Oper) (Q : Post) (n : Nat) (l : List Oper) (f : Slots) (ds : List Deferred) (w : World) : Prop where
  out : ∀ a, Rep n f ds a → wpList P ops (lift n Q) l a w

structure CW (P : Program) (c : Code) (Q : Post) (n : Nat) (f : Slots) (ds : List Deferred) (w : World) : Prop where
  out : ∀ a, Rep n f ds a → c.wp P (lift n Q) a w

section ops
variable {P : Program} {ops : Array Oper} {Q : Post} {n : Nat} {rest : List Oper} {f : Slots} {ds : List Deferred} {w w' : World} {o : Op} {ty : TypeId} {pos : String} {af : Array Edge}

theorem WL.nil (h : Q .normal f ds w) : WL P ops Q n [] f ds w := ⟨fun a ha => ⟨f, ds, ha, h⟩⟩

/-- An operation that yields a value. -/
theorem WL.val {d : Nat} {v : Value} (hd : Nat.blt d n = true) (hrun : (execOp (ev f) ⟨some d, o, ty, pos, af, none⟩).run P w = .ok (.value v) w')
    (h : WL P ops Q n rest (upd f d v) ds w') : WL P ops Q n (⟨some d, o, ty, pos, af, none⟩ :: rest) f ds w :=
  ⟨fun a ha => wpList_plain rfl fun K hK => by
    unfold Oper.wp
    rw [ha.eval, hrun]
    exact hK _ _ (h.out _ (ha.put hd v))⟩

/-- An operation that yields a value which nobody takes. -/
theorem WL.drop {v : Value} (hrun : (execOp (ev f) ⟨none, o, ty, pos, af, none⟩).run P w = .ok (.value v) w')
    (h : WL P ops Q n rest f ds w') : WL P ops Q n (⟨none, o, ty, pos, af, none⟩ :: rest) f ds w :=
  ⟨fun a ha => wpList_plain rfl fun K hK => by
    unfold Oper.wp
    rw [ha.eval, hrun]
    exact hK _ _ (h.out _ ha)⟩

/-- An operation that yields nothing (a store). -/
theorem WL.skip (hrun : (execOp (ev f) ⟨none, o, ty, pos, af, none⟩).run P w = .ok .skip w')
    (h : WL P ops Q n rest f ds w') : WL P ops Q n (⟨none, o, ty, pos, af, none⟩ :: rest) f ds w :=
  ⟨fun a ha => wpList_plain rfl fun K hK => by
    unfold Oper.wp
    rw [ha.eval, hrun]
    exact hK _ _ (h.out _ ha)⟩

/-- A call of a function with a body: what its contract gives. -/
theorem WL.enter {d : Nat} {F : FuncId} {args : Array Value} {R : Ending → World → Prop} (hd : Nat.blt d n = true)
    (hrun : (execOp (ev f) ⟨some d, o, ty, pos, af, none⟩).run P w = .ok (.enter F args) w) (hc : Calls P F args w R)
    (h : ∀ e w', R e w' → ∃ v, e = .returned v ∧ WL P ops Q n rest (upd f d v) ds w') : WL P ops Q n (⟨some d, o, ty, pos, af, none⟩ :: rest) f ds w :=
  ⟨fun a ha => wpList_plain rfl fun K hK => by
    unfold Oper.wp
    rw [ha.eval, hrun]
    refine hc.mono fun e w' hR => ?_
    have hobt := h e w' hR
    obtain ⟨v, rfl, hw⟩ := hobt
    exact hK _ _ (hw.out _ (ha.put hd v))⟩

/-- The same where the call may panic. -/
theorem WL.enterP {d : Option Nat} {F : FuncId} {args : Array Value} {R : Ending → World → Prop} (hd : ∀ k, d = some k → Nat.blt k n = true)
    (hrun : (execOp (ev f) ⟨d, o, ty, pos, af, none⟩).run P w = .ok (.enter F args) w) (hc : Calls P F args w R)
    (h : ∀ e w', R e w' → match e with
      | .returned v => (∀ k, d = some k → WL P ops Q n rest (upd f k v) ds w') ∧ (d = none → WL P ops Q n rest f ds w')
      | .panicked ch => Q (.panic ch) f ds w'
      | .outgrown => False) : WL P ops Q n (⟨d, o, ty, pos, af, none⟩ :: rest) f ds w :=
  ⟨fun a ha => wpList_plain rfl fun K hK => by
    unfold Oper.wp
    rw [ha.eval, hrun]
    refine hc.mono fun e w' hR => ?_
    have := h e w' hR
    cases e with
    | returned v =>
      cases d with
      | none => exact hK _ _ ((this.2 rfl).out _ ha)
      | some k => exact hK _ _ ((this.1 k rfl).out _ (ha.put (hd k rfl) v))
    | panicked ch => exact ⟨f, ds, ha, this⟩
    | outgrown => exact this.elim⟩

/-- An operation that panics. -/
theorem WL.panic {d : Option Nat} {v : Value} (hrun : (execOp (ev f) ⟨d, o, ty, pos, af, none⟩).run P w = .halt (.panic v) w')
    (h : Q (.panic [{ v, recovered := false }]) f ds w') : WL P ops Q n (⟨d, o, ty, pos, af, none⟩ :: rest) f ds w :=
  ⟨fun a ha => wpList_plain rfl fun K hK => by
    unfold Oper.wp
    rw [ha.eval, hrun]
    exact ⟨f, ds, ha, h⟩⟩

/-- A deferred call is laid by. -/
theorem WL.defer {c : Deferred} (hrun : (execOp (ev f) ⟨none, o, ty, pos, af, none⟩).run P w = .ok (.defer c) w')
    (h : WL P ops Q n rest f (c :: ds) w') : WL P ops Q n (⟨none, o, ty, pos, af, none⟩ :: rest) f ds w :=
  ⟨fun a ha => wpList_plain rfl fun K hK => by
    unfold Oper.wp
    rw [ha.eval, hrun]
    exact hK _ _ (h.out _ ⟨ha.size, ha.get, by simp [Act.put, ha.defers]⟩)⟩

theorem yielded_rep {a : Act} (ha : Rep n f ds a) {j dj : Nat} (hj : (ops[j]?).bind (·.dst) = some dj) (hdj : Nat.blt dj n = true) :
    yielded ops a.tmps j = match f dj with | .bool b => some b | _ => none := by
  have hlt : dj < a.tmps.size := by rw [ha.size]; simpa [Nat.blt_eq] using hdj
  have hg : a.tmps[dj]? = some (f dj) := by
    have := ha.get dj
    simp only [Array.getD_eq_getD_getElem?, Array.getElem?_eq_getElem hlt, Option.getD_some] at this
    rw [Array.getElem?_eq_getElem hlt, this]
  simp only [yielded, hj, Option.bind_some, hg]
  cases f dj <;> rfl

/-- A guarded operation whose guard says yes is the operation without it. -/
theorem WL.yes {d : Option Nat} {j dj : Nat} {want : Bool} (hj : (ops[j]?).bind (·.dst) = some dj) (hdj : Nat.blt dj n = true) (hv : f dj = .bool want)
    (h : WL P ops Q n (⟨d, o, ty, pos, af, none⟩ :: rest) f ds w) : WL P ops Q n (⟨d, o, ty, pos, af, some (j, want)⟩ :: rest) f ds w :=
  ⟨fun a ha => by
    have hy := yielded_rep (ops := ops) ha hj hdj
    rw [hv] at hy
    have := h.out a ha
    simp only [wpList, Region.wanted, hy, beq_self_eq_true, if_true] at this ⊢
    exact this⟩

theorem WL.no {d : Nat} {j dj : Nat} {want : Bool} (hd : Nat.blt d n = true) (hj : (ops[j]?).bind (·.dst) = some dj) (hdj : Nat.blt dj n = true)
    (hv : f dj = .bool (!want) ∨ f dj = undef)
    (h : WL P ops Q n rest (upd f d undef) ds w) : WL P ops Q n (⟨some d, o, ty, pos, af, some (j, want)⟩ :: rest) f ds w :=
  ⟨fun a ha => by
    have hy := yielded_rep (ops := ops) ha hj hdj
    have hne : (yielded ops a.tmps j == some want) = false := by
      rw [hy]
      rcases hv with hv | hv
      · rw [hv]; cases want <;> rfl
      · rw [hv]; rfl
    simp only [wpList, Region.wanted, hne, Bool.false_eq_true, if_false]
    exact h.out _ (ha.put hd undef)⟩

theorem WL.noNone {j dj : Nat} {want : Bool} (hj : (ops[j]?).bind (·.dst) = some dj) (hdj : Nat.blt dj n = true)
    (hv : f dj = .bool (!want) ∨ f dj = undef)
    (h : WL P ops Q n rest f ds w) : WL P ops Q n (⟨none, o, ty, pos, af, some (j, want)⟩ :: rest) f ds w :=
  ⟨fun a ha => by
    have hy := yielded_rep (ops := ops) ha hj hdj
    have hne : (yielded ops a.tmps j == some want) = false := by
      rw [hy]
      rcases hv with hv | hv
      · rw [hv]; cases want <;> rfl
      · rw [hv]; rfl
    simp only [wpList, Region.wanted, hne, Bool.false_eq_true, if_false]
    exact h.out _ ha⟩

theorem wpList_mono {Q Q' : Exit → Act → World → Prop} (hq : ∀ e a w, Q e a w → Q' e a w) : ∀ (l : List Oper) (a : Act) (w : World), wpList P ops Q l a w → wpList P ops Q' l a w
  | [], a, w, h => hq _ _ _ h
  | o :: l, a, w, h => by
    simp only [wpList] at h ⊢
    split
    · rename_i hw
      simp only [hw, if_true] at h
      rcases h with h | ⟨h, a0, w0, h1⟩
      · refine .inl ?_
        unfold Oper.wp at h ⊢
        generalize (execOp a.eval o).run P w = r at h ⊢
        cases r with
        | ok x w' =>
          cases x <;> simp only [Oper.upon] at h ⊢
          case value => exact wpList_mono hq l _ _ h
          case skip => exact wpList_mono hq l _ _ h
          case defer => exact wpList_mono hq l _ _ h
          case enter =>
            refine h.mono fun e w' hR => ?_
            cases e with
            | returned v => exact wpList_mono hq l _ _ hR
            | panicked ch => exact hq _ _ _ hR
            | outgrown => obtain ⟨a1, w1, h2⟩ := hR; exact ⟨a1, w1, hq _ _ _ h2⟩
          case row => exact h.mono fun v w' hR => wpList_mono hq l _ _ hR
        | halt x w' =>
          cases x <;> simp only [Oper.upon] at h ⊢
          exact hq _ _ _ h
      · exact .inr ⟨h, a0, w0, hq _ _ _ h1⟩
    · rename_i hw
      simp only [hw] at h
      exact wpList_mono hq l _ _ h

/-- Ways through the rest of a region that meet again. -/
theorem WL.cut {Mid : Slots → World → Prop} (h : WL P ops (fun e f' ds' w' => e = .normal ∧ ds' = ds ∧ Mid f' w') n rest f ds w) (hm : ∀ f' w', Mid f' w' → Q .normal f' ds w') : WL P ops Q n rest f ds w :=
  ⟨fun a ha => wpList_mono (fun e a w hq => by
    obtain ⟨f', ds', hr, rfl, rfl, hM⟩ := hq
    exact ⟨f', ds', hr, hm _ _ hM⟩) _ _ _ (h.out a ha)⟩

theorem WL.mono {Q' : Post} (h : WL P ops Q n rest f ds w) (hq : ∀ e f ds w, Q e f ds w → Q' e f ds w) : WL P ops Q' n rest f ds w :=
  ⟨fun a ha => wpList_mono (fun e a w ⟨f', ds', hr, h⟩ => ⟨f', ds', hr, hq _ _ _ _ h⟩) _ _ _ (h.out a ha)⟩
end ops

section code
variable {P : Program} {Q : Post} {n : Nat} {f : Slots} {ds : List Deferred} {w : World}

def thenC (K : Slots → List Deferred → World → Prop) (Q : Post) : Post
  | .normal, f, ds, w => K f ds w
  | .exit id, f, ds, w => Q (.exit id) f ds w
  | .goto l, f, ds, w => Q (.goto l) f ds w
  | .ret, f, ds, w => Q .ret f ds w
  | .panic ch, f, ds, w => Q (.panic ch) f ds w
  | .outgrown, f, ds, w => Q .outgrown f ds w

def inB (id : Nat) (Q : Post) : Post
  | .normal, f, ds, w => Q .normal f ds w
  | .exit id', f, ds, w => bif Nat.beq id' id then Q .normal f ds w else Q (.exit id') f ds w
  | .goto l, f, ds, w => Q (.goto l) f ds w
  | .ret, f, ds, w => Q .ret f ds w
  | .panic ch, f, ds, w => Q (.panic ch) f ds w
  | .outgrown, f, ds, w => Q .outgrown f ds w

theorem CW.mono {c : Code} {Q' : Post} (h : CW P c Q n f ds w) (hq : ∀ e f ds w, Q e f ds w → Q' e f ds w) : CW P c Q' n f ds w :=
  ⟨fun a ha => Code.wp_mono (fun e a w ⟨f', ds', hr, h⟩ => ⟨f', ds', hr, hq _ _ _ _ h⟩) (h.out a ha)⟩

theorem CW.seq {x y : Code} (h : CW P x (thenC (CW P y Q n) Q) n f ds w) : CW P (.seq x y) Q n f ds w :=
  ⟨fun a ha => wp_seq (Code.wp_mono (fun e a' w' ⟨f', ds', hr, hq⟩ => by
    cases e with
    | normal => exact (show CW P y Q n f' ds' w' from hq).out a' hr
    | exit id => exact ⟨f', ds', hr, hq⟩
    | goto id => exact ⟨f', ds', hr, hq⟩
    | ret => exact ⟨f', ds', hr, hq⟩
    | panic ch => exact ⟨f', ds', hr, hq⟩
    | outgrown => exact ⟨f', ds', hr, hq⟩) (h.out a ha))⟩

theorem CW.reg {id : Nat} {l : List Oper} (h : WL P l.toArray Q n l f ds w) : CW P (.region id l.toArray false) Q n f ds w :=
  ⟨fun a ha => wp_region_lit (h.out a ha)⟩

theorem CW.cond {c : Operand} {x y : Code} {b : Bool} (hc : ev f c = .bool b) (ht : b = true → CW P x Q n f ds w) (hf : b = false → CW P y Q n f ds w) : CW P (.cond c x y) Q n f ds w :=
  ⟨fun a ha => wp_cond_split (by rw [ha.eval]; exact hc) (fun h => (ht h).out a ha) (fun h => (hf h).out a ha)⟩

theorem CW.condT {c : Operand} {x y : Code} (hc : ev f c = .bool true) (h : CW P x Q n f ds w) : CW P (.cond c x y) Q n f ds w :=
  .cond hc (fun _ => h) (fun h => by cases h)
theorem CW.condF {c : Operand} {x y : Code} (hc : ev f c = .bool false) (h : CW P y Q n f ds w) : CW P (.cond c x y) Q n f ds w :=
  .cond hc (fun h => by cases h) (fun _ => h)

theorem CW.block {id : Nat} {c : Code} (h : CW P c (inB id Q) n f ds w) : CW P (.block id c) Q n f ds w :=
  ⟨fun a ha => wp_block (Code.wp_mono (fun e a' w' ⟨f', ds', hr, hq⟩ => by
    cases e with
    | exit id' =>
      simp only [inB] at hq
      by_cases hid : id' = id
      · subst hid
        simp only [Exit.inBlock, if_true]
        exact ⟨f', ds', hr, by simpa using hq⟩
      · have hb : Nat.beq id' id = false := by
          cases hb : Nat.beq id' id with
          | true => exact absurd (Nat.eq_of_beq_eq_true hb) hid
          | false => rfl
        simp only [Exit.inBlock, hid, if_false]
        rw [hb] at hq
        exact ⟨f', ds', hr, hq⟩
    | normal => exact ⟨f', ds', hr, hq⟩
    | goto id => exact ⟨f', ds', hr, hq⟩
    | ret => exact ⟨f', ds', hr, hq⟩
    | panic ch => exact ⟨f', ds', hr, hq⟩
    | outgrown => exact ⟨f', ds', hr, hq⟩) (h.out a ha))⟩

theorem CW.skip (h : Q .normal f ds w) : CW P .skip Q n f ds w := ⟨fun a ha => wp_skip ⟨f, ds, ha, h⟩⟩
theorem CW.ret (h : Q .ret f ds w) : CW P .ret Q n f ds w := ⟨fun a ha => wp_ret ⟨f, ds, ha, h⟩⟩
theorem CW.exit {id : Nat} (h : Q (.exit id) f ds w) : CW P (.exit id) Q n f ds w := ⟨fun a ha => wp_exit ⟨f, ds, ha, h⟩⟩
theorem CW.goto {id : Nat} (h : Q (.goto id) f ds w) : CW P (.goto id) Q n f ds w := ⟨fun a ha => wp_goto ⟨f, ds, ha, h⟩⟩
theorem CW.label {id : Nat} (h : Q .normal f ds w) : CW P (.label id) Q n f ds w := ⟨fun a ha => wp_label ⟨f, ds, ha, h⟩⟩

theorem wp_loop_ex {c : Code} {Q : Exit → Act → World → Prop} {a : Act} {w : World} (I : Nat → Act → World → Prop) {m : Nat} (h₀ : I m a w)
    (round : ∀ m a w, I m a w → c.wp P (Exit.then (fun a' w' => ∃ m', m' < m ∧ I m' a' w') Q) a w) : (Code.loop c).wp P Q a w := by
  intro b k cs
  have key : ∀ m a w, I m a w →
      ∃ e a' w', Q e a' w' ∧ Arrives P (lone (b.at a (.code c :: .inLoop c :: k)) cs w) b k cs e a' w' := by
    intro m
    induction m using Nat.strongRecOn with
    | _ m ih =>
      intro a w hI
      have hobt := round m a w hI b (.inLoop c :: k) cs
      obtain ⟨e, a₁, w₁, hq, harr⟩ := hobt
      cases e with
      | normal =>
        obtain ⟨m₁, hlt, hI₁⟩ := hq
        have hobt := ih m₁ hlt a₁ w₁ hI₁
        obtain ⟨e₂, a₂, w₂, hq₂, harr₂⟩ := hobt
        exact ⟨e₂, a₂, w₂, hq₂, .of_steps (Steps.trans harr (.one step_inLoop)) harr₂⟩
      | exit id => exact ⟨_, a₁, w₁, hq, .pass (x := .inLoop c) rfl (fun _ _ => .inl (by simp)) harr⟩
      | goto l => exact ⟨_, a₁, w₁, hq, .pass (x := .inLoop c) rfl (fun _ _ => .inl (by simp)) harr⟩
      | ret => exact ⟨_, a₁, w₁, hq, .pass (x := .inLoop c) rfl (fun _ _ => .inl (by simp)) harr⟩
      | panic ch => exact ⟨_, a₁, w₁, hq, .pass (x := .inLoop c) rfl (fun _ _ => .inl (by simp)) harr⟩
      | outgrown => exact ⟨_, a₁, w₁, hq, .pass (x := .inLoop c) rfl (fun _ _ => .inl (by simp)) harr⟩
  have hobt := key m a w h₀
  obtain ⟨e, a', w', hq, harr⟩ := hobt
  exact ⟨e, a', w', hq, .of_steps (.one step_loop) harr⟩

/-- A loop: what holds at each round's head, with a number that each round lowers. -/
theorem CW.loop {c : Code} (I : Nat → Slots → World → Prop) {m : Nat} (h0 : I m f w)
    (hr : ∀ m f w, I m f w → CW P c (thenC (fun f' ds' w' => ds' = ds ∧ ∃ m', m' < m ∧ I m' f' w') Q) n f ds w) : CW P (.loop c) Q n f ds w :=
  ⟨fun a ha => wp_loop_ex (fun m a w => ∃ f, Rep n f ds a ∧ I m f w) ⟨f, ha, h0⟩ fun m a w ⟨f, ha, hI⟩ =>
    Code.wp_mono (fun e a' w' ⟨f', ds', hr', hq⟩ => by
      cases e with
      | normal =>
        obtain ⟨hds, m', hlt, hI'⟩ := hq
        exact ⟨m', hlt, f', hds ▸ hr', hI'⟩
      | exit id => exact ⟨f', ds', hr', hq⟩
      | goto id => exact ⟨f', ds', hr', hq⟩
      | ret => exact ⟨f', ds', hr', hq⟩
      | panic ch => exact ⟨f', ds', hr', hq⟩
      | outgrown => exact ⟨f', ds', hr', hq⟩) ((hr m f w hI).out a ha)⟩

/-- Ways that meet again behind a piece of code. -/
theorem CW.cut {c : Code} (Mid : Slots → World → Prop) (h : CW P c (thenC (fun f' ds' w' => ds' = ds ∧ Mid f' w') (fun e f ds w => Q e f ds w)) n f ds w) (hm : ∀ f' w', Mid f' w' → Q .normal f' ds w') : CW P c Q n f ds w :=
  h.mono fun e f' ds' w' hq => by
    cases e with
    | normal => obtain ⟨rfl, hM⟩ := hq; exact hm _ _ hM
    | exit id => exact hq
    | goto id => exact hq
    | ret => exact hq
    | panic ch => exact hq
    | outgrown => exact hq
end code

section entry
variable {P : Program} {n : Nat} {w : World}

/-- The slots at a call's start: the arguments, and nothing. -/
def ini (vs : List Value) : Slots := fun t => vs.getD t undef

theorem rep_ini {vs : List Value} (h : vs.length ≤ n) : Rep n (ini vs) [] { tmps := vs.toArray ++ Array.replicate (n - vs.toArray.size) undef, defers := [] } := by
  refine ⟨by simp; omega, fun t => ?_, rfl⟩
  simp only [ini, Array.getD_eq_getD_getElem?, List.getD_eq_getElem?_getD]
  by_cases ht : t < vs.length
  · rw [Array.getElem?_append_left (by simpa using ht)]; simp
  · rw [Array.getElem?_append_right (by simpa using ht), List.getElem?_eq_none (by omega)]
    simp only [Array.getElem?_replicate]
    split <;> rfl

/-- What stands at a function's end. -/
def fin (P : Program) (n : Nat) (fn : Func) (R : Ending → World → Prop) : Post := fun e f ds w => ∀ a, Rep n f ds a → bodyPost P fn R e a w

theorem calls {F : FuncId} {fn : Func} {c : Code} {vs : List Value} {R : Ending → World → Prop} (hf : P.funcs[F]? = some fn) (hb : fn.body = some c) (hn : fn.ntmps = n) (hv : Nat.ble vs.length n = true)
    (h : CW P c (fin P n fn R) n (ini vs) [] w) : Calls P F vs.toArray w R :=
  calls_of_wp hf hb (Code.wp_mono (fun e a w ⟨f, ds, hr, hq⟩ => hq a hr) (h.out _ (by rw [hn]; exact rep_ini (by simpa using hv))))

section
variable {fn : Func} {R : Ending → World → Prop} {f : Slots}

theorem fin_ret0 (hr : fn.results = #[]) (h : R (.returned (.tuple #[])) w) : fin P n fn R .ret f [] w :=
  fun a ha => bodyPost_ret (results_none hr _ _ _) ha.defers h
theorem fin_end0 (hr : fn.results = #[]) (h : R (.returned (.tuple #[])) w) : fin P n fn R .normal f [] w :=
  fun a ha => bodyPost_end (results_none hr _ _ _) ha.defers h
theorem fin_ret1 {t : Tmp} (hr : fn.results = #[.tmp t]) (h : R (.returned (f t)) w) : fin P n fn R .ret f [] w :=
  fun a ha => bodyPost_ret (results_tmp hr _ _ _) ha.defers (by rw [ha.get]; exact h)
theorem fin_ret2 {t u : Tmp} (hr : fn.results = #[.tmp t, .tmp u]) (h : R (.returned (.tuple #[f t, f u])) w) : fin P n fn R .ret f [] w :=
  fun a ha => bodyPost_ret (results_tmp2 hr _ _ _) ha.defers (by rw [ha.get, ha.get]; exact h)
theorem fin_ret3 {t u s : Tmp} (hr : fn.results = #[.tmp t, .tmp u, .tmp s]) (h : R (.returned (.tuple #[f t, f u, f s])) w) : fin P n fn R .ret f [] w :=
  fun a ha => bodyPost_ret (v := .tuple #[f t, f u, f s]) (by simp [results, hr, ha.get]) ha.defers h
theorem fin_cell1 {t : Tmp} {T : TypeId} {A : Addr} {v : Value} (hr : fn.results = #[.cell t T]) (hA : f t = .pointer (some A)) (hv : (loadVar T A).run P w = .ok v w) (h : R (.returned v) w) : fin P n fn R .ret f [] w :=
  fun a ha => bodyPost_ret (v := v) (by simp [results, hr, ha.get, hA, asAddr, hv]) ha.defers h
theorem fin_panic {ch : List PanicEntry} (h : R (.panicked ch) w) : fin P n fn R (.panic ch) f [] w := fun a ha => ⟨ha.defers, h⟩
end
end entry
end Go.Gx
