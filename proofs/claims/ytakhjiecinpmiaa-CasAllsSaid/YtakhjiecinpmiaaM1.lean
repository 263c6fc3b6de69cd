/- Rules of my own for walking: a frame as a function from slots to values, one rule an operation and a form of code; no program in sight. Memory as a list of owned blocks beside what is only read; what one operation does. No program in sight. What one operation does, an operation a law: in the words of the frame as a function and of owned blocks. No program in sight. Operations that make or write memory, over owned blocks: new blocks, stores, make, append, copy, conversions of strings and bytes. No program in sight. The tables of this seat: its types, its functions: closed facts. Regions that draw their order and hold operations with effects: quiet ones may be taken first, then each that is ready. No program in sight. Panics, deferred calls, recover: over slots. No program in sight. Ranging over a string; what a decoded rune says of the bytes; scopes. No program in sight. Plain words for chapter 5: names, entries; their cells. No program in sight. SHA-256 in plain words: words of 32 bits, the schedule, the rounds, blocks, the filling. No program in sight. Words of 32 bits: what one operation tells of them. No program in sight. The program's words: turned, the rounds' words, the state at the start. Regions that draw their order: quiet operations (also quiet calls) ahead of a tail in one forced order. No program in sight. The road is the kit's StillTail, at a class of worlds. Plain facts on the schedule's words, and reading an array's value. No program in sight. What a Hash holds behind bytes that were written: plain laws. No program in sight. The program's hash: the rounds' words, the state, the block. Words and laws of no program, for any seat: what a call leaves, slices, bytes, order of texts. -/
import Derived.WalkKit
import Derived.Deep.Quiet
import Derived.WalkLawsBesides
import Derived.WalkSpells
import Derived.Test.YtakhjiecinpmiaaProg
import Derived.Orders
import Derived.Recover
import Derived.Scope
import Derived.StillTail
/-! Gx -/
namespace Go.Gx
set_option linter.unusedVariables false
set_option linter.unusedSimpArgs false

abbrev Slots := Nat → Value

def upd (f : Slots) (d : Nat) (v : Value) : Slots := fun t => bif Nat.beq t d then v else f t

def updL (f : Slots) : List (Nat × Value) → Slots
  | [] => f
  | p :: L => upd (updL f L) p.1 p.2

def ev (f : Slots) : Operand → Value
  | .tmp t => f t
  | .const v => v
  | .global g => .pointer (some ⟨g, 0, none⟩)
  | .func F => .func (.func F) #[] #[]

theorem upd_same (f : Slots) (d : Nat) (v : Value) : upd f d v d = v := by simp [upd]

theorem upd_of (f : Slots) {d : Nat} {v : Value} (h : f d = v) : upd f d v = f := by
  funext t
  unfold upd
  cases hb : Nat.beq t d with
  | true => rw [Nat.eq_of_beq_eq_true hb]; exact h.symm
  | false => rfl

/-- What some slots hold. -/
def Holds (f : Slots) : List (Nat × Value) → Prop
  | [] => True
  | p :: L => f p.1 = p.2 ∧ Holds f L

theorem Holds.nil {f : Slots} : Holds f [] := trivial
theorem Holds.cons {f : Slots} {d : Nat} {v : Value} {L : List (Nat × Value)} (h : f d = v) (hL : Holds f L) : Holds f ((d, v) :: L) := ⟨h, hL⟩

theorem Holds.updL {f : Slots} : ∀ {L : List (Nat × Value)}, Holds f L → Gx.updL f L = f
  | [], _ => rfl
  | p :: L, h => by
    show upd (Gx.updL f L) p.1 p.2 = f
    rw [Holds.updL h.2]
    exact upd_of f h.1

theorem Holds.chain {f : Slots} {L : List (Nat × Value)} (h : Holds f L) : ∃ g, f = Gx.updL g L := ⟨f, h.updL.symm⟩

structure Rep (n : Nat) (f : Slots) (ds : List Deferred) (a : Act) : Prop where
  size : a.tmps.size = n
  get : ∀ t, a.tmps.getD t undef = f t
  defers : a.defers = ds

theorem Rep.eval {n : Nat} {f : Slots} {ds : List Deferred} {a : Act} (h : Rep n f ds a) : a.eval = ev f := by
  funext x
  cases x with
  | tmp t => exact h.get t
  | const v => rfl
  | global g => rfl
  | func F => rfl

theorem getD_set {α : Type} (xs : Array α) (d t : Nat) (v u : α) (hd : d < xs.size) : (xs.setIfInBounds d v).getD t u = bif Nat.beq t d then v else xs.getD t u := by
  simp only [Array.getD_eq_getD_getElem?]
  cases hb : Nat.beq t d with
  | true =>
    have := Nat.eq_of_beq_eq_true hb
    subst this
    simp [hd]
  | false =>
    have hne : d ≠ t := fun e => by subst e; simp at hb
    simp [Array.getElem?_setIfInBounds_ne hne]

theorem Rep.put {n : Nat} {f : Slots} {ds : List Deferred} {a : Act} (h : Rep n f ds a) {d : Nat} (hd : Nat.blt d n = true) (v : Value) : Rep n (upd f d v) ds (a.put (some d) v) := by
  have hd' : d < a.tmps.size := by rw [h.size]; simpa [Nat.blt_eq] using hd
  refine ⟨by simp [Act.put, h.size], fun t => ?_, h.defers⟩
  show (a.tmps.setIfInBounds d v).getD t undef = _
  rw [getD_set _ _ _ _ _ hd']
  simp only [upd, h.get]

theorem Rep.putNone {n : Nat} {f : Slots} {ds : List Deferred} {a : Act} (h : Rep n f ds a) (v : Value) : Rep n f ds (a.put none v) := h

abbrev Post := Exit → Slots → List Deferred → World → Prop

def lift (n : Nat) (Q : Post) : Exit → Act → World → Prop := fun e a w => ∃ f ds, Rep n f ds a ∧ Q e f ds w

structure WL (P : Program) (ops : Array Oper) (Q : Post) (n : Nat) (l : List Oper) (f : Slots) (ds : List Deferred) (w : World) : Prop where
  out : ∀ a, Rep n f ds a → wpList P ops (lift n Q) l a w

structure CW (P : Program) (c : Code) (Q : Post) (n : Nat) (f : Slots) (ds : List Deferred) (w : World) : Prop where
  out : ∀ a, Rep n f ds a → c.wp P (lift n Q) a w

section ops
variable {P : Program} {ops : Array Oper} {Q : Post} {n : Nat} {rest : List Oper} {f : Slots} {ds : List Deferred} {w w' : World} {o : Op} {ty : TypeId} {pos : String} {af : Array Edge}

theorem WL.nil (h : Q .normal f ds w) : WL P ops Q n [] f ds w := ⟨fun a ha => ⟨f, ds, ha, h⟩⟩

/-- An operation that yields a value. -/
theorem WL.val {d : Nat} {v : Value} (hd : Nat.blt d n = true) (hrun : (execOp (ev f) ⟨some d, o, ty, pos, af, none⟩).run P w = .ok (.value v) w')
    (h : WL P ops Q n rest (upd f d v) ds w') : WL P ops Q n (⟨some d, o, ty, pos, af, none⟩ :: rest) f ds w :=
  ⟨fun a ha => wpList_plain rfl fun K hK => by
    unfold Oper.wp
    rw [ha.eval, hrun]
    exact hK _ _ (h.out _ (ha.put hd v))⟩

/-- An operation that yields a value which nobody takes. -/
theorem WL.drop {v : Value} (hrun : (execOp (ev f) ⟨none, o, ty, pos, af, none⟩).run P w = .ok (.value v) w')
    (h : WL P ops Q n rest f ds w') : WL P ops Q n (⟨none, o, ty, pos, af, none⟩ :: rest) f ds w :=
  ⟨fun a ha => wpList_plain rfl fun K hK => by
    unfold Oper.wp
    rw [ha.eval, hrun]
    exact hK _ _ (h.out _ ha)⟩

/-- An operation that yields nothing (a store). -/
theorem WL.skip (hrun : (execOp (ev f) ⟨none, o, ty, pos, af, none⟩).run P w = .ok .skip w')
    (h : WL P ops Q n rest f ds w') : WL P ops Q n (⟨none, o, ty, pos, af, none⟩ :: rest) f ds w :=
  ⟨fun a ha => wpList_plain rfl fun K hK => by
    unfold Oper.wp
    rw [ha.eval, hrun]
    exact hK _ _ (h.out _ ha)⟩

/-- A call of a function with a body: what its contract gives. -/
theorem WL.enter {d : Nat} {F : FuncId} {args : Array Value} {R : Ending → World → Prop} (hd : Nat.blt d n = true)
    (hrun : (execOp (ev f) ⟨some d, o, ty, pos, af, none⟩).run P w = .ok (.enter F args) w) (hc : Calls P F args w R)
    (h : ∀ e w', R e w' → ∃ v, e = .returned v ∧ WL P ops Q n rest (upd f d v) ds w') : WL P ops Q n (⟨some d, o, ty, pos, af, none⟩ :: rest) f ds w :=
  ⟨fun a ha => wpList_plain rfl fun K hK => by
    unfold Oper.wp
    rw [ha.eval, hrun]
    refine hc.mono fun e w' hR => ?_
    have hobt := h e w' hR
    obtain ⟨v, rfl, hw⟩ := hobt
    exact hK _ _ (hw.out _ (ha.put hd v))⟩

/-- The same where the call may panic. -/
theorem WL.enterP {d : Option Nat} {F : FuncId} {args : Array Value} {R : Ending → World → Prop} (hd : ∀ k, d = some k → Nat.blt k n = true)
    (hrun : (execOp (ev f) ⟨d, o, ty, pos, af, none⟩).run P w = .ok (.enter F args) w) (hc : Calls P F args w R)
    (h : ∀ e w', R e w' → match e with
      | .returned v => (∀ k, d = some k → WL P ops Q n rest (upd f k v) ds w') ∧ (d = none → WL P ops Q n rest f ds w')
      | .panicked ch => Q (.panic ch) f ds w'
      | .outgrown => False) : WL P ops Q n (⟨d, o, ty, pos, af, none⟩ :: rest) f ds w :=
  ⟨fun a ha => wpList_plain rfl fun K hK => by
    unfold Oper.wp
    rw [ha.eval, hrun]
    refine hc.mono fun e w' hR => ?_
    have := h e w' hR
    cases e with
    | returned v =>
      cases d with
      | none => exact hK _ _ ((this.2 rfl).out _ ha)
      | some k => exact hK _ _ ((this.1 k rfl).out _ (ha.put (hd k rfl) v))
    | panicked ch => exact ⟨f, ds, ha, this⟩
    | outgrown => exact this.elim⟩

/-- An operation that panics. -/
theorem WL.panic {d : Option Nat} {v : Value} (hrun : (execOp (ev f) ⟨d, o, ty, pos, af, none⟩).run P w = .halt (.panic v) w')
    (h : Q (.panic [{ v, recovered := false }]) f ds w') : WL P ops Q n (⟨d, o, ty, pos, af, none⟩ :: rest) f ds w :=
  ⟨fun a ha => wpList_plain rfl fun K hK => by
    unfold Oper.wp
    rw [ha.eval, hrun]
    exact ⟨f, ds, ha, h⟩⟩

/-- A deferred call is laid by. -/
theorem WL.defer {c : Deferred} (hrun : (execOp (ev f) ⟨none, o, ty, pos, af, none⟩).run P w = .ok (.defer c) w')
    (h : WL P ops Q n rest f (c :: ds) w') : WL P ops Q n (⟨none, o, ty, pos, af, none⟩ :: rest) f ds w :=
  ⟨fun a ha => wpList_plain rfl fun K hK => by
    unfold Oper.wp
    rw [ha.eval, hrun]
    exact hK _ _ (h.out _ ⟨ha.size, ha.get, by simp [Act.put, ha.defers]⟩)⟩

theorem yielded_rep {a : Act} (ha : Rep n f ds a) {j dj : Nat} (hj : (ops[j]?).bind (·.dst) = some dj) (hdj : Nat.blt dj n = true) :
    yielded ops a.tmps j = match f dj with | .bool b => some b | _ => none := by
  have hlt : dj < a.tmps.size := by rw [ha.size]; simpa [Nat.blt_eq] using hdj
  have hg : a.tmps[dj]? = some (f dj) := by
    have := ha.get dj
    simp only [Array.getD_eq_getD_getElem?, Array.getElem?_eq_getElem hlt, Option.getD_some] at this
    rw [Array.getElem?_eq_getElem hlt, this]
  simp only [yielded, hj, Option.bind_some, hg]
  cases f dj <;> rfl

/-- A guarded operation whose guard says yes is the operation without it. -/
theorem WL.yes {d : Option Nat} {j dj : Nat} {want : Bool} (hj : (ops[j]?).bind (·.dst) = some dj) (hdj : Nat.blt dj n = true) (hv : f dj = .bool want)
    (h : WL P ops Q n (⟨d, o, ty, pos, af, none⟩ :: rest) f ds w) : WL P ops Q n (⟨d, o, ty, pos, af, some (j, want)⟩ :: rest) f ds w :=
  ⟨fun a ha => by
    have hy := yielded_rep (ops := ops) ha hj hdj
    rw [hv] at hy
    have := h.out a ha
    simp only [wpList, Region.wanted, hy, beq_self_eq_true, if_true] at this ⊢
    exact this⟩

theorem WL.no {d : Nat} {j dj : Nat} {want : Bool} (hd : Nat.blt d n = true) (hj : (ops[j]?).bind (·.dst) = some dj) (hdj : Nat.blt dj n = true)
    (hv : f dj = .bool (!want) ∨ f dj = undef)
    (h : WL P ops Q n rest (upd f d undef) ds w) : WL P ops Q n (⟨some d, o, ty, pos, af, some (j, want)⟩ :: rest) f ds w :=
  ⟨fun a ha => by
    have hy := yielded_rep (ops := ops) ha hj hdj
    have hne : (yielded ops a.tmps j == some want) = false := by
      rw [hy]
      rcases hv with hv | hv
      · rw [hv]; cases want <;> rfl
      · rw [hv]; rfl
    simp only [wpList, Region.wanted, hne, Bool.false_eq_true, if_false]
    exact h.out _ (ha.put hd undef)⟩

theorem WL.noNone {j dj : Nat} {want : Bool} (hj : (ops[j]?).bind (·.dst) = some dj) (hdj : Nat.blt dj n = true)
    (hv : f dj = .bool (!want) ∨ f dj = undef)
    (h : WL P ops Q n rest f ds w) : WL P ops Q n (⟨none, o, ty, pos, af, some (j, want)⟩ :: rest) f ds w :=
  ⟨fun a ha => by
    have hy := yielded_rep (ops := ops) ha hj hdj
    have hne : (yielded ops a.tmps j == some want) = false := by
      rw [hy]
      rcases hv with hv | hv
      · rw [hv]; cases want <;> rfl
      · rw [hv]; rfl
    simp only [wpList, Region.wanted, hne, Bool.false_eq_true, if_false]
    exact h.out _ ha⟩

theorem wpList_mono {Q Q' : Exit → Act → World → Prop} (hq : ∀ e a w, Q e a w → Q' e a w) : ∀ (l : List Oper) (a : Act) (w : World), wpList P ops Q l a w → wpList P ops Q' l a w
  | [], a, w, h => hq _ _ _ h
  | o :: l, a, w, h => by
    simp only [wpList] at h ⊢
    split
    · rename_i hw
      simp only [hw, if_true] at h
      rcases h with h | ⟨h, a0, w0, h1⟩
      · refine .inl ?_
        unfold Oper.wp at h ⊢
        generalize (execOp a.eval o).run P w = r at h ⊢
        cases r with
        | ok x w' =>
          cases x <;> simp only [Oper.upon] at h ⊢
          case value => exact wpList_mono hq l _ _ h
          case skip => exact wpList_mono hq l _ _ h
          case defer => exact wpList_mono hq l _ _ h
          case enter =>
            refine h.mono fun e w' hR => ?_
            cases e with
            | returned v => exact wpList_mono hq l _ _ hR
            | panicked ch => exact hq _ _ _ hR
            | outgrown => obtain ⟨a1, w1, h2⟩ := hR; exact ⟨a1, w1, hq _ _ _ h2⟩
          case row => exact h.mono fun v w' hR => wpList_mono hq l _ _ hR
        | halt x w' =>
          cases x <;> simp only [Oper.upon] at h ⊢
          exact hq _ _ _ h
      · exact .inr ⟨h, a0, w0, hq _ _ _ h1⟩
    · rename_i hw
      simp only [hw] at h
      exact wpList_mono hq l _ _ h

/-- Ways through the rest of a region that meet again. -/
theorem WL.cut {Mid : Slots → World → Prop} (h : WL P ops (fun e f' ds' w' => e = .normal ∧ ds' = ds ∧ Mid f' w') n rest f ds w) (hm : ∀ f' w', Mid f' w' → Q .normal f' ds w') : WL P ops Q n rest f ds w :=
  ⟨fun a ha => wpList_mono (fun e a w hq => by
    obtain ⟨f', ds', hr, rfl, rfl, hM⟩ := hq
    exact ⟨f', ds', hr, hm _ _ hM⟩) _ _ _ (h.out a ha)⟩

theorem WL.mono {Q' : Post} (h : WL P ops Q n rest f ds w) (hq : ∀ e f ds w, Q e f ds w → Q' e f ds w) : WL P ops Q' n rest f ds w :=
  ⟨fun a ha => wpList_mono (fun e a w ⟨f', ds', hr, h⟩ => ⟨f', ds', hr, hq _ _ _ _ h⟩) _ _ _ (h.out a ha)⟩
end ops

section code
variable {P : Program} {Q : Post} {n : Nat} {f : Slots} {ds : List Deferred} {w : World}

def thenC (K : Slots → List Deferred → World → Prop) (Q : Post) : Post
  | .normal, f, ds, w => K f ds w
  | .exit id, f, ds, w => Q (.exit id) f ds w
  | .goto l, f, ds, w => Q (.goto l) f ds w
  | .ret, f, ds, w => Q .ret f ds w
  | .panic ch, f, ds, w => Q (.panic ch) f ds w
  | .outgrown, f, ds, w => Q .outgrown f ds w

def inB (id : Nat) (Q : Post) : Post
  | .normal, f, ds, w => Q .normal f ds w
  | .exit id', f, ds, w => bif Nat.beq id' id then Q .normal f ds w else Q (.exit id') f ds w
  | .goto l, f, ds, w => Q (.goto l) f ds w
  | .ret, f, ds, w => Q .ret f ds w
  | .panic ch, f, ds, w => Q (.panic ch) f ds w
  | .outgrown, f, ds, w => Q .outgrown f ds w

theorem CW.mono {c : Code} {Q' : Post} (h : CW P c Q n f ds w) (hq : ∀ e f ds w, Q e f ds w → Q' e f ds w) : CW P c Q' n f ds w :=
  ⟨fun a ha => Code.wp_mono (fun e a w ⟨f', ds', hr, h⟩ => ⟨f', ds', hr, hq _ _ _ _ h⟩) (h.out a ha)⟩

theorem CW.seq {x y : Code} (h : CW P x (thenC (CW P y Q n) Q) n f ds w) : CW P (.seq x y) Q n f ds w :=
  ⟨fun a ha => wp_seq (Code.wp_mono (fun e a' w' ⟨f', ds', hr, hq⟩ => by
    cases e with
    | normal => exact (show CW P y Q n f' ds' w' from hq).out a' hr
    | exit id => exact ⟨f', ds', hr, hq⟩
    | goto id => exact ⟨f', ds', hr, hq⟩
    | ret => exact ⟨f', ds', hr, hq⟩
    | panic ch => exact ⟨f', ds', hr, hq⟩
    | outgrown => exact ⟨f', ds', hr, hq⟩) (h.out a ha))⟩

theorem CW.reg {id : Nat} {l : List Oper} (h : WL P l.toArray Q n l f ds w) : CW P (.region id l.toArray false) Q n f ds w :=
  ⟨fun a ha => wp_region_lit (h.out a ha)⟩

theorem CW.cond {c : Operand} {x y : Code} {b : Bool} (hc : ev f c = .bool b) (ht : b = true → CW P x Q n f ds w) (hf : b = false → CW P y Q n f ds w) : CW P (.cond c x y) Q n f ds w :=
  ⟨fun a ha => wp_cond_split (by rw [ha.eval]; exact hc) (fun h => (ht h).out a ha) (fun h => (hf h).out a ha)⟩

theorem CW.condT {c : Operand} {x y : Code} (hc : ev f c = .bool true) (h : CW P x Q n f ds w) : CW P (.cond c x y) Q n f ds w :=
  .cond hc (fun _ => h) (fun h => by cases h)
theorem CW.condF {c : Operand} {x y : Code} (hc : ev f c = .bool false) (h : CW P y Q n f ds w) : CW P (.cond c x y) Q n f ds w :=
  .cond hc (fun h => by cases h) (fun _ => h)

theorem CW.block {id : Nat} {c : Code} (h : CW P c (inB id Q) n f ds w) : CW P (.block id c) Q n f ds w :=
  ⟨fun a ha => wp_block (Code.wp_mono (fun e a' w' ⟨f', ds', hr, hq⟩ => by
    cases e with
    | exit id' =>
      simp only [inB] at hq
      by_cases hid : id' = id
      · subst hid
        simp only [Exit.inBlock, if_true]
        exact ⟨f', ds', hr, by simpa using hq⟩
      · have hb : Nat.beq id' id = false := by
          cases hb : Nat.beq id' id with
          | true => exact absurd (Nat.eq_of_beq_eq_true hb) hid
          | false => rfl
        simp only [Exit.inBlock, hid, if_false]
        rw [hb] at hq
        exact ⟨f', ds', hr, hq⟩
    | normal => exact ⟨f', ds', hr, hq⟩
    | goto id => exact ⟨f', ds', hr, hq⟩
    | ret => exact ⟨f', ds', hr, hq⟩
    | panic ch => exact ⟨f', ds', hr, hq⟩
    | outgrown => exact ⟨f', ds', hr, hq⟩) (h.out a ha))⟩

theorem CW.skip (h : Q .normal f ds w) : CW P .skip Q n f ds w := ⟨fun a ha => wp_skip ⟨f, ds, ha, h⟩⟩
theorem CW.ret (h : Q .ret f ds w) : CW P .ret Q n f ds w := ⟨fun a ha => wp_ret ⟨f, ds, ha, h⟩⟩
theorem CW.exit {id : Nat} (h : Q (.exit id) f ds w) : CW P (.exit id) Q n f ds w := ⟨fun a ha => wp_exit ⟨f, ds, ha, h⟩⟩
theorem CW.goto {id : Nat} (h : Q (.goto id) f ds w) : CW P (.goto id) Q n f ds w := ⟨fun a ha => wp_goto ⟨f, ds, ha, h⟩⟩
theorem CW.label {id : Nat} (h : Q .normal f ds w) : CW P (.label id) Q n f ds w := ⟨fun a ha => wp_label ⟨f, ds, ha, h⟩⟩

theorem wp_loop_ex {c : Code} {Q : Exit → Act → World → Prop} {a : Act} {w : World} (I : Nat → Act → World → Prop) {m : Nat} (h₀ : I m a w)
    (round : ∀ m a w, I m a w → c.wp P (Exit.then (fun a' w' => ∃ m', m' < m ∧ I m' a' w') Q) a w) : (Code.loop c).wp P Q a w := by
  intro b k cs
  have key : ∀ m a w, I m a w →
      ∃ e a' w', Q e a' w' ∧ Arrives P (lone (b.at a (.code c :: .inLoop c :: k)) cs w) b k cs e a' w' := by
    intro m
    induction m using Nat.strongRecOn with
    | _ m ih =>
      intro a w hI
      have hobt := round m a w hI b (.inLoop c :: k) cs
      obtain ⟨e, a₁, w₁, hq, harr⟩ := hobt
      cases e with
      | normal =>
        obtain ⟨m₁, hlt, hI₁⟩ := hq
        have hobt := ih m₁ hlt a₁ w₁ hI₁
        obtain ⟨e₂, a₂, w₂, hq₂, harr₂⟩ := hobt
        exact ⟨e₂, a₂, w₂, hq₂, .of_steps (Steps.trans harr (.one step_inLoop)) harr₂⟩
      | exit id => exact ⟨_, a₁, w₁, hq, .pass (x := .inLoop c) rfl (fun _ _ => .inl (by simp)) harr⟩
      | goto l => exact ⟨_, a₁, w₁, hq, .pass (x := .inLoop c) rfl (fun _ _ => .inl (by simp)) harr⟩
      | ret => exact ⟨_, a₁, w₁, hq, .pass (x := .inLoop c) rfl (fun _ _ => .inl (by simp)) harr⟩
      | panic ch => exact ⟨_, a₁, w₁, hq, .pass (x := .inLoop c) rfl (fun _ _ => .inl (by simp)) harr⟩
      | outgrown => exact ⟨_, a₁, w₁, hq, .pass (x := .inLoop c) rfl (fun _ _ => .inl (by simp)) harr⟩
  have hobt := key m a w h₀
  obtain ⟨e, a', w', hq, harr⟩ := hobt
  exact ⟨e, a', w', hq, .of_steps (.one step_loop) harr⟩

/-- A loop: what holds at each round's head, with a number that each round lowers. -/
theorem CW.loop {c : Code} (I : Nat → Slots → World → Prop) {m : Nat} (h0 : I m f w)
    (hr : ∀ m f w, I m f w → CW P c (thenC (fun f' ds' w' => ds' = ds ∧ ∃ m', m' < m ∧ I m' f' w') Q) n f ds w) : CW P (.loop c) Q n f ds w :=
  ⟨fun a ha => wp_loop_ex (fun m a w => ∃ f, Rep n f ds a ∧ I m f w) ⟨f, ha, h0⟩ fun m a w ⟨f, ha, hI⟩ =>
    Code.wp_mono (fun e a' w' ⟨f', ds', hr', hq⟩ => by
      cases e with
      | normal =>
        obtain ⟨hds, m', hlt, hI'⟩ := hq
        exact ⟨m', hlt, f', hds ▸ hr', hI'⟩
      | exit id => exact ⟨f', ds', hr', hq⟩
      | goto id => exact ⟨f', ds', hr', hq⟩
      | ret => exact ⟨f', ds', hr', hq⟩
      | panic ch => exact ⟨f', ds', hr', hq⟩
      | outgrown => exact ⟨f', ds', hr', hq⟩) ((hr m f w hI).out a ha)⟩

/-- Ways that meet again behind a piece of code. -/
theorem CW.cut {c : Code} (Mid : Slots → World → Prop) (h : CW P c (thenC (fun f' ds' w' => ds' = ds ∧ Mid f' w') (fun e f ds w => Q e f ds w)) n f ds w) (hm : ∀ f' w', Mid f' w' → Q .normal f' ds w') : CW P c Q n f ds w :=
  h.mono fun e f' ds' w' hq => by
    cases e with
    | normal => obtain ⟨rfl, hM⟩ := hq; exact hm _ _ hM
    | exit id => exact hq
    | goto id => exact hq
    | ret => exact hq
    | panic ch => exact hq
    | outgrown => exact hq
end code

section entry
variable {P : Program} {n : Nat} {w : World}

/-- The slots at a call's start: the arguments, and nothing. -/
def ini (vs : List Value) : Slots := fun t => vs.getD t undef

theorem rep_ini {vs : List Value} (h : vs.length ≤ n) : Rep n (ini vs) [] { tmps := vs.toArray ++ Array.replicate (n - vs.toArray.size) undef, defers := [] } := by
  refine ⟨by simp; omega, fun t => ?_, rfl⟩
  simp only [ini, Array.getD_eq_getD_getElem?, List.getD_eq_getElem?_getD]
  by_cases ht : t < vs.length
  · rw [Array.getElem?_append_left (by simpa using ht)]; simp
  · rw [Array.getElem?_append_right (by simpa using ht), List.getElem?_eq_none (by omega)]
    simp only [Array.getElem?_replicate]
    split <;> rfl

/-- What stands at a function's end. -/
def fin (P : Program) (n : Nat) (fn : Func) (R : Ending → World → Prop) : Post := fun e f ds w => ∀ a, Rep n f ds a → bodyPost P fn R e a w

theorem calls {F : FuncId} {fn : Func} {c : Code} {vs : List Value} {R : Ending → World → Prop} (hf : P.funcs[F]? = some fn) (hb : fn.body = some c) (hn : fn.ntmps = n) (hv : Nat.ble vs.length n = true)
    (h : CW P c (fin P n fn R) n (ini vs) [] w) : Calls P F vs.toArray w R :=
  calls_of_wp hf hb (Code.wp_mono (fun e a w ⟨f, ds, hr, hq⟩ => hq a hr) (h.out _ (by rw [hn]; exact rep_ini (by simpa using hv))))

section
variable {fn : Func} {R : Ending → World → Prop} {f : Slots}

theorem fin_ret0 (hr : fn.results = #[]) (h : R (.returned (.tuple #[])) w) : fin P n fn R .ret f [] w :=
  fun a ha => bodyPost_ret (results_none hr _ _ _) ha.defers h
theorem fin_end0 (hr : fn.results = #[]) (h : R (.returned (.tuple #[])) w) : fin P n fn R .normal f [] w :=
  fun a ha => bodyPost_end (results_none hr _ _ _) ha.defers h
theorem fin_ret1 {t : Tmp} (hr : fn.results = #[.tmp t]) (h : R (.returned (f t)) w) : fin P n fn R .ret f [] w :=
  fun a ha => bodyPost_ret (results_tmp hr _ _ _) ha.defers (by rw [ha.get]; exact h)
theorem fin_ret2 {t u : Tmp} (hr : fn.results = #[.tmp t, .tmp u]) (h : R (.returned (.tuple #[f t, f u])) w) : fin P n fn R .ret f [] w :=
  fun a ha => bodyPost_ret (results_tmp2 hr _ _ _) ha.defers (by rw [ha.get, ha.get]; exact h)
theorem fin_ret3 {t u s : Tmp} (hr : fn.results = #[.tmp t, .tmp u, .tmp s]) (h : R (.returned (.tuple #[f t, f u, f s])) w) : fin P n fn R .ret f [] w :=
  fun a ha => bodyPost_ret (v := .tuple #[f t, f u, f s]) (by simp [results, hr, ha.get]) ha.defers h
theorem fin_cell1 {t : Tmp} {T : TypeId} {A : Addr} {v : Value} (hr : fn.results = #[.cell t T]) (hA : f t = .pointer (some A)) (hv : (loadVar T A).run P w = .ok v w) (h : R (.returned v) w) : fin P n fn R .ret f [] w :=
  fun a ha => bodyPost_ret (v := v) (by simp [results, hr, ha.get, hA, asAddr, hv]) ha.defers h
theorem fin_panic {ch : List PanicEntry} (h : R (.panicked ch) w) : fin P n fn R (.panic ch) f [] w := fun a ha => ⟨ha.defers, h⟩
end
end entry
end Go.Gx
/-! Mem -/
namespace Go.Gx
set_option linter.unusedVariables false
set_option linter.unusedSimpArgs false

/-- A block of cells, not frozen; and one that a string's bytes were copied into (the mark lies behind its end). -/
def blk (T : TypeId) (cs : List Value) : Obj := .cells cs.toArray T (0, 0)
def blkM (T : TypeId) (cs : List Value) : Obj := .cells cs.toArray T (cs.length, cs.length + 1)

/-- Outside the blocks S nothing that was there has turned. -/
structure Chg (S : List Nat) (w w' : World) : Prop where
  os : w'.os = w.os
  tape : w'.tape = w.tape
  output : w'.output = w.output
  size : w.heap.size ≤ w'.heap.size
  block : ∀ k, k < w.heap.size → k ∉ S → w'.heap[k]? = w.heap[k]?
  drawn : w.drawn ≤ w'.drawn

theorem Chg.refl (S : List Nat) (w : World) : Chg S w w := ⟨rfl, rfl, rfl, Nat.le_refl _, fun _ _ _ => rfl, Nat.le_refl _⟩
theorem Chg.trans {S S' : List Nat} {w w' w'' : World} (h : Chg S w w') (h' : Chg S' w' w'') (hs : ∀ k ∈ S', k ∈ S ∨ w.heap.size ≤ k) : Chg S w w'' :=
  ⟨h'.os.trans h.os, h'.tape.trans h.tape, h'.output.trans h.output, Nat.le_trans h.size h'.size, fun k hk hn => by
    rw [h'.block k (Nat.lt_of_lt_of_le hk h.size) (fun hk' => by rcases hs k hk' with h1 | h1; exact hn h1; omega), h.block k hk hn], Nat.le_trans h.drawn h'.drawn⟩

/-- From w on only S's blocks were written, new ones were laid; now these blocks are ours (of S, or new), and hold this. -/
structure Step (S : List Nat) (L : List (Nat × Obj)) (w w' : World) : Prop where
  chg : Chg S w w'
  nodup : (L.map (·.1)).Nodup
  has : ∀ p ∈ L, w'.heap[p.1]? = some p.2
  new : ∀ p ∈ L, p.1 ∈ S ∨ w.heap.size ≤ p.1

theorem lt_of_get {w : World} {b : Nat} {o : Obj} (h : w.heap[b]? = some o) : b < w.heap.size := by
  rcases Nat.lt_or_ge b w.heap.size with h' | h'
  · exact h'
  · rw [Array.getElem?_eq_none h'] at h; cases h

theorem Step.refl (w : World) : Step [] [] w w := ⟨Chg.refl _ _, by simp, by simp, by simp⟩
theorem Step.start {L : List (Nat × Obj)} {w : World} (hn : (L.map (·.1)).Nodup) (hh : ∀ p ∈ L, w.heap[p.1]? = some p.2) : Step (L.map (·.1)) L w w :=
  ⟨Chg.refl _ _, hn, hh, fun p hp => .inl (List.mem_map_of_mem hp)⟩

section
variable {S : List Nat} {L L' L1 L2 : List (Nat × Obj)} {w w' w'' : World}

theorem Step.perm (h : Step S L w w') (hp : L.Perm L') : Step S L' w w' :=
  ⟨h.chg, (hp.map _).nodup_iff.1 h.nodup, fun p hm => h.has p (hp.mem_iff.2 hm), fun p hm => h.new p (hp.mem_iff.2 hm)⟩

theorem Step.dropL (h : Step S (L1 ++ L2) w w') : Step S L2 w w' :=
  ⟨h.chg, by have := h.nodup; rw [List.map_append, List.nodup_append] at this; exact this.2.1, fun p hm => h.has p (by simp [hm]), fun p hm => h.new p (by simp [hm])⟩
theorem Step.dropR (h : Step S (L1 ++ L2) w w') : Step S L1 w w' :=
  ⟨h.chg, by have := h.nodup; rw [List.map_append, List.nodup_append] at this; exact this.1, fun p hm => h.has p (by simp [hm]), fun p hm => h.new p (by simp [hm])⟩
theorem Step.tail {p : Nat × Obj} (h : Step S (p :: L) w w') : Step S L w w' := Step.dropL (L1 := [p]) h
theorem Step.clear (h : Step S L w w') : Step S [] w w' := ⟨h.chg, by simp, by simp, by simp⟩
/-- A block into the front. -/
theorem Step.front (L1 : List (Nat × Obj)) {p : Nat × Obj} (h : Step S (L1 ++ p :: L2) w w') : Step S (p :: (L1 ++ L2)) w w' := h.perm List.perm_middle
theorem Step.swap {p q : Nat × Obj} (h : Step S (p :: q :: L) w w') : Step S (q :: p :: L) w w' := h.perm (List.Perm.swap _ _ _)
theorem Step.rot3 {p q r : Nat × Obj} (h : Step S (p :: q :: r :: L) w w') : Step S (r :: p :: q :: L) w w' := h.front [p, q]
theorem Step.append_comm (h : Step S (L1 ++ L2) w w') : Step S (L2 ++ L1) w w' := h.perm List.perm_append_comm

/-- A call that owned L1 and left L1'. -/
theorem Step.call (h : Step S (L1 ++ L) w w') (hc : Step (L1.map (·.1)) L' w' w'') : Step S (L' ++ L) w w'' := by
  have hn := h.nodup
  rw [List.map_append, List.nodup_append] at hn
  obtain ⟨hn1, hn2, hn3⟩ := hn
  refine ⟨h.chg.trans hc.chg ?_, ?_, ?_, ?_⟩
  · intro k hk
    have hobt := List.mem_map.1 hk
    obtain ⟨p, hp, rfl⟩ := hobt
    exact h.new p (by simp [hp])
  · rw [List.map_append, List.nodup_append]
    refine ⟨hc.nodup, hn2, fun a ha b hb hab => ?_⟩
    subst hab
    have hobt := List.mem_map.1 ha
    obtain ⟨p, hp, rfl⟩ := hobt
    have hobt := List.mem_map.1 hb
    obtain ⟨q, hq, hqp⟩ := hobt
    rcases hc.new p hp with h1 | h1
    · exact hn3 _ h1 _ hb rfl
    · have := lt_of_get (h.has q (by simp [hq]))
      omega
  · intro p hp
    rcases List.mem_append.1 hp with hp | hp
    · exact hc.has p hp
    · rw [hc.chg.block p.1 (lt_of_get (h.has p (by simp [hp]))) (fun hk => hn3 _ hk _ (List.mem_map_of_mem hp) rfl)]
      exact h.has p (by simp [hp])
  · intro p hp
    rcases List.mem_append.1 hp with hp | hp
    · rcases hc.new p hp with h1 | h1
      · have hobt := List.mem_map.1 h1
        obtain ⟨q, hq, hqp⟩ := hobt
        rw [← hqp]
        exact h.new q (by simp [hq])
      · exact .inr (Nat.le_trans h.chg.size h1)
    · exact h.new p (by simp [hp])
/-- A call that owned nothing of what was there. -/
theorem Step.call0 (h : Step S L w w') (hc : Step [] L' w' w'') : Step S (L' ++ L) w w'' := Step.call (L1 := []) h hc

theorem Step.drewN (h : Step S L w w') (n : Nat) : Step S L w (w'.drewN n) := ⟨⟨h.chg.os, h.chg.tape, h.chg.output, h.chg.size, h.chg.block, Nat.le_trans h.chg.drawn (Nat.le_add_right _ _)⟩, h.nodup, h.has, h.new⟩
theorem Step.drew (h : Step S L w w') : Step S L w w'.drew := h.drewN 1

theorem heap_alloc_new (w : World) (o : Obj) : (w.alloc o).heap[w.heap.size]? = some o := by
  show (w.heap.push o)[w.heap.size]? = some o
  simp
theorem heap_alloc_old (w : World) (o : Obj) {k : Nat} (h : k < w.heap.size) : (w.alloc o).heap[k]? = w.heap[k]? := by
  show (w.heap.push o)[k]? = _
  rw [Array.getElem?_push, if_neg (by omega)]

theorem Step.alloc (h : Step S L w w') (o : Obj) : Step S ((w'.heap.size, o) :: L) w (w'.alloc o) := by
  have hc : Step [] [(w'.heap.size, o)] w' (w'.alloc o) := by
    refine ⟨⟨rfl, rfl, rfl, by simp, fun k hk _ => heap_alloc_old _ _ hk, Nat.le_refl _⟩, by simp, ?_, ?_⟩
    · intro p hp; simp at hp; subst hp; exact heap_alloc_new _ _
    · intro p hp; simp at hp; subst hp; exact .inr (Nat.le_refl _)
  exact h.call0 hc

theorem heap_setCell_other (w : World) (a : Addr) (u : Value) {k : Nat} (h : k ≠ a.block) : (w.setCell a u).heap[k]? = w.heap[k]? := by
  simp only [World.setCell, Array.getElem?_modify]
  rw [if_neg (by omega)]

theorem heap_setCell_blk (w : World) {b : Nat} {T : TypeId} {cs : List Value} (o : Nat) (v : Value) (h : w.heap[b]? = some (blk T cs)) : (w.setCell ⟨b, o, none⟩ v).heap[b]? = some (blk T (cs.set o v)) := by
  simp only [World.setCell, Array.getElem?_modify, if_true, h, blk, Option.map_some]
  simp

theorem Step.set {b : Nat} {T : TypeId} {cs : List Value} (h : Step S ((b, blk T cs) :: L) w w') (o : Nat) (v : Value) : Step S ((b, blk T (cs.set o v)) :: L) w (w'.setCell ⟨b, o, none⟩ v) := by
  have hb := h.has (b, blk T cs) (by simp)
  have hc : Step ([(b, blk T cs)].map (·.1)) [(b, blk T (cs.set o v))] w' (w'.setCell ⟨b, o, none⟩ v) := by
    refine ⟨⟨rfl, rfl, rfl, by simp, fun k hk hn => heap_setCell_other _ _ _ (by simpa using hn), Nat.le_refl _⟩, by simp, ?_, by simp⟩
    intro p hp; simp at hp; subst hp; exact heap_setCell_blk _ _ _ hb
  exact Step.call (L1 := [(b, blk T cs)]) h hc

/-- What lies outside S is as it was. -/
theorem Step.old {b : Nat} {o : Obj} (h : Step S L w w') (hb : w.heap[b]? = some o) (hS : b ∉ S) : w'.heap[b]? = some o := by
  rw [h.chg.block b (lt_of_get hb) hS, hb]
theorem Step.get {b : Nat} {o : Obj} (h : Step S L w w') (hb : (b, o) ∈ L) : w'.heap[b]? = some o := h.has _ hb
theorem Step.hd {b : Nat} {o : Obj} (h : Step S ((b, o) :: L) w w') : w'.heap[b]? = some o := h.has (b, o) (by simp)
end

theorem cell_blk {w : World} {b : Nat} {T : TypeId} {cs : List Value} (h : w.heap[b]? = some (blk T cs)) (o : Nat) : w.cell? ⟨b, o, none⟩ = cs[o]? := by
  simp [World.cell?, h, blk]
theorem cell_blkM {w : World} {b : Nat} {T : TypeId} {cs : List Value} (h : w.heap[b]? = some (blkM T cs)) (o : Nat) : w.cell? ⟨b, o, none⟩ = cs[o]? := by
  simp [World.cell?, h, blkM]
theorem frozen_blk {w : World} {b : Nat} {T : TypeId} {cs : List Value} (h : w.heap[b]? = some (blk T cs)) (o : Nat) : w.frozen? ⟨b, o, none⟩ = false := by
  simp [World.frozen?, h, blk]

/-- Cells in a row, from this place on. -/
def At (w : World) (b off : Nat) (cs : List Value) : Prop := ∀ j v, cs[j]? = some v → w.cell? ⟨b, off + j, none⟩ = some v

theorem At.nil {w : World} {b off : Nat} : At w b off [] := by intro j v h; simp at h
theorem At.of_blk {w : World} {b : Nat} {T : TypeId} {cs : List Value} (h : w.heap[b]? = some (blk T cs)) : At w b 0 cs := fun j v hj => by rw [cell_blk h, Nat.zero_add]; exact hj
theorem At.of_blkM {w : World} {b : Nat} {T : TypeId} {cs : List Value} (h : w.heap[b]? = some (blkM T cs)) : At w b 0 cs := fun j v hj => by rw [cell_blkM h, Nat.zero_add]; exact hj
theorem At.drop {w : World} {b off : Nat} {cs : List Value} (h : At w b off cs) (k : Nat) : At w b (off + k) (cs.drop k) := fun j v hj => by
  rw [List.getElem?_drop] at hj
  have := h _ _ hj
  rwa [← Nat.add_assoc] at this
theorem At.take {w : World} {b off : Nat} {cs : List Value} (h : At w b off cs) (k : Nat) : At w b off (cs.take k) := fun j v hj => by
  rw [List.getElem?_take] at hj
  split at hj
  · exact h _ _ hj
  · cases hj
theorem At.left {w : World} {b off : Nat} {cs ds : List Value} (h : At w b off (cs ++ ds)) : At w b off cs := by
  have := h.take cs.length
  simpa using this
theorem At.right {w : World} {b off : Nat} {cs ds : List Value} (h : At w b off (cs ++ ds)) : At w b (off + cs.length) ds := by
  have := h.drop cs.length
  simpa using this
theorem At.cell {w : World} {b off : Nat} {cs : List Value} (h : At w b off cs) {j : Nat} {v : Value} (hj : cs[j]? = some v) : w.cell? ⟨b, off + j, none⟩ = some v := h j v hj
theorem At.lt {w : World} {b off : Nat} {cs : List Value} (h : At w b off cs) (hne : cs ≠ []) : b < w.heap.size := by
  cases cs with
  | nil => exact absurd rfl hne
  | cons c cs =>
    have := h 0 c rfl
    unfold World.cell? at this
    split at this
    · rename_i hb; exact lt_of_get hb
    · cases this
theorem cell_of_heap {w w' : World} {b : Nat} (h : w'.heap[b]? = w.heap[b]?) (o : Nat) : w'.cell? ⟨b, o, none⟩ = w.cell? ⟨b, o, none⟩ := by simp [World.cell?, h]
theorem At.step {S : List Nat} {L : List (Nat × Obj)} {w w' : World} {b off : Nat} {cs : List Value} (h : At w b off cs) (hs : Step S L w w') (hS : b ∉ S) : At w' b off cs := fun j v hj => by
  have h1 := h j v hj
  rw [cell_of_heap (hs.chg.block b (h.lt (fun e => by subst e; simp at hj)) hS)]
  exact h1

/-- A slice value of n elements of sz cells each, which are these. -/
def Sl (w : World) (sz : Nat) (v : Value) (n : Nat) (cs : List Value) : Prop :=
  cs.length = n * sz ∧ ((∃ a c, v = .slice a n c ∧ n = 0) ∨ ∃ b off c, v = .slice (some ⟨b, off, none⟩) n c ∧ At w b off cs)

/-- The slice's block, if it has one, is none of these. -/
def Outside (v : Value) (S : List Nat) : Prop := match v with | .slice (some a) _ _ => a.block ∉ S | _ => True

theorem Sl.nil (w : World) (sz c : Nat) : Sl w sz (.slice none 0 c) 0 [] := ⟨by simp, .inl ⟨none, c, rfl, rfl⟩⟩
theorem Sl.mk {w : World} {sz b off n c : Nat} {cs : List Value} (hl : cs.length = n * sz) (h : At w b off cs) : Sl w sz (.slice (some ⟨b, off, none⟩) n c) n cs := ⟨hl, .inr ⟨b, off, c, rfl, h⟩⟩
theorem Sl.step {S : List Nat} {L : List (Nat × Obj)} {w w' : World} {sz n : Nat} {v : Value} {cs : List Value} (h : Sl w sz v n cs) (hs : Step S L w w') (hS : Outside v S) : Sl w' sz v n cs := by
  obtain ⟨hl, h | ⟨b, off, c, rfl, h⟩⟩ := h
  · exact ⟨hl, .inl h⟩
  · exact ⟨hl, .inr ⟨b, off, c, rfl, h.step hs hS⟩⟩
theorem outside_nil (v : Value) : Outside v [] := by unfold Outside; split <;> simp
theorem Sl.step0 {L : List (Nat × Obj)} {w w' : World} {sz n : Nat} {v : Value} {cs : List Value} (h : Sl w sz v n cs) (hs : Step [] L w w') : Sl w' sz v n cs := h.step hs (outside_nil _)

/-- The slice has room for what it holds. -/
def Room (v : Value) : Prop := match v with | .slice _ n c => n ≤ c | _ => True

end Go.Gx
/-! Ops -/
namespace Go.Gx
set_option linter.unusedVariables false
set_option linter.unusedSimpArgs false

def isAggD : TypeDesc → Bool | .struct _ | .array _ _ => true | _ => false
def isAggV : Value → Bool | .agg _ | .tuple _ => true | _ => false
/-- What the tables say of a type: is it a struct or an array; how many cells, how many bytes; its zero's cells. -/
structure Ty (P : Program) (T : TypeId) (agg : Bool) (n bytes : Nat) (zs : List Value) : Prop where
  und : ∃ d, P.underlying T = some d ∧ isAggD d = agg
  info : ∃ i z, P.info? T = some i ∧ i.size = n ∧ i.bytes = bytes ∧ i.zero = some z ∧ z.cells = zs.toArray ∧ isAggV z = agg

theorem ty_of {P : Program} {T : TypeId} {d : TypeDesc} {agg : Bool} {n b : Nat} {z : Value} {zs : List Value} (hu : P.underlying T = some d) (ha : isAggD d = agg)
    (hi : (P.info? T).map (fun i => (i.zero, i.size, i.bytes)) = some (some z, n, b)) (hc : z.cells = zs.toArray) (hz : isAggV z = agg) : Ty P T agg n b zs := by
  refine ⟨⟨d, hu, ha⟩, ?_⟩
  cases h : P.info? T with
  | none => rw [h] at hi; cases hi
  | some i =>
    rw [h] at hi
    simp only [Option.map_some, Option.some.injEq, Prod.mk.injEq] at hi
    exact ⟨i, z, rfl, hi.2.1, hi.2.2, hi.1, hc, hz⟩

def str (l : List UInt8) : Value := .string ⟨⟨l⟩⟩
def u8s (l : List UInt8) : List Value := l.map fun c => .int .u8 c.toNat

section
variable {P : Program} {f : Slots} {w : World} {d : Option Tmp} {ty : TypeId} {pos : String} {af : Array Edge} {x y z : Operand} {T T' : TypeId} {a b : Int} {k : IntKind}

theorem run_move : (execOp (ev f) ⟨d, .move x, ty, pos, af, none⟩).run P w = .ok (.value (ev f x)) w := rfl
theorem run_assign : (execOp (ev f) ⟨d, .assign x, ty, pos, af, none⟩).run P w = .ok (.value (ev f x)) w := rfl
theorem run_pickT (hx : ev f x = .bool true) : (execOp (ev f) ⟨d, .pick x y z, ty, pos, af, none⟩).run P w = .ok (.value (ev f y)) w := by
  simp [execOp, hx, asBool]
theorem run_pickF (hx : ev f x = .bool false) : (execOp (ev f) ⟨d, .pick x y z, ty, pos, af, none⟩).run P w = .ok (.value (ev f z)) w := by
  simp [execOp, hx, asBool]
theorem run_nilCheck {A : Addr} (hx : ev f x = .pointer (some A)) : (execOp (ev f) ⟨d, .nilCheck x, ty, pos, af, none⟩).run P w = .ok (.value (.pointer (some A))) w := by
  simp [execOp, hx]
theorem run_extract {vs : Array Value} {i : Nat} {v : Value} (hx : ev f x = .tuple vs) (hi : vs[i]? = some v) : (execOp (ev f) ⟨d, .extract x i, ty, pos, af, none⟩).run P w = .ok (.value v) w := by
  simp [execOp, hx, Instr.extract, hi]
theorem run_notB {p : Prop} [Decidable p] (hx : ev f x = .bool (decide p)) : (execOp (ev f) ⟨d, .unOp .not T x, ty, pos, af, none⟩).run P w = .ok (.value (.bool (decide (¬ p)))) w := by
  have e : (!decide p) = decide (¬ p) := by by_cases h : p <;> simp [h]
  rw [← e]
  simp [execOp, hx, Op.unary]
theorem run_not {b : Bool} (hx : ev f x = .bool b) : (execOp (ev f) ⟨d, .unOp .not T x, ty, pos, af, none⟩).run P w = .ok (.value (.bool !b)) w := by
  simp [execOp, hx, Op.unary]

theorem run_bT {p : Prop} [Decidable p] {o : Op} (h : (execOp (ev f) ⟨d, o, ty, pos, af, none⟩).run P w = .ok (.value (.bool (decide p))) w) (hp : p) : (execOp (ev f) ⟨d, o, ty, pos, af, none⟩).run P w = .ok (.value (.bool true)) w := by
  rw [h, decide_eq_true hp]
theorem run_bF {p : Prop} [Decidable p] {o : Op} (h : (execOp (ev f) ⟨d, o, ty, pos, af, none⟩).run P w = .ok (.value (.bool (decide p))) w) (hp : ¬ p) : (execOp (ev f) ⟨d, o, ty, pos, af, none⟩).run P w = .ok (.value (.bool false)) w := by
  rw [h, decide_eq_false hp]
theorem run_bE {b b' : Bool} {o : Op} (h : (execOp (ev f) ⟨d, o, ty, pos, af, none⟩).run P w = .ok (.value (.bool b)) w) (hb : b = b') : (execOp (ev f) ⟨d, o, ty, pos, af, none⟩).run P w = .ok (.value (.bool b')) w := by
  rw [h, hb]
section ints
variable (hx : ev f x = .int k a) (hy : ev f y = .int k b)
include hx hy
theorem run_lss : (execOp (ev f) ⟨d, .binOp .lss T x y T', ty, pos, af, none⟩).run P w = .ok (.value (.bool (decide (a < b)))) w := by simp [execOp, hx, hy, go_sem]
theorem run_leq : (execOp (ev f) ⟨d, .binOp .leq T x y T', ty, pos, af, none⟩).run P w = .ok (.value (.bool (decide (a ≤ b)))) w := by simp [execOp, hx, hy, go_sem]
theorem run_gtr : (execOp (ev f) ⟨d, .binOp .gtr T x y T', ty, pos, af, none⟩).run P w = .ok (.value (.bool (decide (b < a)))) w := by simp [execOp, hx, hy, go_sem]
theorem run_geq : (execOp (ev f) ⟨d, .binOp .geq T x y T', ty, pos, af, none⟩).run P w = .ok (.value (.bool (decide (b ≤ a)))) w := by simp [execOp, hx, hy, go_sem]
theorem run_eql : (execOp (ev f) ⟨d, .binOp .eql T x y T', ty, pos, af, none⟩).run P w = .ok (.value (.bool (decide (a = b)))) w := by
  simp [execOp, hx, hy, go_sem]; rfl
theorem run_neq : (execOp (ev f) ⟨d, .binOp .neq T x y T', ty, pos, af, none⟩).run P w = .ok (.value (.bool (decide (a ≠ b)))) w := by
  have e : (a != b) = decide (a ≠ b) := by by_cases h : a = b <;> simp [h]
  simp only [execOp, hx, hy, eqGuard_at_int, binOp_neq, e]
  rfl
theorem run_addW : (execOp (ev f) ⟨d, .binOp .add T x y T', ty, pos, af, none⟩).run P w = .ok (.value (.int k (k.wrap (a + b)))) w := by simp [execOp, hx, hy, go_sem]
theorem run_subW : (execOp (ev f) ⟨d, .binOp .sub T x y T', ty, pos, af, none⟩).run P w = .ok (.value (.int k (k.wrap (a - b)))) w := by simp [execOp, hx, hy, go_sem]
theorem run_mulW : (execOp (ev f) ⟨d, .binOp .mul T x y T', ty, pos, af, none⟩).run P w = .ok (.value (.int k (k.wrap (a * b)))) w := by simp [execOp, hx, hy, go_sem]
theorem run_rem (hb : b ≠ 0) : (execOp (ev f) ⟨d, .binOp .rem T x y T', ty, pos, af, none⟩).run P w = .ok (.value (.int k (a.tmod b))) w := by simp [execOp, hx, hy, go_sem, Op.intDiv, hb]
theorem run_quoW (hb : b ≠ 0) : (execOp (ev f) ⟨d, .binOp .quo T x y T', ty, pos, af, none⟩).run P w = .ok (.value (.int k (k.wrap (a.tdiv b)))) w := by simp [execOp, hx, hy, go_sem, Op.intDiv, hb]
end ints

theorem wrap_i64 {a : Int} (h : -9223372036854775808 ≤ a ∧ a ≤ 9223372036854775807) : IntKind.i64.wrap a = a := IntWalk.i64_in _ (by omega)

section i64s
variable (hx : ev f x = .int .i64 a) (hy : ev f y = .int .i64 b)
include hx hy
theorem run_add {c : Int} (hc : a + b = c) (h : -9223372036854775808 ≤ c ∧ c ≤ 9223372036854775807) : (execOp (ev f) ⟨d, .binOp .add T x y T', ty, pos, af, none⟩).run P w = .ok (.value (.int .i64 c)) w := by
  rw [run_addW hx hy, hc, wrap_i64 h]
theorem run_sub {c : Int} (hc : a - b = c) (h : -9223372036854775808 ≤ c ∧ c ≤ 9223372036854775807) : (execOp (ev f) ⟨d, .binOp .sub T x y T', ty, pos, af, none⟩).run P w = .ok (.value (.int .i64 c)) w := by
  rw [run_subW hx hy, hc, wrap_i64 h]
theorem run_mul {c : Int} (hc : a * b = c) (h : -9223372036854775808 ≤ c ∧ c ≤ 9223372036854775807) : (execOp (ev f) ⟨d, .binOp .mul T x y T', ty, pos, af, none⟩).run P w = .ok (.value (.int .i64 c)) w := by
  rw [run_mulW hx hy, hc, wrap_i64 h]
end i64s

theorem run_shr {k' : IntKind} {s : Int} (hx : ev f x = .int k a) (hy : ev f y = .int k' s) (hs : 0 ≤ s) :
    (execOp (ev f) ⟨d, .binOp .shr T x y T', ty, pos, af, none⟩).run P w = .ok (.value (.int k (a.fdiv (2 ^ min s.toNat k.bits)))) w := by
  have : ¬ s < 0 := by omega
  simp [execOp, hx, hy, go_sem, Op.shift, this]
theorem run_shl {k' : IntKind} {s : Int} (hx : ev f x = .int k a) (hy : ev f y = .int k' s) (hs : 0 ≤ s) :
    (execOp (ev f) ⟨d, .binOp .shl T x y T', ty, pos, af, none⟩).run P w = .ok (.value (.int k (k.wrap (a * 2 ^ min s.toNat k.bits)))) w := by
  have : ¬ s < 0 := by omega
  simp [execOp, hx, hy, go_sem, Op.shift, this]

theorem run_convInt {k k' : IntKind} {ds : TypeDesc} (hs : P.underlying T = some ds) (ht : P.underlying T' = some (.int k')) (hx : ev f x = .int k a) :
    (execOp (ev f) ⟨d, .convert T T' x, ty, pos, af, none⟩).run P w = .ok (.value (.int k' (k'.wrap a))) w := by
  simp [execOp, hx, convert, run_underlying hs, run_underlying ht, Conv.intToInt]

section strs
variable {s t : List UInt8}
theorem toList_str (s : List UInt8) : (ByteArray.mk ⟨s⟩).toList = s := by rw [ByteArray.toList_eq]
theorem run_strEq (hx : ev f x = str s) (hy : ev f y = str t) : (execOp (ev f) ⟨d, .binOp .eql T x y T', ty, pos, af, none⟩).run P w = .ok (.value (.bool (decide (s = t)))) w := by
  have e : (s == t) = decide (s = t) := by by_cases h : s = t <;> simp [h]
  rw [← e]
  simp [execOp, hx, hy, str, go_sem, binOp, Op.stringOp, toList_str]
theorem run_strNe (hx : ev f x = str s) (hy : ev f y = str t) : (execOp (ev f) ⟨d, .binOp .neq T x y T', ty, pos, af, none⟩).run P w = .ok (.value (.bool (decide (s ≠ t)))) w := by
  have e : (!(s == t)) = decide (s ≠ t) := by by_cases h : s = t <;> simp [h]
  rw [← e]
  simp [execOp, hx, hy, str, go_sem, binOp, Op.stringOp, toList_str]
theorem run_strLt (hx : ev f x = str s) (hy : ev f y = str t) : (execOp (ev f) ⟨d, .binOp .lss T x y T', ty, pos, af, none⟩).run P w = .ok (.value (.bool (Op.bytesLess s t))) w := by
  simp [execOp, hx, hy, str, go_sem, binOp, Op.stringOp, toList_str]
theorem run_strGt (hx : ev f x = str s) (hy : ev f y = str t) : (execOp (ev f) ⟨d, .binOp .gtr T x y T', ty, pos, af, none⟩).run P w = .ok (.value (.bool (!(Op.bytesLess s t || s == t)))) w := by
  simp [execOp, hx, hy, str, go_sem, binOp, Op.stringOp, toList_str]
theorem run_strGe (hx : ev f x = str s) (hy : ev f y = str t) : (execOp (ev f) ⟨d, .binOp .geq T x y T', ty, pos, af, none⟩).run P w = .ok (.value (.bool (!(Op.bytesLess s t)))) w := by
  simp [execOp, hx, hy, str, go_sem, binOp, Op.stringOp, toList_str]
theorem run_strIdx {i : Nat} {c : UInt8} (ht : P.underlying T = some .string) (hx : ev f x = str s) (hy : ev f y = .int k i) (hi : s[i]? = some c) :
    (execOp (ev f) ⟨d, .index T x y, ty, pos, af, none⟩).run P w = .ok (.value (.int .u8 c.toNat)) w := by
  have h1 : (ByteArray.mk ⟨s⟩)[i]? = some c := by
    have hobt := List.getElem?_eq_some_iff.1 hi
    obtain ⟨hlt, he⟩ := hobt
    have hlt' : i < (ByteArray.mk ⟨s⟩).size := hlt
    rw [getElem?_pos (ByteArray.mk ⟨s⟩) i hlt']
    exact congrArg some he
  simp [execOp, hx, hy, str, Instr.index, asIntOf, run_underlying ht, h1]
theorem run_lenStr (ht : P.underlying T = some .string) (hx : ev f x = str s) :
    (execOp (ev f) ⟨d, .call { callee := .builtin .len, args := #[x], argTypes := #[T] }, ty, pos, af, none⟩).run P w = .ok (.value (.int .i64 s.length)) w := by
  have hsz : (ByteArray.mk ⟨s⟩).size = s.length := rfl
  simp [execOp, hx, str, resolve, invoke, builtin, Builtin.len_, run_underlying ht, goInt, hsz]
theorem run_sliceStr {lo hi : Nat} {xl xh : Option Operand} (ht : P.underlying T = some .string) (hx : ev f x = str s)
    (hl : match xl with | some o => ev f o = .int .i64 lo | none => lo = 0) (hh : match xh with | some o => ev f o = .int .i64 hi | none => hi = s.length) (h1 : lo ≤ hi) (h2 : hi ≤ s.length) :
    (execOp (ev f) ⟨d, .slice T x xl xh none, ty, pos, af, none⟩).run P w = .ok (.value (str ((s.take hi).drop lo))) w := by
  have hsz : (ByteArray.mk ⟨s⟩).size = s.length := rfl
  have hex : (ByteArray.mk ⟨s⟩).extract lo hi = ⟨⟨(s.take hi).drop lo⟩⟩ := by
    apply ByteArray.ext
    rw [ByteArray.data_extract]
    simp [List.drop_take]
  cases xl with
  | none =>
    simp only at hl
    subst hl
    cases xh with
    | none =>
      simp only at hh
      subst hh
      simp [execOp, hx, str, Instr.sliceAt, Instr.slice, run_underlying ht, Instr.sliceBounds, hsz, hex]
    | some o =>
      simp only at hh
      simp [execOp, hx, hh, str, Instr.sliceAt, Instr.slice, run_underlying ht, Instr.sliceBounds, Instr.sliceBound, asIntOf, hsz, hex, h2]
  | some o' =>
    simp only at hl
    cases xh with
    | none =>
      simp only at hh
      subst hh
      simp [execOp, hx, hl, str, Instr.sliceAt, Instr.slice, run_underlying ht, Instr.sliceBounds, Instr.sliceBound, asIntOf, hsz, hex, h1]
    | some o =>
      simp only at hh
      simp [execOp, hx, hl, hh, str, Instr.sliceAt, Instr.slice, run_underlying ht, Instr.sliceBounds, Instr.sliceBound, asIntOf, hsz, hex, h2, h1]
end strs

section slices
variable {E : TypeId} {ad : Option Addr} {len cap : Nat}
theorem run_lenSl (ht : P.underlying T = some (.slice E)) (hx : ev f x = .slice ad len cap) :
    (execOp (ev f) ⟨d, .call { callee := .builtin .len, args := #[x], argTypes := #[T] }, ty, pos, af, none⟩).run P w = .ok (.value (.int .i64 len)) w := by
  simp [execOp, hx, resolve, invoke, builtin, Builtin.len_, run_underlying ht, goInt]
theorem run_capSl (ht : P.underlying T = some (.slice E)) (hx : ev f x = .slice ad len cap) :
    (execOp (ev f) ⟨d, .call { callee := .builtin .cap, args := #[x], argTypes := #[T] }, ty, pos, af, none⟩).run P w = .ok (.value (.int .i64 cap)) w := by
  simp [execOp, hx, resolve, invoke, builtin, Builtin.cap_, run_underlying ht, goInt]

theorem add_off (b o n : Nat) : Addr.add ⟨b, o, none⟩ n = ⟨b, o + n, none⟩ := Addr.add_lit b o n

theorem run_sizeOf {agg : Bool} {n bytes : Nat} {zs : List Value} (hE : Ty P E agg n bytes zs) (w : World) : (sizeOf E).run P w = .ok n w := by
  have hobt := hE.info
  obtain ⟨i, z, hi, hs, _⟩ := hobt
  simp [sizeOf, typeInfo, hi, hs]

theorem run_ixSl {agg : Bool} {n bytes : Nat} {zs : List Value} {bk off : Nat} {i : Int} (ht : P.underlying T = some (.slice E)) (hE : Ty P E agg n bytes zs) (hx : ev f x = .slice (some ⟨bk, off, none⟩) len cap) (hy : ev f y = .int k i)
    (h : 0 ≤ i ∧ i < len) : (execOp (ev f) ⟨d, .indexAddr T x y, ty, pos, af, none⟩).run P w = .ok (.value (.pointer (some ⟨bk, off + i.toNat * n, none⟩))) w := by
  simp [execOp, hx, hy, Instr.indexAt, asIntOf, run_underlying ht, h, run_sizeOf hE, add_off]
theorem run_ixSlN {agg : Bool} {n bytes : Nat} {zs : List Value} {bk off i : Nat} (ht : P.underlying T = some (.slice E)) (hE : Ty P E agg n bytes zs) (hx : ev f x = .slice (some ⟨bk, off, none⟩) len cap) (hy : ev f y = .int k i)
    (h : i < len) : (execOp (ev f) ⟨d, .indexAddr T x y, ty, pos, af, none⟩).run P w = .ok (.value (.pointer (some ⟨bk, off + i * n, none⟩))) w := by
  rw [run_ixSl ht hE hx hy (by omega), Int.toNat_natCast]
theorem run_ixArrN {agg : Bool} {n bytes : Nat} {zs : List Value} {bk off m i : Nat} (ht : P.underlying T = some (.array m E)) (hE : Ty P E agg n bytes zs) (hx : ev f x = .pointer (some ⟨bk, off, none⟩)) (hy : ev f y = .int k i)
    (h : i < m) : (execOp (ev f) ⟨d, .indexAddr T x y, ty, pos, af, none⟩).run P w = .ok (.value (.pointer (some ⟨bk, off + i * n, none⟩))) w := by
  simp [execOp, hx, hy, Instr.indexAt, asIntOf, run_underlying ht, h, run_sizeOf hE, add_off, Instr.sureAddr]
theorem run_ixArr {agg : Bool} {n bytes : Nat} {zs : List Value} {bk off m : Nat} {i : Int} (ht : P.underlying T = some (.array m E)) (hE : Ty P E agg n bytes zs) (hx : ev f x = .pointer (some ⟨bk, off, none⟩)) (hy : ev f y = .int k i)
    (h : 0 ≤ i ∧ i < m) : (execOp (ev f) ⟨d, .indexAddr T x y, ty, pos, af, none⟩).run P w = .ok (.value (.pointer (some ⟨bk, off + i.toNat * n, none⟩))) w := by
  simp [execOp, hx, hy, Instr.indexAt, asIntOf, run_underlying ht, h, run_sizeOf hE, add_off, Instr.sureAddr]

/-- A slice of a slice: the bounds by number; where nothing is left behind its start the address stays. -/
def cutSl (sz bk off lo hi m : Nat) : Value := .slice (some ⟨bk, if m = lo then off else off + lo * sz, none⟩) (hi - lo) (m - lo)
def LoOk (v : Option Value) (lo : Nat) : Prop := match v with | some o => o = .int .i64 lo | none => lo = 0
def HiOk (v : Option Value) (hi len : Nat) : Prop := match v with | some o => o = .int .i64 hi | none => hi = len
theorem run_bounds {isS : Bool} {lo hi m : Nat} {vl vh vm : Option Value} (hs : vm.isSome = true → vh.isSome = true)
    (hl : LoOk vl lo) (hh : HiOk vh hi len) (hm : HiOk vm m cap)
    (h1 : lo ≤ hi) (h2 : hi ≤ m) (h3 : m ≤ cap) : (Instr.sliceBounds isS len cap vl vh vm).run P w = .ok (lo, hi, m) w := by
  cases vl <;> cases vh <;> cases vm <;> simp only [LoOk, HiOk] at hl hh hm <;>
    first
    | (exfalso; simp at hs; done)
    | (try subst hl
       try subst hh
       try subst hm
       simp [Instr.sliceBounds, Instr.sliceBound, asIntOf, *])
theorem cut_addr {bk off lo m n : Nat} : (if m = lo then (some ⟨bk, off, none⟩ : Option Addr) else Option.map (fun (x : Addr) => x.add (lo * n)) (some ⟨bk, off, none⟩)) = some ⟨bk, if m = lo then off else off + lo * n, none⟩ := by
  split <;> simp [add_off]
theorem cut_addr' {bk off lo m n : Nat} : (if m = lo then (⟨bk, off, none⟩ : Addr) else Addr.add ⟨bk, off, none⟩ (lo * n)) = ⟨bk, if m = lo then off else off + lo * n, none⟩ := by
  split <;> simp [add_off]
theorem run_sliceSl {agg : Bool} {n bytes : Nat} {zs : List Value} {bk off lo hi m : Nat} {xl xh xm : Option Operand} (ht : P.underlying T = some (.slice E)) (hE : Ty P E agg n bytes zs) (hx : ev f x = .slice (some ⟨bk, off, none⟩) len cap)
    (hl : LoOk (xl.map (ev f)) lo) (hh : HiOk (xh.map (ev f)) hi len) (hm : HiOk (xm.map (ev f)) m cap) (hs : xm.isSome = true → xh.isSome = true)
    (h1 : lo ≤ hi) (h2 : hi ≤ m) (h3 : m ≤ cap) :
    (execOp (ev f) ⟨d, .slice T x xl xh xm, ty, pos, af, none⟩).run P w = .ok (.value (cutSl n bk off lo hi m)) w := by
  have hb := run_bounds (P := P) (w := w) (isS := true) (by simpa using hs) hl hh hm h1 h2 h3
  simp only [execOp, hx, Instr.sliceAt, Instr.slice, Sem.run_bind, run_underlying ht, Result.andThen_ok, hb, run_sizeOf hE, Sem.run_pure, cutSl, cut_addr]
theorem run_sliceSl0 {agg : Bool} {n bytes : Nat} {zs : List Value} {bk off hi m : Nat} {xh xm : Option Operand} (ht : P.underlying T = some (.slice E)) (hE : Ty P E agg n bytes zs) (hx : ev f x = .slice (some ⟨bk, off, none⟩) len cap)
    (hh : HiOk (xh.map (ev f)) hi len) (hm : HiOk (xm.map (ev f)) m cap) (hs : xm.isSome = true → xh.isSome = true)
    (h2 : hi ≤ m) (h3 : m ≤ cap) :
    (execOp (ev f) ⟨d, .slice T x none xh xm, ty, pos, af, none⟩).run P w = .ok (.value (.slice (some ⟨bk, off, none⟩) hi m)) w := by
  rw [run_sliceSl (lo := 0) (xl := none) ht hE hx rfl hh hm hs (Nat.zero_le _) h2 h3]
  simp [cutSl]
theorem run_sliceSlP {agg : Bool} {n bytes : Nat} {zs : List Value} {bk off lo hi m : Nat} {o : Operand} {xh xm : Option Operand} (ht : P.underlying T = some (.slice E)) (hE : Ty P E agg n bytes zs) (hx : ev f x = .slice (some ⟨bk, off, none⟩) len cap)
    (hl : ev f o = .int .i64 lo) (hh : HiOk (xh.map (ev f)) hi len) (hm : HiOk (xm.map (ev f)) m cap) (hs : xm.isSome = true → xh.isSome = true)
    (h1 : lo ≤ hi) (h2 : hi ≤ m) (h3 : m ≤ cap) (h4 : lo ≠ m) :
    (execOp (ev f) ⟨d, .slice T x (some o) xh xm, ty, pos, af, none⟩).run P w = .ok (.value (.slice (some ⟨bk, off + lo * n, none⟩) (hi - lo) (m - lo))) w := by
  rw [run_sliceSl (lo := lo) (xl := some o) ht hE hx hl hh hm hs h1 h2 h3]
  rw [cutSl, if_neg (fun e => h4 e.symm)]
theorem run_sliceArr {agg : Bool} {n bytes : Nat} {zs : List Value} {bk off lo hi m : Nat} {xl xh : Option Operand} (ht : P.underlying T = some (.array m E)) (hE : Ty P E agg n bytes zs) (hx : ev f x = .pointer (some ⟨bk, off, none⟩))
    (hl : LoOk (xl.map (ev f)) lo) (hh : HiOk (xh.map (ev f)) hi m)
    (h1 : lo ≤ hi) (h2 : hi ≤ m) :
    (execOp (ev f) ⟨d, .slice T x xl xh none, ty, pos, af, none⟩).run P w = .ok (.value (cutSl n bk off lo hi m)) w := by
  have hb := run_bounds (P := P) (w := w) (isS := false) (len := m) (cap := m) (vl := xl.map (ev f)) (vh := xh.map (ev f)) (vm := none) (by simp) hl hh rfl h1 h2 (Nat.le_refl _)
  simp only [execOp, hx, Instr.sliceAt, Instr.sureAddr, Option.map_none, Sem.run_bind, run_underlying ht, Result.andThen_ok, hb, run_sizeOf hE, Sem.run_pure, cutSl, cut_addr']
theorem run_sliceNil {agg : Bool} {n bytes : Nat} {zs : List Value} {xl xh : Option Operand} (ht : P.underlying T = some (.slice E)) (hE : Ty P E agg n bytes zs) (hx : ev f x = .slice none 0 0)
    (hl : LoOk (xl.map (ev f)) 0) (hh : HiOk (xh.map (ev f)) 0 0) :
    (execOp (ev f) ⟨d, .slice T x xl xh none, ty, pos, af, none⟩).run P w = .ok (.value (.slice none 0 0)) w := by
  have hb := run_bounds (P := P) (w := w) (isS := true) (len := 0) (cap := 0) (lo := 0) (hi := 0) (m := 0) (vl := xl.map (ev f)) (vh := xh.map (ev f)) (vm := none) (by simp) hl hh rfl (Nat.le_refl _) (Nat.le_refl _) (Nat.le_refl _)
  simp only [execOp, hx, Instr.sliceAt, Instr.slice, Option.map_none, Sem.run_bind, run_underlying ht, Result.andThen_ok, hb, run_sizeOf hE, Sem.run_pure]
  rfl
end slices

section bools
variable {a b : Bool}
theorem run_eqlB (hT : P.underlying T = some .bool) (hx : ev f x = .bool a) (hy : ev f y = .bool b) : (execOp (ev f) ⟨d, .binOp .eql T x y T', ty, pos, af, none⟩).run P w = .ok (.value (.bool (a == b))) w := by
  have h0 : ∀ d, (Op.equalIn (d + 1) T (.bool a) (.bool b)).run P w = .ok (a == b) w := fun d => by simp [Op.equalIn, run_underlying hT]
  have h : (Op.equal T (.bool a) (.bool b)).run P w = .ok (a == b) w := h0 9999
  simp [execOp, hx, hy, eqGuard, binOp, h]
theorem run_neqB (hT : P.underlying T = some .bool) (hx : ev f x = .bool a) (hy : ev f y = .bool b) : (execOp (ev f) ⟨d, .binOp .neq T x y T', ty, pos, af, none⟩).run P w = .ok (.value (.bool (a != b))) w := by
  have h0 : ∀ d, (Op.equalIn (d + 1) T (.bool a) (.bool b)).run P w = .ok (a == b) w := fun d => by simp [Op.equalIn, run_underlying hT]
  have h : (Op.equal T (.bool a) (.bool b)).run P w = .ok (a == b) w := h0 9999
  simp [execOp, hx, hy, eqGuard, binOp, h]
  cases a <;> cases b <;> rfl
end bools

theorem run_field {bk off : Nat} {i o' : Nat} {fs : Array Field} {fd : Field} {agg : Bool} {n bytes : Nat} {zs : List Value} (ht : P.underlying T = some (.struct fs)) (hf : fs[i]? = some fd) (hE : Ty P fd.type agg n bytes zs) (hn : Nat.beq n 0 = false) (ho : fd.offset = o') (hx : ev f x = .pointer (some ⟨bk, off, none⟩)) :
    (execOp (ev f) ⟨d, .fieldAddr T x i, ty, pos, af, none⟩).run P w =   .ok (.value (.pointer (some ⟨bk, off + o', none⟩))) w := by
  subst ho
  have hn' : n ≠ 0 := fun e => by subst e; cases hn
  simp [execOp, hx, Instr.fieldAt, run_underlying ht, hf, Instr.sureAddr, fieldPlace, run_sizeOf hE, hn', add_off]

section loads
variable {agg : Bool} {n bytes : Nat} {zs : List Value}
theorem run_isAgg (hT : Ty P T agg n bytes zs) (w : World) : (isAgg T).run P w = .ok agg w := by
  have hobt := hT.und
  obtain ⟨d, hd, hm⟩ := hobt
  simp only [isAgg, Sem.run_bind, run_underlying hd, Result.andThen_ok]
  cases d <;> simp only [isAggD] at hm <;> subst hm <;> rfl

theorem run_load1 {A : Addr} {v : Value} (hT : Ty P T false n bytes zs) (hx : ev f x = .pointer (some A)) (hv : w.cell? A = some v) :
    (execOp (ev f) ⟨d, .load T x, ty, pos, af, none⟩).run P w = .ok (.value v) w := by
  simp [execOp, hx, Instr.loadAt, Instr.sureAddr, loadVar, run_isAgg hT, hv]

theorem run_loadCells_at {bk off : Nat} {cs : List Value} (h : At w bk off cs) : (loadCells ⟨bk, off, none⟩ cs.length).run P w = .ok cs.toArray w :=
  run_loadCells_list w _ cs fun j v hj => by rw [add_off]; exact h j v hj

theorem run_loadVar1 {A : Addr} {v : Value} (hT : Ty P T false n bytes zs) (hv : w.cell? A = some v) : (loadVar T A).run P w = .ok v w := by
  simp [loadVar, run_isAgg hT, hv]
theorem run_loadVarN {bk off : Nat} {cs : List Value} (hT : Ty P T true n bytes zs) (hl : cs.length = n) (h : At w bk off cs) : (loadVar T ⟨bk, off, none⟩).run P w = .ok (.agg cs.toArray) w := by
  simp only [loadVar, Sem.run_bind, run_isAgg hT, Result.andThen_ok, if_true, run_sizeOf hT, ← hl, run_loadCells_at h, Sem.run_pure]

theorem run_loadN {bk off : Nat} {cs : List Value} (hT : Ty P T true n bytes zs) (hx : ev f x = .pointer (some ⟨bk, off, none⟩)) (hl : cs.length = n) (h : At w bk off cs) :
    (execOp (ev f) ⟨d, .load T x, ty, pos, af, none⟩).run P w = .ok (.value (.agg cs.toArray)) w := by
  simp [execOp, hx, Instr.loadAt, Instr.sureAddr, run_loadVarN hT hl h]
end loads

/-- The function may be entered. -/
structure En (P : Program) (F : FuncId) : Prop where
  ok : ∃ fn, P.funcs[F]? = some fn ∧ fn.body.isNone = false ∧ (fn.name == "runtime.NumGoroutine") = false

theorem run_call {F : FuncId} {fo : Operand} {args : Array Operand} {ats : Array TypeId} {vs : List Value} (hF : En P F)
    (hx : ev f fo = .func (.func F) #[] #[]) (hv : args.toList.map (ev f) = vs) :
    (execOp (ev f) ⟨d, .call { callee := .value fo, args, argTypes := ats }, ty, pos, af, none⟩).run P w = .ok (.enter F vs.toArray) w := by
  have e : args.map (ev f) = vs.toArray := by rw [← hv]; apply Array.ext'; simp
  have hobt := hF.ok
  obtain ⟨fn, hf, hb, hn⟩ := hobt
  have hcf : ∀ vas : Array Value, (callFunc F vas).run P w = .ok (.enter F vas) w := fun vas => by
    simp only [callFunc, Sem.run_bind, run_program, Result.andThen_ok, hf, hn, hb, Bool.false_eq_true, if_false, Sem.run_pure]
  simp [execOp, resolve, hx, Deferred.ofValue, invoke, hcf, e]

theorem run_makeFunc {fnv : Fn} {first captured : Array Operand} : (execOp (ev f) ⟨d, .makeFunc fnv first captured, ty, pos, af, none⟩).run P w = .ok (.value (.func fnv (first.map (ev f)) (captured.map (ev f)))) w := by
  simp [execOp, Instr.makeFunc]
end
end Go.Gx
/-! Eff -/
namespace Go.Gx
set_option linter.unusedVariables false
set_option linter.unusedSimpArgs false

def Cell1 (v : Value) : Prop := v.oneCell' = true
def Cells1 (vs : List Value) : Prop := ∀ v ∈ vs, v.oneCell' = true

theorem Cells1.u8s (l : List UInt8) : Cells1 (u8s l) := by
  intro v hv
  have hobt := List.mem_map.1 hv
  obtain ⟨c, _, rfl⟩ := hobt
  rfl
theorem Cells1.append {a b : List Value} (ha : Cells1 a) (hb : Cells1 b) : Cells1 (a ++ b) := fun v hv => by
  rcases List.mem_append.1 hv with h | h
  · exact ha v h
  · exact hb v h
theorem Cells1.drop {a : List Value} (ha : Cells1 a) (k : Nat) : Cells1 (a.drop k) := fun v hv => ha v (List.mem_of_mem_drop hv)
theorem Cells1.of_all {vs : List Value} (h : (vs.all fun v => v.oneCell') = true) : Cells1 vs := fun v hv => List.all_eq_true.1 h v hv
theorem Cells1.take {a : List Value} (ha : Cells1 a) (k : Nat) : Cells1 (a.take k) := fun v hv => ha v (List.mem_of_mem_take hv)

theorem cells_one {v : Value} (h : v.oneCell' = true) : v.cells = #[v] := by cases v <;> first | rfl | cases h

/-- Values laid over a row from a place on. -/
def splice (cs : List Value) (off : Nat) (vs : List Value) : List Value := cs.take off ++ vs ++ cs.drop (off + vs.length)

theorem splice_nil (cs : List Value) (off : Nat) : splice cs off [] = cs := by simp [splice]
theorem splice_cons {cs : List Value} {off : Nat} (v : Value) (vs : List Value) (h : off < cs.length) : splice (cs.set off v) (off + 1) vs = splice cs off (v :: vs) := by
  have h1 : (cs.set off v).take (off + 1) = cs.take off ++ [v] := by
    rw [List.set_eq_take_append_cons_drop, if_pos h]
    rw [List.take_append]
    simp [List.take_take, Nat.min_eq_left (Nat.le_of_lt h)]
  have h2 : (cs.set off v).drop (off + 1 + vs.length) = cs.drop (off + (vs.length + 1)) := by
    rw [List.drop_set, if_pos (by omega)]
    congr 1
    omega
  simp only [splice, h1, h2, List.length_cons, List.append_assoc, List.cons_append, List.nil_append]
theorem length_splice {cs : List Value} {off : Nat} {vs : List Value} (h : off + vs.length ≤ cs.length) : (splice cs off vs).length = cs.length := by
  simp only [splice, List.length_append, List.length_take, List.length_drop]
  omega
theorem splice_front (a b vs : List Value) (h : vs.length = b.length) : splice (a ++ b) a.length vs = a ++ vs := by
  simp [splice, h]
theorem splice_end (a b vs : List Value) (h : vs.length ≤ b.length) : splice (a ++ b) a.length vs = a ++ vs ++ b.drop vs.length := by
  simp [splice]

def setRow (w : World) (b off : Nat) : List Value → World
  | [] => w
  | v :: vs => setRow (w.setCell ⟨b, off, none⟩ v) b (off + 1) vs

theorem Step.row {S : List Nat} {L : List (Nat × Obj)} {b : Nat} {T : TypeId} {w0 : World} : ∀ (vs : List Value) (off : Nat) (cs : List Value) (w : World), Step S ((b, blk T cs) :: L) w0 w → off + vs.length ≤ cs.length →
    Step S ((b, blk T (splice cs off vs)) :: L) w0 (setRow w b off vs)
  | [], off, cs, w, h, _ => by rw [splice_nil]; exact h
  | v :: vs, off, cs, w, h, hl => by
    simp only [List.length_cons] at hl
    rw [← splice_cons v vs (by omega)]
    exact Step.row vs (off + 1) _ _ (h.set off v) (by simp; omega)

section
variable {P : Program}

theorem run_store1 {w : World} {b off : Nat} {T : TypeId} {cs : List Value} {v : Value} (h : w.heap[b]? = some (blk T cs)) (ho : off < cs.length) (hv : v.oneCell' = true) : (store ⟨b, off, none⟩ v).run P w = .ok () (w.setCell ⟨b, off, none⟩ v) := by
  rw [run_store P w _ v .plain hv, cell_blk h, List.getElem?_eq_getElem ho, frozen_blk h]
  rfl

theorem run_storeCells : ∀ (vs : List Value) (i off b : Nat) (T : TypeId) (cs : List Value) (w : World), w.heap[b]? = some (blk T cs) → off + i + vs.length ≤ cs.length → Cells1 vs →
    (storeCells ⟨b, off, none⟩ vs i).run P w = .ok () (setRow w b (off + i) vs)
  | [], i, off, b, T, cs, w, _, _, _ => by simp [storeCells, setRow]
  | v :: vs, i, off, b, T, cs, w, h, hl, hc => by
    simp only [List.length_cons] at hl
    simp only [storeCells, Sem.run_bind, add_off, run_store1 h (show off + i < cs.length by omega) (hc v (by simp)), Result.andThen_ok, setRow]
    have ih := run_storeCells vs (i + 1) off b T (cs.set (off + i) v) (w.setCell ⟨b, off + i, none⟩ v) (heap_setCell_blk w _ _ h) (by simp; omega) (fun u hu => hc u (by simp [hu]))
    rw [ih]
    rfl

variable {ops : Array Oper} {Q : Post} {n : Nat} {rest : List Oper} {f : Slots} {ds : List Deferred} {w w0 : World} {ty : TypeId} {pos : String} {af : Array Edge} {x y : Operand} {T : TypeId} {d : Nat} {S : List Nat} {L : List (Nat × Obj)}

theorem run_zero {agg : Bool} {k bytes : Nat} {zs : List Value} (hT : Ty P T agg k bytes zs) (w : World) : ∃ z, (zeroValue T).run P w = .ok z w ∧ z.cells = zs.toArray := by
  have hobt := hT.info
  obtain ⟨i, z, hi, _, _, hz, hc, _⟩ := hobt
  exact ⟨z, by simp [zeroValue, typeInfo, hi, hz], hc⟩

/-- A new variable. -/
theorem WL.alloc {agg : Bool} {k bytes : Nat} {zs : List Value} (hT : Ty P T agg k bytes zs) (hd : Nat.blt d n = true) (hs : Step S L w0 w)
    (h : ∀ b w', Step S ((b, blk T zs) :: L) w0 w' → WL P ops Q n rest (upd f d (.pointer (some ⟨b, 0, none⟩))) ds w') : WL P ops Q n (⟨some d, .alloc T, ty, pos, af, none⟩ :: rest) f ds w := by
  have hobt := run_zero hT w
  obtain ⟨z, hz, hc⟩ := hobt
  refine WL.val hd (v := .pointer (some ⟨w.heap.size, 0, none⟩)) (w' := w.alloc (blk T zs)) ?_ (h _ _ (hs.alloc _))
  simp [execOp, Instr.alloc, hz, newVar, newRow, hc, blk]

theorem WL.box {v : Value} {cs : List Value} (hx : ev f x = v) (hv : v.cells = cs.toArray) (hd : Nat.blt d n = true) (hs : Step S L w0 w)
    (h : ∀ b w', Step S ((b, blk T cs) :: L) w0 w' → WL P ops Q n rest (upd f d (.pointer (some ⟨b, 0, none⟩))) ds w') : WL P ops Q n (⟨some d, .box T x, ty, pos, af, none⟩ :: rest) f ds w := by
  refine WL.val hd (v := .pointer (some ⟨w.heap.size, 0, none⟩)) (w' := w.alloc (blk T cs)) ?_ (h _ _ (hs.alloc _))
  simp [execOp, hx, Instr.box, newVar, newRow, hv, blk]

/-- A store of one cell. -/
theorem WL.store1 {agg : Bool} {bytes : Nat} {zs cs : List Value} {b o : Nat} {T' : TypeId} {v : Value} (hT : Ty P T agg 1 bytes zs) (hx : ev f x = .pointer (some ⟨b, o, none⟩)) (hy : ev f y = v) (hv : v.oneCell' = true)
    (hs : Step S ((b, blk T' cs) :: L) w0 w) (ho : o < cs.length) (h : ∀ w', Step S ((b, blk T' (cs.set o v)) :: L) w0 w' → WL P ops Q n rest f ds w') : WL P ops Q n (⟨none, .store T x y, ty, pos, af, none⟩ :: rest) f ds w := by
  refine WL.skip (w' := w.setCell ⟨b, o, none⟩ v) ?_ (h _ (hs.set o v))
  have hc := cells_one hv
  simp [execOp, hx, hy, Instr.storeAt, Instr.sureAddr, storeVar, hc, run_sizeOf hT, storeCells, add_off, run_store1 hs.hd ho hv]

/-- A store of a struct, an array. -/
theorem WL.storeN {agg : Bool} {k bytes : Nat} {zs cs vs : List Value} {b o : Nat} {T' : TypeId} (hT : Ty P T agg k bytes zs) (hx : ev f x = .pointer (some ⟨b, o, none⟩)) (hy : ev f y = .agg vs.toArray) (hl : vs.length = k) (hv : Cells1 vs)
    (hs : Step S ((b, blk T' cs) :: L) w0 w) (ho : o + k ≤ cs.length) (h : ∀ w', Step S ((b, blk T' (splice cs o vs)) :: L) w0 w' → WL P ops Q n rest f ds w') : WL P ops Q n (⟨none, .store T x y, ty, pos, af, none⟩ :: rest) f ds w := by
  refine WL.skip (w' := setRow w b o vs) ?_ (h _ (Step.row vs o cs w hs (by omega)))
  have hr := run_storeCells (P := P) vs 0 o b T' cs w hs.hd (by omega) hv
  simp only [Nat.add_zero] at hr
  simp [execOp, hx, hy, Instr.storeAt, Instr.sureAddr, storeVar, Value.cells, run_sizeOf hT, hl, hr]

/-- A store over a whole block. -/
theorem WL.storeAll {agg : Bool} {k bytes : Nat} {zs cs vs : List Value} {b : Nat} {T' : TypeId} (hT : Ty P T agg k bytes zs) (hx : ev f x = .pointer (some ⟨b, 0, none⟩)) (hy : ev f y = .agg vs.toArray) (hl : vs.length = k) (hv : Cells1 vs)
    (hs : Step S ((b, blk T' cs) :: L) w0 w) (hc : cs.length = k) (h : ∀ w', Step S ((b, blk T' vs) :: L) w0 w' → WL P ops Q n rest f ds w') : WL P ops Q n (⟨none, .store T x y, ty, pos, af, none⟩ :: rest) f ds w :=
  WL.storeN hT hx hy hl hv hs (by omega) fun w' hs' => h w' (by
    have : splice cs 0 vs = vs := by simp [splice, List.drop_of_length_le (show cs.length ≤ vs.length by omega)]
    rwa [this] at hs')

/-- A struct or an array put together. -/
theorem run_build {parts : Array (Nat × Operand)} {vs : List (Nat × Value)} {v : Value} {d : Option Tmp} (hv : parts.toList.map (fun p => (p.1, ev f p.2)) = vs) (hb : (Instr.build T vs.toArray).run P w = .ok v w) :
    (execOp (ev f) ⟨d, .build T parts, ty, pos, af, none⟩).run P w = .ok (.value v) w := by
  have e : (parts.map fun (p : Nat × Operand) => (p.1, ev f p.2)) = vs.toArray := by rw [← hv]; apply Array.ext'; simp
  simp only [execOp]
  have e' : (parts.map fun x => match x with | (i, x) => (i, ev f x)) = vs.toArray := e
  rw [e']
  simp [hb]

theorem zero_row (zs : List Value) (len : Nat) : ((Array.range (len * zs.length)).map (fun i => zs.toArray[i % zs.toArray.size]!)) = (List.replicate len zs).flatten.toArray := by
  apply Array.ext'
  rw [Array.toList_map, Array.toList_range]
  show _ = (List.replicate len zs).flatten
  apply List.ext_getElem?
  intro j
  have hsz : zs.toArray.size = zs.length := by simp
  rw [hsz]
  by_cases hj : j < len * zs.length
  · have hz : 0 < zs.length := by
      rcases Nat.eq_zero_or_pos zs.length with h | h
      · rw [h] at hj; simp at hj
      · exact h
    have hm := Nat.mod_lt j hz
    rw [List.getElem?_map, List.getElem?_range hj, Option.map_some]
    rw [getElem!_pos zs.toArray _ (by simpa using hm)]
    have : ∀ (len j : Nat), j < len * zs.length → (List.replicate len zs).flatten[j]? = some (zs[j % zs.length]'(Nat.mod_lt _ hz)) := by
      intro len
      induction len with
      | zero => intro j hj; simp at hj
      | succ k ih =>
        intro j hj
        rw [List.replicate_succ, List.flatten_cons]
        by_cases h1 : j < zs.length
        · rw [List.getElem?_append_left h1, List.getElem?_eq_getElem h1]
          simp [Nat.mod_eq_of_lt h1]
        · rw [List.getElem?_append_right (by omega), ih _ (by rw [Nat.succ_mul] at hj; omega)]
          simp [Nat.mod_eq_sub_mod (Nat.le_of_not_lt h1)]
    rw [this len j hj]
    simp
  · rw [List.getElem?_eq_none (by simpa using hj), List.getElem?_eq_none]
    simp only [List.length_flatten, List.map_replicate, List.sum_replicate_nat]
    omega

/-- The cells of a literal slice. -/
def Filled (sz len : Nat) (zs : List Value) (vs : List (Nat × Value)) (cs : List Value) : Prop :=
  Instr.fill (fun i => some (i * sz, sz)) (List.replicate len zs).flatten.toArray vs = some cs.toArray

theorem WL.buildSlice {agg : Bool} {sz bytes len : Nat} {zs cs : List Value} {E : TypeId} {parts : Array (Nat × Operand)} {vs : List (Nat × Value)} (ht : P.underlying T = some (.slice E)) (hE : Ty P E agg sz bytes zs) (hz : zs.length = sz)
    (hlen : len * sz ≤ 16777216) (hv : parts.toList.map (fun p => (p.1, ev f p.2)) = vs) (hf : Filled sz len zs vs cs) (hd : Nat.blt d n = true) (hs : Step S L w0 w)
    (h : ∀ b w', Step S ((b, blk E cs) :: L) w0 w' → WL P ops Q n rest (upd f d (.slice (some ⟨b, 0, none⟩) len len)) ds w') : WL P ops Q n (⟨some d, .buildSlice T len parts, ty, pos, af, none⟩ :: rest) f ds w := by
  have e : (parts.map fun x => match x with | (i, x) => (i, ev f x)) = vs.toArray := by rw [← hv]; apply Array.ext'; simp
  refine WL.val hd (v := .slice (some ⟨w.heap.size, 0, none⟩) len len) (w' := w.alloc (blk E cs)) ?_ (h _ _ (hs.alloc _))
  have hobt := run_zero hE w
  obtain ⟨z, hzr, hc⟩ := hobt
  unfold Filled at hf
  have hbig : ¬ len * sz > 2 ^ 24 := by omega
  by_cases h0 : len * sz = 0
  · have hfl : (List.replicate len zs).flatten = [] := by
      apply List.eq_nil_of_length_eq_zero
      simp only [List.length_flatten, List.map_replicate, List.sum_replicate_nat, hz, h0]
    rw [hfl] at hf
    have hr0 : Array.map (fun (x : Nat) => (default : Value)) (Array.range 0) = #[] := by rw [Array.range_zero']; simp
    simp [execOp, e, Instr.buildSlice, run_underlying ht, run_sizeOf hE, h0, hr0, hf, newRow, blk]
  · have hrow := zero_row zs len
    rw [hz] at hrow
    have h1 : ¬ (len = 0 ∨ sz = 0) := fun h => h0 (by rcases h with h | h <;> simp [h])
    simp only [execOp, e, Instr.buildSlice, Sem.run_bind, run_underlying ht, Result.andThen_ok, run_sizeOf hE, if_neg hbig, if_neg h0, hzr, Sem.run_pure, hc, hrow, hf, newRow, run_newObj, blk]
    rfl

/-- make([]T, k) -/
theorem WL.makeSlice {agg : Bool} {sz bytes k : Nat} {zs : List Value} {E : TypeId} (ht : P.underlying T = some (.slice E)) (hE : Ty P E agg sz bytes zs) (hz : zs.length = sz) (hb : bytes * k ≤ 281474976710656) (hb0 : 0 < bytes)
    (hx : ev f x = .int .i64 k) (hy : ev f y = .int .i64 k) (hd : Nat.blt d n = true) (hs : Step S L w0 w)
    (h : ∀ b w', Step S ((b, blk E (List.replicate k zs).flatten) :: L) w0 w' → WL P ops Q n rest (upd f d (.slice (some ⟨b, 0, none⟩) k k)) ds w') : WL P ops Q n (⟨some d, .makeSlice T x y, ty, pos, af, none⟩ :: rest) f ds w := by
  refine WL.val hd (v := .slice (some ⟨w.heap.size, 0, none⟩) k k) (w' := w.alloc (blk E (List.replicate k zs).flatten)) ?_ (h _ _ (hs.alloc _))
  have hobt := hE.info
  obtain ⟨i, z0, hi, hsz, hby, hz0, hc0, _⟩ := hobt
  have hk : k ≤ 281474976710656 := Nat.le_trans (by have := Nat.mul_le_mul_right k hb0; omega) hb
  have hw : IntKind.i64.wrap (k : Int) = k := wrap_i64 (by omega)
  have hti : (typeInfo E).run P w = .ok i w := by simp [typeInfo, hi]
  have hobt := run_zero hE w
  obtain ⟨z, hzr, hc⟩ := hobt
  have hnl : (decide ((k : Int) < 0) || decide ((i.bytes : Int) * (k : Int) > 2 ^ 48)) = false := by
    have h1 : ¬ ((k : Int) < 0) := by omega
    have h2 : ¬ ((i.bytes : Int) * (k : Int) > 2 ^ 48) := by
      rw [hby]
      have : ((bytes * k : Nat) : Int) ≤ ((281474976710656 : Nat) : Int) := Int.ofNat_le.2 hb
      rw [Int.natCast_mul] at this
      have e48 : (2 : Int) ^ 48 = 281474976710656 := by decide
      rw [e48]
      omega
    rw [decide_eq_false h1, decide_eq_false h2]
    rfl
  simp only [execOp, hx, hy, Instr.makeSlice, Sem.run_bind, run_underlying ht, Result.andThen_ok, asInt, asIntOf, Sem.run_pure, hti, hw]
  rw [if_neg (by rw [hnl]; simp)]
  by_cases h0 : k * sz = 0
  · have hfl : (List.replicate k zs).flatten = [] := by
      apply List.eq_nil_of_length_eq_zero
      simp only [List.length_flatten, List.map_replicate, List.sum_replicate_nat, hz, h0]
    have hr0 : Array.map (fun (x : Nat) => (default : Value)) (Array.range 0) = #[] := by rw [Array.range_zero']; simp
    simp [run_sizeOf hE, h0, newRow, blk, hfl, hr0]
  · have hrow := zero_row zs k
    rw [hz] at hrow
    simp only [Sem.run_bind, run_askRoom, Result.andThen_ok, run_sizeOf hE, Int.toNat_natCast, if_neg h0, hzr, hc, Sem.run_pure, hrow, newRow, run_newObj, blk]
    rfl

/-- A slice that we own: nil, or at the head of a block of its own with room behind it. -/
def OwnSl (E : TypeId) (sz : Nat) (v : Value) (k : Nat) (xs : List Value) (Lv : List (Nat × Obj)) : Prop :=
  xs.length = k * sz ∧ ((v = .slice none 0 0 ∧ k = 0 ∧ Lv = []) ∨ ∃ b cap more, v = .slice (some ⟨b, 0, none⟩) k cap ∧ Lv = [(b, blk E (xs ++ more))] ∧ (xs ++ more).length = cap * sz)

theorem OwnSl.nil (E : TypeId) (sz : Nat) : OwnSl E sz (.slice none 0 0) 0 [] [] := ⟨by simp, .inl ⟨rfl, rfl, rfl⟩⟩
theorem OwnSl.mk {E : TypeId} {sz b k : Nat} {xs : List Value} (h : xs.length = k * sz) : OwnSl E sz (.slice (some ⟨b, 0, none⟩) k k) k xs [(b, blk E xs)] :=
  ⟨h, .inr ⟨b, k, [], rfl, by simp, by simpa using h⟩⟩
theorem OwnSl.sl {E : TypeId} {sz : Nat} {v : Value} {k : Nat} {xs : List Value} {Lv : List (Nat × Obj)} (h : OwnSl E sz v k xs Lv) (hs : Step S (Lv ++ L) w0 w) : Sl w sz v k xs := by
  obtain ⟨hl, ⟨rfl, rfl, rfl⟩ | ⟨b, cap, more, rfl, rfl, hc⟩⟩ := h
  · exact ⟨hl, .inl ⟨none, 0, rfl, rfl⟩⟩
  · exact .mk hl (At.of_blk hs.hd).left
theorem OwnSl.form {E : TypeId} {sz : Nat} {v : Value} {k : Nat} {xs : List Value} {Lv : List (Nat × Obj)} (h : OwnSl E sz v k xs Lv) : ∃ a c, v = .slice a k c := by
  obtain ⟨hl, ⟨rfl, rfl, rfl⟩ | ⟨b, cap, more, rfl, rfl, hc⟩⟩ := h
  · exact ⟨_, _, rfl⟩
  · exact ⟨_, _, rfl⟩

theorem run_firstCells {sz k : Nat} {u : Value} {ys : List Value} (h : Sl w sz u k ys) : (Builtin.firstCells sz k u).run P w = .ok ys.toArray w := by
  obtain ⟨hl, ⟨a, c, rfl, rfl⟩ | ⟨b, off, c, rfl, h⟩⟩ := h
  · have : ys = [] := by simpa using hl
    subst this
    cases a <;> simp [Builtin.firstCells, loadCells] <;> rfl
  · simp only [Builtin.firstCells, ← hl]
    exact run_loadCells_at h
theorem run_lenOf {sz k : Nat} {u : Value} {ys : List Value} (h : Sl w sz u k ys) : (Builtin.lenOf u).run P w = .ok k w := by
  obtain ⟨hl, ⟨a, c, rfl, rfl⟩ | ⟨b, off, c, rfl, h⟩⟩ := h <;> rfl

theorem run_firstCells_drew {sz k : Nat} {u : Value} {ys : List Value} (h : Sl w sz u k ys) : (Builtin.firstCells sz k u).run P w.drew = .ok ys.toArray w.drew :=
  run_firstCells (w := w.drew) (by
    obtain ⟨hl, h | ⟨b, off, c, rfl, h⟩⟩ := h
    · exact ⟨hl, .inl h⟩
    · exact ⟨hl, .inr ⟨b, off, c, rfl, h⟩⟩)

/-- The second argument's type: a slice or a string. -/
def SrcT (P : Program) (T : TypeId) : Prop := (∃ e, P.underlying T = some (.slice e)) ∨ P.underlying T = some .string

theorem run_append_nil0 {agg : Bool} {sz bytes : Nat} {zs : List Value} {E T' : TypeId} {u : Value} (ht : P.underlying T = some (.slice E)) (hz' : SrcT P T') (hE : Ty P E agg sz bytes zs) (hul : (Builtin.lenOf u).run P w = .ok 0 w) (hu : (Builtin.firstCells sz 0 u).run P w = .ok #[] w) :
    (Builtin.append_ #[T, T'] ty #[.slice none 0 0, u]).run P w = .ok (.slice none 0 0) w := by
  rcases hz' with ⟨e, hz'⟩ | hz' <;> simp [Builtin.append_, run_underlying ht, run_underlying hz', run_sizeOf hE, hul, hu]

theorem run_append_in {agg : Bool} {sz bytes k m cap b : Nat} {zs ys : List Value} {E T' : TypeId} {u : Value} (ht : P.underlying T = some (.slice E)) (hz' : SrcT P T') (hE : Ty P E agg sz bytes zs) (hul : (Builtin.lenOf u).run P w = .ok m w) (hu : (Builtin.firstCells sz m u).run P w = .ok ys.toArray w) (hfit : k + m ≤ cap) :
    (Builtin.append_ #[T, T'] ty #[.slice (some ⟨b, 0, none⟩) k cap, u]).run P w = ((storeCells ⟨b, k * sz, none⟩ ys 0).run P w).andThen fun _ w' => .ok (.slice (some ⟨b, 0, none⟩) (k + m) cap) w' := by
  rcases hz' with ⟨e, hz'⟩ | hz' <;> simp [Builtin.append_, run_underlying ht, run_underlying hz', run_sizeOf hE, hul, hu, hfit, add_off]

theorem run_append_new {agg : Bool} {sz bytes k m cap : Nat} {zs xs ys : List Value} {E T' : TypeId} {a : Option Addr} {u : Value} (ht : P.underlying T = some (.slice E)) (hz' : SrcT P T') (hE : Ty P E agg sz bytes zs) (hb0 : 0 < bytes) (hul : (Builtin.lenOf u).run P w = .ok m w) (hud : (Builtin.firstCells sz m u).run P w.drew = .ok ys.toArray w.drew)
    (hold : (Builtin.firstCells sz k (.slice a k cap)).run P w.drew = .ok xs.toArray w.drew) (hfit : cap < k + m) (hroom : (k + m) * bytes ≤ 140737488355328) :
    (Builtin.append_ #[T, T'] ty #[.slice a k cap, u]).run P w = .ok (.slice (some ⟨w.heap.size, 0, none⟩) (k + m) (grownCap w (k + m) cap E)) (w.drew.alloc (blk E (xs ++ ys ++ (List.replicate (grownCap w (k + m) cap E - (k + m)) zs).flatten))) := by
  have hobt := hE.info
  obtain ⟨i, z0, hi, hsz, hby, hz0, hc0, _⟩ := hobt
  have hn : ¬ (k + m ≤ cap) := by omega
  have h63' : ¬ (9223372036854775807 < ((k : Int) + (m : Int))) := by
    have : (k + m) * 1 ≤ (k + m) * bytes := Nat.mul_le_mul_left _ hb0
    omega
  have h48' : ¬ (281474976710656 < Builtin.nextslicecap (k + m) cap * i.bytes) := by
    rw [hby]
    have := growslice_fits (old := cap) (bytes := bytes) (need := k + m) (by omega) hroom
    omega
  have hzc : ∀ j, Builtin.zeroCells z0.cells j = ((List.replicate j zs).flatten).toArray := fun j => by
    rw [hc0]
    have := zero_row zs j
    simpa [Builtin.zeroCells] using this
  have hblk : ∀ l : List Value, Obj.cells l.toArray E = blk E l := fun l => rfl
  subst hsz
  rcases hz' with ⟨e, hz'⟩ | hz' <;>
    simp [Builtin.append_, run_underlying ht, run_underlying hz', sizeOf, typeInfo, zeroValue, hi, hz0, hul, hud, hn, h63', h48', Question.forced, hold, newRow, grownCap, hzc, hblk]

/-- What append yields, of our own slice: in its room, or in a new block. -/
theorem run_append {agg : Bool} {sz bytes k m : Nat} {zs xs ys : List Value} {E T' : TypeId} {v u : Value} {Lv : List (Nat × Obj)} (ht : P.underlying T = some (.slice E)) (hz' : SrcT P T') (hE : Ty P E agg sz bytes zs) (hzl : zs.length = sz) (hb0 : 0 < bytes)
    (hv : OwnSl E sz v k xs Lv) (hs : Step S (Lv ++ L) w0 w) (hul : (Builtin.lenOf u).run P w = .ok m w) (hu : (Builtin.firstCells sz m u).run P w = .ok ys.toArray w) (hud : (Builtin.firstCells sz m u).run P w.drew = .ok ys.toArray w.drew) (hly : ys.length = m * sz) (hc1 : Cells1 ys) (hroom : (k + m) * bytes ≤ 140737488355328) :
    ∃ v' Lv' w', (Builtin.append_ #[T, T'] ty #[v, u]).run P w = .ok v' w' ∧ OwnSl E sz v' (k + m) (xs ++ ys) Lv' ∧ Step S (Lv' ++ L) w0 w' := by
  have hsl := hv.sl hs
  obtain ⟨hl, hcase⟩ := hv
  obtain ⟨a, cap, rfl⟩ : ∃ a cap, v = .slice a k cap := by
    rcases hcase with ⟨rfl, rfl, rfl⟩ | ⟨b, cap, more, rfl, rfl, hcap⟩ <;> exact ⟨_, _, rfl⟩
  by_cases hfit : k + m ≤ cap
  · rcases hcase with ⟨h1, rfl, rfl⟩ | ⟨b, cap', more, h1, rfl, hcap⟩
    · injection h1 with h1 h2 h3
      subst h1; subst h3
      have hm : m = 0 := by omega
      subst hm
      have hys : ys = [] := by simpa using hly
      subst hys
      exact ⟨.slice none 0 0, [], w, run_append_nil0 ht hz' hE hul hu, ⟨by simpa using hl, .inl ⟨by simp, rfl, rfl⟩⟩, hs⟩
    · injection h1 with h1 h2 h3
      subst h1; subst h3
      have hlm : (xs ++ more).length = xs.length + more.length := by simp
      have hle : ys.length ≤ more.length := by
        have : (k + m) * sz ≤ cap * sz := Nat.mul_le_mul_right _ hfit
        rw [Nat.add_mul] at this
        omega
      have hst := run_storeCells (P := P) ys 0 (k * sz) b E (xs ++ more) w hs.hd (by rw [hlm]; omega) hc1
      refine ⟨.slice (some ⟨b, 0, none⟩) (k + m) cap, [(b, blk E (xs ++ ys ++ more.drop ys.length))], setRow w b (k * sz + 0) ys, ?_, ⟨by simp [hl, hly, Nat.add_mul], .inr ⟨b, cap, more.drop ys.length, rfl, rfl, ?_⟩⟩, ?_⟩
      · rw [run_append_in ht hz' hE hul hu hfit, hst]
        rfl
      · simp only [List.length_append, List.length_drop] at hcap ⊢
        omega
      · have := Step.row ys (k * sz) (xs ++ more) w hs (by rw [hlm]; omega)
        rw [← hl, splice_end xs more ys hle] at this
        rw [Nat.add_zero, ← hl]
        exact this
  · have hle : k + m ≤ grownCap w (k + m) cap E := by unfold grownCap Question.cut; exact Nat.le_add_right _ _
    refine ⟨_, [(w.heap.size, _)], _, run_append_new ht hz' hE hb0 hul hud (run_firstCells_drew hsl) (by omega) hroom, ⟨by simp [hl, hly, Nat.add_mul], .inr ⟨_, _, _, rfl, rfl, ?_⟩⟩, hs.dropL.drew.alloc _⟩
    simp only [List.length_append, List.length_flatten, List.map_replicate, List.sum_replicate_nat, hl, hly, hzl, ← Nat.add_mul]
    congr 1
    omega

/-- append(v, u...), v our own. -/
theorem WL.append {agg : Bool} {sz bytes k m : Nat} {zs xs ys : List Value} {E T' : TypeId} {v u : Value} {Lv : List (Nat × Obj)} (ht : P.underlying T = some (.slice E)) (ht' : P.underlying T' = some (.slice E)) (hE : Ty P E agg sz bytes zs) (hzl : zs.length = sz) (hb0 : 0 < bytes)
    (hx : ev f x = v) (hy : ev f y = u) (hv : OwnSl E sz v k xs Lv) (hs : Step S (Lv ++ L) w0 w) (hu : Sl w sz u m ys) (hc1 : Cells1 ys) (hroom : (k + m) * bytes ≤ 140737488355328) (hd : Nat.blt d n = true)
    (h : ∀ v' Lv' w', OwnSl E sz v' (k + m) (xs ++ ys) Lv' → Step S (Lv' ++ L) w0 w' → WL P ops Q n rest (upd f d v') ds w') :
    WL P ops Q n (⟨some d, .call { callee := .builtin .append, args := #[x, y], argTypes := #[T, T'] }, ty, pos, af, none⟩ :: rest) f ds w := by
  have hobt := run_append (ty := ty) ht (.inl ⟨E, ht'⟩) hE hzl hb0 hv hs (run_lenOf hu) (run_firstCells hu) (run_firstCells_drew hu) hu.1 hc1 hroom
  obtain ⟨v', Lv', w', hr, ho, hst⟩ := hobt
  refine WL.val hd ?_ (h v' Lv' w' ho hst)
  simp [execOp, hx, hy, resolve, invoke, builtin, hr]

/-- append(v, s...), v our own bytes, s a string. -/
theorem WL.appendStr {bytes k : Nat} {xs : List Value} {E T' : TypeId} {v : Value} {s : List UInt8} {zs : List Value} {Lv : List (Nat × Obj)} (ht : P.underlying T = some (.slice E)) (ht' : P.underlying T' = some .string) (hE : Ty P E false 1 bytes zs) (hzl : zs.length = 1) (hb0 : 0 < bytes)
    (hx : ev f x = v) (hy : ev f y = str s) (hv : OwnSl E 1 v k xs Lv) (hs : Step S (Lv ++ L) w0 w) (hroom : (k + s.length) * bytes ≤ 140737488355328) (hd : Nat.blt d n = true)
    (h : ∀ v' Lv' w', OwnSl E 1 v' (k + s.length) (xs ++ u8s s) Lv' → Step S (Lv' ++ L) w0 w' → WL P ops Q n rest (upd f d v') ds w') :
    WL P ops Q n (⟨some d, .call { callee := .builtin .append, args := #[x, y], argTypes := #[T, T'] }, ty, pos, af, none⟩ :: rest) f ds w := by
  have hex : ∀ W : World, (Builtin.firstCells 1 s.length (str s)).run P W = .ok (u8s s).toArray W := fun W => by
    have : (ByteArray.mk ⟨s⟩).extract 0 s.length = ⟨⟨s⟩⟩ := by
      apply ByteArray.ext
      rw [ByteArray.data_extract]
      simp
    simp [Builtin.firstCells, str, this, u8s]
  have hobt := run_append (ty := ty) (m := s.length) (ys := u8s s) ht (.inr ht') hE hzl hb0 hv hs rfl (hex w) (hex w.drew) (by simp [u8s]) (Cells1.u8s s) hroom
  obtain ⟨v', Lv', w', hr, ho, hst⟩ := hobt
  refine WL.val hd ?_ (h v' Lv' w' ho hst)
  simp [execOp, hx, hy, resolve, invoke, builtin, hr]

/-- copy(v, u): into a block that we own. -/
theorem WL.copy {agg : Bool} {sz bytes len cap m b off : Nat} {zs cs ys : List Value} {E T' Tb : TypeId} {u : Value} {dd : Option Nat} (ht : P.underlying T = some (.slice E)) (hE : Ty P E agg sz bytes zs)
    (hx : ev f x = .slice (some ⟨b, off, none⟩) len cap) (hy : ev f y = u) (hs : Step S ((b, blk Tb cs) :: L) w0 w) (hu : Sl w sz u m ys) (hc1 : Cells1 ys) (hlen : off + len * sz ≤ cs.length) (hd : ∀ k, dd = some k → Nat.blt k n = true)
    (h : ∀ w', Step S ((b, blk Tb (splice cs off (ys.take (min m len * sz)))) :: L) w0 w' → (∀ k, dd = some k → WL P ops Q n rest (upd f k (.int .i64 (min m len : Nat))) ds w') ∧ (dd = none → WL P ops Q n rest f ds w')) :
    WL P ops Q n (⟨dd, .call { callee := .builtin .copy, args := #[x, y], argTypes := #[T, T'] }, ty, pos, af, none⟩ :: rest) f ds w := by
  have hly := hu.1
  have htl : (ys.take (min m len * sz)).length = min m len * sz := by
    rw [List.length_take, hly]
    exact Nat.min_eq_left (Nat.mul_le_mul_right _ (Nat.min_le_left _ _))
  have hle : min m len * sz ≤ len * sz := Nat.mul_le_mul_right _ (Nat.min_le_right _ _)
  have hf : (Builtin.firstCells sz (min m len) u).run P w = .ok (ys.take (min m len * sz)).toArray w := by
    obtain ⟨_, ⟨a, c, rfl, rfl⟩ | ⟨b', off', c, rfl, hat⟩⟩ := hu
    · have : ys = [] := by simpa using hly
      subst this
      cases a <;> simp [Builtin.firstCells, loadCells] <;> rfl
    · have := run_loadCells_at (P := P) (hat.take (min m len * sz))
      rw [htl] at this
      simpa [Builtin.firstCells] using this
  have hst := run_storeCells (P := P) (ys.take (min m len * sz)) 0 off b Tb cs w hs.hd (by rw [htl]; omega) (hc1.take _)
  have hrun : (execOp (ev f) ⟨dd, .call { callee := .builtin .copy, args := #[x, y], argTypes := #[T, T'] }, ty, pos, af, none⟩).run P w = .ok (.value (.int .i64 (min m len : Nat))) (setRow w b (off + 0) (ys.take (min m len * sz))) := by
    have hmin : Nat.min m len = min m len := rfl
    simp [execOp, hx, hy, resolve, invoke, builtin, Builtin.copy_, run_underlying ht, run_sizeOf hE, run_lenOf hu, hmin, hf, hst, goInt]
  have hstep := Step.row (ys.take (min m len * sz)) off cs w hs (by rw [htl]; omega)
  have hobt := h _ hstep
  obtain ⟨h1, h2⟩ := hobt
  cases dd with
  | none => exact WL.drop hrun (h2 rfl)
  | some k => exact WL.val (hd k rfl) hrun (h1 k rfl)

/-- []byte(s) -/
theorem WL.toBytes {E T' : TypeId} {s : List UInt8} (ht : P.underlying T = some .string) (ht' : P.underlying T' = some (.slice E)) (hE : P.underlying E = some (.int .u8))
    (hx : ev f x = str s) (hd : Nat.blt d n = true) (hs : Step S L w0 w)
    (h : ∀ b cap more w', s.length ≤ cap → Step S ((b, blkM E (u8s s ++ more)) :: L) w0 w' → WL P ops Q n rest (upd f d (.slice (some ⟨b, 0, none⟩) s.length cap)) ds w') :
    WL P ops Q n (⟨some d, .convert T T' x, ty, pos, af, none⟩ :: rest) f ds w := by
  have hle : s.length ≤ grownCap w s.length 0 E := by unfold grownCap Question.cut; exact Nat.le_add_right _ _
  have hcells : bytesRow (ByteArray.mk ⟨s⟩) (grownCap w s.length 0 E) = (u8s s ++ List.replicate (grownCap w s.length 0 E - s.length) (Value.int .u8 0)).toArray := by
    apply Array.ext'
    have hsz : (ByteArray.mk ⟨s⟩).size = s.length := rfl
    simp [bytesRow, u8s, hsz]
  have hconv := run_bytes_of_string (P := P) w T T' E (ByteArray.mk ⟨s⟩) ht ht' hE
  have hsz : (ByteArray.mk ⟨s⟩).size = s.length := rfl
  rw [hsz, hcells] at hconv
  refine WL.val hd (v := .slice (some ⟨w.heap.size, 0, none⟩) s.length (grownCap w s.length 0 E)) (w' := w.drew.alloc (blkM E (u8s s ++ List.replicate (grownCap w s.length 0 E - s.length) (Value.int .u8 0)))) ?_ (h _ _ _ _ hle (hs.drew.alloc _))
  simp only [execOp, hx, str, Sem.run_bind, hconv, Result.andThen_ok, Sem.run_pure]
  rfl

theorem push_bytes : ∀ (s acc : List UInt8), (s.map fun c => (c.toNat : Int)).foldl (fun (r : ByteArray) (n : Int) => r.push (UInt8.ofNat n.toNat)) ⟨⟨acc⟩⟩ = ⟨⟨acc ++ s⟩⟩
  | [], acc => by simp
  | c :: s, acc => by
    have : (ByteArray.mk ⟨acc⟩).push (UInt8.ofNat ((c.toNat : Int)).toNat) = ⟨⟨acc ++ [c]⟩⟩ := by
      apply ByteArray.ext
      simp [ByteArray.push]
    simp only [List.map_cons, List.foldl_cons, this]
    rw [push_bytes s (acc ++ [c])]
    simp

/-- string(b) -/
theorem run_toString {E T' : TypeId} {k : Nat} {s : List UInt8} {v : Value} {d : Option Tmp} (ht : P.underlying T = some (.slice E)) (ht' : P.underlying T' = some .string) (hE : P.underlying E = some (.int .u8)) (hx : ev f x = v) (hv : Sl w 1 v k (u8s s)) :
    (execOp (ev f) ⟨d, .convert T T' x, ty, pos, af, none⟩).run P w = .ok (.value (str s)) w := by
  obtain ⟨hl, ⟨a, c, rfl, rfl⟩ | ⟨b, off, c, rfl, hat⟩⟩ := hv
  · have : s = [] := by simpa [u8s] using hl
    subst this
    cases a <;> simp [execOp, hx, convert, run_underlying ht, run_underlying ht', run_underlying hE, Conv.bytesToString, loadCells, str] <;> rfl
  · have hlen : (u8s s).length = k := by simpa using hl
    have hload := run_loadCells_at (P := P) hat
    rw [hlen] at hload
    have hmap : (u8s s) = (s.map fun c => (c.toNat : Int)).map (Value.int .u8) := by simp [u8s]
    rw [hmap] at hload
    have hr := run_bytesToString (P := P) w ⟨b, off, none⟩ k c _ hload
    have he : (ByteArray.empty) = ⟨⟨[]⟩⟩ := rfl
    rw [he, push_bytes, List.nil_append] at hr
    simp [execOp, hx, convert, run_underlying ht, run_underlying ht', run_underlying hE, hr, str]
end

section conds
variable {P : Program} {Q : Post} {n : Nat} {f : Slots} {ds : List Deferred} {w : World}
theorem CW.condP {p : Prop} [Decidable p] {c : Operand} {x y : Code} (hc : ev f c = .bool (decide p)) (ht : p → CW P x Q n f ds w) (hf : ¬ p → CW P y Q n f ds w) : CW P (.cond c x y) Q n f ds w :=
  .cond hc (fun h => ht (of_decide_eq_true h)) (fun h => hf (of_decide_eq_false h))
end conds

/-! ### Regions that draw their order and leave the world alone but for draws and new blocks -/
section quiet
variable {P : Program} {ops : Array Oper} {n : Nat} {rest : List Oper} {f : Slots} {ds : List Deferred} {w w0 : World} {o : Op} {ty : TypeId} {pos : String} {af : Array Edge} {S : List Nat} {L : List (Nat × Obj)} {Q : Slots → Prop}

structure QL (P : Program) (ops : Array Oper) (S : List Nat) (L : List (Nat × Obj)) (w0 : World) (Q : Slots → Prop) (n : Nat) (l : List Oper) (f : Slots) (ds : List Deferred) : Prop where
  out : ∀ a, Rep n f ds a → wpQuiet P ops (fun w => Step S L w0 w) (fun a' => ∃ f', Rep n f' ds a' ∧ Q f') l a

theorem QL.nil (h : Q f) : QL P ops S L w0 Q n [] f ds := ⟨fun a ha => ⟨f, ha, h⟩⟩
theorem QL.val {d : Nat} {v : Value} (hd : Nat.blt d n = true) (hrun : ∀ w, Step S L w0 w → (execOp (ev f) ⟨some d, o, ty, pos, af, none⟩).run P w = .ok (.value v) w)
    (h : QL P ops S L w0 Q n rest (upd f d v) ds) : QL P ops S L w0 Q n (⟨some d, o, ty, pos, af, none⟩ :: rest) f ds :=
  ⟨fun a ha => wpQuiet_step fun K hK => by
    rw [if_pos (by simp [Region.wanted])]
    refine ⟨v, fun w hw => ?_, hK _ (h.out _ (ha.put hd v))⟩
    unfold Oper.quietAt
    rw [ha.eval, hrun w hw]
    exact ⟨rfl, rfl⟩⟩
theorem QL.enter {d : Nat} {F : FuncId} {args : Array Value} {v : Value} (hd : Nat.blt d n = true)
    (hrun : ∀ w, (execOp (ev f) ⟨some d, o, ty, pos, af, none⟩).run P w = .ok (.enter F args) w) (hc : ∀ w, Step S L w0 w → Calls P F args w fun e w' => e = .returned v ∧ Step [] [] w w')
    (h : QL P ops S L w0 Q n rest (upd f d v) ds) : QL P ops S L w0 Q n (⟨some d, o, ty, pos, af, none⟩ :: rest) f ds :=
  ⟨fun a ha => wpQuiet_step fun K hK => by
    rw [if_pos (by simp [Region.wanted])]
    refine ⟨v, fun w hw => ?_, hK _ (h.out _ (ha.put hd v))⟩
    unfold Oper.quietAt
    rw [ha.eval, hrun w]
    exact ⟨rfl, (hc w hw).mono fun e w' ⟨he, hs⟩ => ⟨he, hw.call0 hs⟩⟩⟩
theorem QL.yes {d : Option Nat} {j dj : Nat} {want : Bool} (hj : (ops[j]?).bind (·.dst) = some dj) (hdj : Nat.blt dj n = true) (hv : f dj = .bool want)
    (h : QL P ops S L w0 Q n (⟨d, o, ty, pos, af, none⟩ :: rest) f ds) : QL P ops S L w0 Q n (⟨d, o, ty, pos, af, some (j, want)⟩ :: rest) f ds :=
  ⟨fun a ha => by
    have hy := yielded_rep (ops := ops) ha hj hdj
    rw [hv] at hy
    have := h.out a ha
    simp only [wpQuiet, Region.wanted, hy, beq_self_eq_true, if_true] at this ⊢
    exact this⟩
theorem QL.no {d : Nat} {j dj : Nat} {want : Bool} (hd : Nat.blt d n = true) (hj : (ops[j]?).bind (·.dst) = some dj) (hdj : Nat.blt dj n = true)
    (hv : f dj = .bool (!want) ∨ f dj = undef)
    (h : QL P ops S L w0 Q n rest (upd f d undef) ds) : QL P ops S L w0 Q n (⟨some d, o, ty, pos, af, some (j, want)⟩ :: rest) f ds :=
  ⟨fun a ha => by
    have hy := yielded_rep (ops := ops) ha hj hdj
    have hne : (yielded ops a.tmps j == some want) = false := by
      rw [hy]
      rcases hv with hv | hv
      · rw [hv]; cases want <;> rfl
      · rw [hv]; rfl
    simp only [wpQuiet, Region.wanted, hne, Bool.false_eq_true, if_false]
    exact h.out _ (ha.put hd undef)⟩

theorem CW.quiet {Q : Post} {id : Nat} {l : List Oper} (hm : P.follows .mixedOrders = true) (hB : Region.lexB .any l.toArray = true) (hs : Step S L w0 w)
    (h : QL P l.toArray S L w0 (fun f' => ∀ w', Step S L w0 w' → Q .normal f' ds w') n l f ds) : CW P (.region id l.toArray true) Q n f ds w :=
  ⟨fun a ha => wp_region_quiet (C := fun w => Step S L w0 w) hm hB hs.drew (by
    have hmono : ∀ (l' : List Oper) (a : Act), wpQuiet P l.toArray (fun w => Step S L w0 w) (fun a' => ∃ f', Rep n f' ds a' ∧ ∀ w', Step S L w0 w' → Q .normal f' ds w') l' a → wpQuiet P l.toArray (fun w => Step S L w0 w) (fun a' => ∀ w', Step S L w0 w' → lift n Q .normal a' w') l' a := by
      intro l'
      induction l' with
      | nil => exact fun a ⟨f', hr, hq⟩ w' hw' => ⟨f', ds, hr, hq w' hw'⟩
      | cons o l' ih =>
        intro a hh
        simp only [wpQuiet] at hh ⊢
        split
        · rename_i hw; rw [if_pos hw] at hh; exact Oper.quiet_mono ih hh
        · rename_i hw; rw [if_neg hw] at hh; exact ih _ hh
    exact hmono _ _ (by simpa using h.out a ha))⟩
end quiet

section more
variable {S : List Nat} {L : List (Nat × Obj)} {w w' : World} {b b1 b2 b3 o : Nat} {T : TypeId} {cs : List Value} {v : Value} {o1 o2 o3 : Obj}
theorem Step.c0 (hs : Step S ((b, blk T cs) :: L) w w') (ho : cs[o]? = some v) : w'.cell? ⟨b, o, none⟩ = some v := by rw [cell_blk hs.hd, ho]
theorem Step.c1 (hs : Step S ((b1, o1) :: (b, blk T cs) :: L) w w') (ho : cs[o]? = some v) : w'.cell? ⟨b, o, none⟩ = some v := hs.tail.c0 ho
theorem Step.c2 (hs : Step S ((b1, o1) :: (b2, o2) :: (b, blk T cs) :: L) w w') (ho : cs[o]? = some v) : w'.cell? ⟨b, o, none⟩ = some v := hs.tail.tail.c0 ho
theorem Step.c3 (hs : Step S ((b1, o1) :: (b2, o2) :: (b3, o3) :: (b, blk T cs) :: L) w w') (ho : cs[o]? = some v) : w'.cell? ⟨b, o, none⟩ = some v := hs.tail.tail.tail.c0 ho
theorem Step.a0 (hs : Step S ((b, blk T cs) :: L) w w') : At w' b 0 cs := At.of_blk hs.hd
theorem Step.a1 (hs : Step S ((b1, o1) :: (b, blk T cs) :: L) w w') : At w' b 0 cs := At.of_blk hs.tail.hd
theorem Step.a2 (hs : Step S ((b1, o1) :: (b2, o2) :: (b, blk T cs) :: L) w w') : At w' b 0 cs := At.of_blk hs.tail.tail.hd
theorem Step.at (L1 : List (Nat × Obj)) {L : List (Nat × Obj)} {p : Nat × Obj} (hs : Step S (L1 ++ p :: L) w w') : w'.heap[p.1]? = some p.2 := hs.get (by simp)
theorem Step.setAt (L1 : List (Nat × Obj)) (hs : Step S (L1 ++ (b, blk T cs) :: L) w w') (o : Nat) (v : Value) : Step S (L1 ++ (b, blk T (cs.set o v)) :: L) w (w'.setCell ⟨b, o, none⟩ v) :=
  ((hs.front L1).set o v).perm List.perm_middle.symm
theorem Step.c4 {p1 p2 p3 p4 : Nat × Obj} (hs : Step S (p1 :: p2 :: p3 :: p4 :: (b, blk T cs) :: L) w w') (ho : cs[o]? = some v) : w'.cell? ⟨b, o, none⟩ = some v := hs.tail.tail.tail.tail.c0 ho
theorem Step.c5 {p1 p2 p3 p4 p5 : Nat × Obj} (hs : Step S (p1 :: p2 :: p3 :: p4 :: p5 :: (b, blk T cs) :: L) w w') (ho : cs[o]? = some v) : w'.cell? ⟨b, o, none⟩ = some v := hs.tail.tail.tail.tail.tail.c0 ho
theorem Step.a3 {p1 p2 p3 : Nat × Obj} (hs : Step S (p1 :: p2 :: p3 :: (b, blk T cs) :: L) w w') : At w' b 0 cs := At.of_blk hs.tail.tail.tail.hd
theorem Step.a4 {p1 p2 p3 p4 : Nat × Obj} (hs : Step S (p1 :: p2 :: p3 :: p4 :: (b, blk T cs) :: L) w w') : At w' b 0 cs := At.of_blk hs.tail.tail.tail.tail.hd
theorem Step.a5 {p1 p2 p3 p4 p5 : Nat × Obj} (hs : Step S (p1 :: p2 :: p3 :: p4 :: p5 :: (b, blk T cs) :: L) w w') : At w' b 0 cs := At.of_blk hs.tail.tail.tail.tail.tail.hd
end more

section stores
variable {P : Program} {ops : Array Oper} {Q : Post} {n : Nat} {rest : List Oper} {f : Slots} {ds : List Deferred} {w w0 : World} {ty : TypeId} {pos : String} {af : Array Edge} {x y : Operand} {T : TypeId} {S : List Nat} {L : List (Nat × Obj)}
theorem WL.store1_at (L1 : List (Nat × Obj)) {agg : Bool} {bytes : Nat} {zs cs : List Value} {b o : Nat} {T' : TypeId} {v : Value} (hT : Ty P T agg 1 bytes zs) (hx : ev f x = .pointer (some ⟨b, o, none⟩)) (hy : ev f y = v) (hv : v.oneCell' = true)
    (hs : Step S (L1 ++ (b, blk T' cs) :: L) w0 w) (ho : o < cs.length) (h : ∀ w', Step S (L1 ++ (b, blk T' (cs.set o v)) :: L) w0 w' → WL P ops Q n rest f ds w') : WL P ops Q n (⟨none, .store T x y, ty, pos, af, none⟩ :: rest) f ds w :=
  WL.store1 hT hx hy hv (hs.front L1) ho fun w' hs' => h w' (hs'.perm List.perm_middle.symm)
section
variable {p1 p2 p3 p4 : Nat × Obj} {agg : Bool} {bytes : Nat} {zs cs : List Value} {b o : Nat} {T' : TypeId} {v : Value} (hT : Ty P T agg 1 bytes zs) (hx : ev f x = .pointer (some ⟨b, o, none⟩)) (hy : ev f y = v) (hv : v.oneCell' = true)
include hT hx hy hv
theorem WL.store1_1 (hs : Step S (p1 :: (b, blk T' cs) :: L) w0 w) (ho : o < cs.length) (h : ∀ w', Step S (p1 :: (b, blk T' (cs.set o v)) :: L) w0 w' → WL P ops Q n rest f ds w') : WL P ops Q n (⟨none, .store T x y, ty, pos, af, none⟩ :: rest) f ds w :=
  WL.store1_at [p1] hT hx hy hv hs ho h
theorem WL.store1_2 (hs : Step S (p1 :: p2 :: (b, blk T' cs) :: L) w0 w) (ho : o < cs.length) (h : ∀ w', Step S (p1 :: p2 :: (b, blk T' (cs.set o v)) :: L) w0 w' → WL P ops Q n rest f ds w') : WL P ops Q n (⟨none, .store T x y, ty, pos, af, none⟩ :: rest) f ds w :=
  WL.store1_at [p1, p2] hT hx hy hv hs ho h
theorem WL.store1_3 (hs : Step S (p1 :: p2 :: p3 :: (b, blk T' cs) :: L) w0 w) (ho : o < cs.length) (h : ∀ w', Step S (p1 :: p2 :: p3 :: (b, blk T' (cs.set o v)) :: L) w0 w' → WL P ops Q n rest f ds w') : WL P ops Q n (⟨none, .store T x y, ty, pos, af, none⟩ :: rest) f ds w :=
  WL.store1_at [p1, p2, p3] hT hx hy hv hs ho h
theorem WL.store1_4 (hs : Step S (p1 :: p2 :: p3 :: p4 :: (b, blk T' cs) :: L) w0 w) (ho : o < cs.length) (h : ∀ w', Step S (p1 :: p2 :: p3 :: p4 :: (b, blk T' (cs.set o v)) :: L) w0 w' → WL P ops Q n rest f ds w') : WL P ops Q n (⟨none, .store T x y, ty, pos, af, none⟩ :: rest) f ds w :=
  WL.store1_at [p1, p2, p3, p4] hT hx hy hv hs ho h
end
theorem WL.storeAll_at (L1 : List (Nat × Obj)) {agg : Bool} {k bytes : Nat} {zs cs vs : List Value} {b : Nat} {T' : TypeId} (hT : Ty P T agg k bytes zs) (hx : ev f x = .pointer (some ⟨b, 0, none⟩)) (hy : ev f y = .agg vs.toArray) (hl : vs.length = k) (hv : Cells1 vs)
    (hs : Step S (L1 ++ (b, blk T' cs) :: L) w0 w) (hc : cs.length = k) (h : ∀ w', Step S (L1 ++ (b, blk T' vs) :: L) w0 w' → WL P ops Q n rest f ds w') : WL P ops Q n (⟨none, .store T x y, ty, pos, af, none⟩ :: rest) f ds w :=
  WL.storeAll hT hx hy hl hv (hs.front L1) hc fun w' hs' => h w' (hs'.perm List.perm_middle.symm)
section
variable {p1 p2 p3 p4 : Nat × Obj} {agg : Bool} {k bytes : Nat} {zs cs vs : List Value} {b : Nat} {T' : TypeId} (hT : Ty P T agg k bytes zs) (hx : ev f x = .pointer (some ⟨b, 0, none⟩)) (hy : ev f y = .agg vs.toArray) (hl : vs.length = k) (hv : Cells1 vs)
include hT hx hy hl hv
theorem WL.storeAll_1 (hs : Step S (p1 :: (b, blk T' cs) :: L) w0 w) (hc : cs.length = k) (h : ∀ w', Step S (p1 :: (b, blk T' vs) :: L) w0 w' → WL P ops Q n rest f ds w') : WL P ops Q n (⟨none, .store T x y, ty, pos, af, none⟩ :: rest) f ds w :=
  WL.storeAll_at [p1] hT hx hy hl hv hs hc h
theorem WL.storeAll_2 (hs : Step S (p1 :: p2 :: (b, blk T' cs) :: L) w0 w) (hc : cs.length = k) (h : ∀ w', Step S (p1 :: p2 :: (b, blk T' vs) :: L) w0 w' → WL P ops Q n rest f ds w') : WL P ops Q n (⟨none, .store T x y, ty, pos, af, none⟩ :: rest) f ds w :=
  WL.storeAll_at [p1, p2] hT hx hy hl hv hs hc h
theorem WL.storeAll_3 (hs : Step S (p1 :: p2 :: p3 :: (b, blk T' cs) :: L) w0 w) (hc : cs.length = k) (h : ∀ w', Step S (p1 :: p2 :: p3 :: (b, blk T' vs) :: L) w0 w' → WL P ops Q n rest f ds w') : WL P ops Q n (⟨none, .store T x y, ty, pos, af, none⟩ :: rest) f ds w :=
  WL.storeAll_at [p1, p2, p3] hT hx hy hl hv hs hc h
theorem WL.storeAll_4 (hs : Step S (p1 :: p2 :: p3 :: p4 :: (b, blk T' cs) :: L) w0 w) (hc : cs.length = k) (h : ∀ w', Step S (p1 :: p2 :: p3 :: p4 :: (b, blk T' vs) :: L) w0 w' → WL P ops Q n rest f ds w') : WL P ops Q n (⟨none, .store T x y, ty, pos, af, none⟩ :: rest) f ds w :=
  WL.storeAll_at [p1, p2, p3, p4] hT hx hy hl hv hs hc h
end
end stores
end Go.Gx
/-! Tab -/
namespace Go.Gx
open Go.Proofs
set_option maxRecDepth 100000
theorem ty1 : Ty Try.prog 1 false 1 8 [.nilFunc] := ty_of (z := .nilFunc) Try.underlying1 rfl (by kernel_rfl) rfl rfl
theorem ty2 : Ty Try.prog 2 false 1 8 [.int .i64 0] := ty_of (z := .int .i64 0) Try.underlying2 rfl (by kernel_rfl) rfl rfl
theorem ty3 : Ty Try.prog 3 false 1 8 [.int .i64 0] := ty_of (z := .int .i64 0) Try.underlying3 rfl (by kernel_rfl) rfl rfl
theorem ty4 : Ty Try.prog 4 false 1 1 [.bool false] := ty_of (z := .bool false) Try.underlying4 rfl (by kernel_rfl) rfl rfl
theorem ty5 : Ty Try.prog 5 false 1 1 [.int .u8 0] := ty_of (z := .int .u8 0) Try.underlying5 rfl (by kernel_rfl) rfl rfl
theorem ty6 : Ty Try.prog 6 false 1 1 [.int .u8 0] := ty_of (z := .int .u8 0) Try.underlying6 rfl (by kernel_rfl) rfl rfl
theorem ty7 : Ty Try.prog 7 true 4 24 [.int .i64 0, .int .i64 0, .bool false, .int .u8 0] := ty_of (z := .agg ([.int .i64 0, .int .i64 0, .bool false, .int .u8 0]).toArray) Try.underlying7 rfl (by kernel_rfl) rfl rfl
theorem ty8 : Ty Try.prog 8 true 4 24 [.int .i64 0, .int .i64 0, .bool false, .int .u8 0] := ty_of (z := .agg ([.int .i64 0, .int .i64 0, .bool false, .int .u8 0]).toArray) Try.underlying8 rfl (by kernel_rfl) rfl rfl
theorem ty9 : Ty Try.prog 9 false 1 16 [str []] := ty_of (z := str []) Try.underlying9 rfl (by kernel_rfl) rfl rfl
theorem ty10 : Ty Try.prog 10 false 1 16 [str []] := ty_of (z := str []) Try.underlying10 rfl (by kernel_rfl) rfl rfl
theorem ty11 : Ty Try.prog 11 false 1 16 [str []] := ty_of (z := str []) Try.underlying11 rfl (by kernel_rfl) rfl rfl
theorem ty12 : Ty Try.prog 12 false 1 8 [.int .u64 0] := ty_of (z := .int .u64 0) Try.underlying12 rfl (by kernel_rfl) rfl rfl
theorem ty13 : Ty Try.prog 13 true 2 24 [str [], .int .u64 0] := ty_of (z := .agg ([str [], .int .u64 0]).toArray) Try.underlying13 rfl (by kernel_rfl) rfl rfl
theorem ty14 : Ty Try.prog 14 true 2 24 [str [], .int .u64 0] := ty_of (z := .agg ([str [], .int .u64 0]).toArray) Try.underlying14 rfl (by kernel_rfl) rfl rfl
theorem ty15 : Ty Try.prog 15 false 1 8 [.pointer none] := ty_of (z := .pointer none) Try.underlying15 rfl (by kernel_rfl) rfl rfl
theorem ty16 : Ty Try.prog 16 false 1 8 [.pointer none] := ty_of (z := .pointer none) Try.underlying16 rfl (by kernel_rfl) rfl rfl
theorem ty17 : Ty Try.prog 17 false 1 8 [.pointer none] := ty_of (z := .pointer none) Try.underlying17 rfl (by kernel_rfl) rfl rfl
theorem ty18 : Ty Try.prog 18 true 1 8 [.pointer none] := ty_of (z := .agg ([.pointer none]).toArray) Try.underlying18 rfl (by kernel_rfl) rfl rfl
theorem ty19 : Ty Try.prog 19 true 1 8 [.pointer none] := ty_of (z := .agg ([.pointer none]).toArray) Try.underlying19 rfl (by kernel_rfl) rfl rfl
theorem ty20 : Ty Try.prog 20 false 1 16 [.nilIface] := ty_of (z := .nilIface) Try.underlying20 rfl (by kernel_rfl) rfl rfl
theorem ty21 : Ty Try.prog 21 false 1 4 [.int .i32 0] := ty_of (z := .int .i32 0) Try.underlying21 rfl (by kernel_rfl) rfl rfl
theorem ty22 : Ty Try.prog 22 false 1 24 [.slice none 0 0] := ty_of (z := .slice none 0 0) Try.underlying22 rfl (by kernel_rfl) rfl rfl
theorem ty23 : Ty Try.prog 23 false 1 8 [.nilFunc] := ty_of (z := .nilFunc) Try.underlying23 rfl (by kernel_rfl) rfl rfl
theorem ty24 : Ty Try.prog 24 false 1 8 [.pointer none] := ty_of (z := .pointer none) Try.underlying24 rfl (by kernel_rfl) rfl rfl
theorem ty25 : Ty Try.prog 25 false 1 8 [.nilFunc] := ty_of (z := .nilFunc) Try.underlying25 rfl (by kernel_rfl) rfl rfl
theorem ty26 : Ty Try.prog 26 true 32 32 (List.replicate 32 (Value.int .u8 0)) := ty_of (z := .agg ((List.replicate 32 (Value.int .u8 0))).toArray) Try.underlying26 rfl (by kernel_rfl) rfl rfl
theorem ty27 : Ty Try.prog 27 true 32 32 (List.replicate 32 (Value.int .u8 0)) := ty_of (z := .agg ((List.replicate 32 (Value.int .u8 0))).toArray) Try.underlying27 rfl (by kernel_rfl) rfl rfl
theorem ty28 : Ty Try.prog 28 false 1 8 [.int .i64 0] := ty_of (z := .int .i64 0) Try.underlying28 rfl (by kernel_rfl) rfl rfl
theorem ty30 : Ty Try.prog 30 false 1 8 [.nilFunc] := ty_of (z := .nilFunc) Try.underlying30 rfl (by kernel_rfl) rfl rfl
theorem ty31 : Ty Try.prog 31 false 1 8 [.nilFunc] := ty_of (z := .nilFunc) Try.underlying31 rfl (by kernel_rfl) rfl rfl
theorem ty32 : Ty Try.prog 32 false 1 8 [.nilFunc] := ty_of (z := .nilFunc) Try.underlying32 rfl (by kernel_rfl) rfl rfl
theorem ty33 : Ty Try.prog 33 false 1 8 [.nilFunc] := ty_of (z := .nilFunc) Try.underlying33 rfl (by kernel_rfl) rfl rfl
theorem ty34 : Ty Try.prog 34 false 1 8 [.nilFunc] := ty_of (z := .nilFunc) Try.underlying34 rfl (by kernel_rfl) rfl rfl
theorem ty36 : Ty Try.prog 36 false 1 8 [.nilFunc] := ty_of (z := .nilFunc) Try.underlying36 rfl (by kernel_rfl) rfl rfl
theorem ty37 : Ty Try.prog 37 false 1 8 [.nilFunc] := ty_of (z := .nilFunc) Try.underlying37 rfl (by kernel_rfl) rfl rfl
theorem ty39 : Ty Try.prog 39 false 1 8 [.nilFunc] := ty_of (z := .nilFunc) Try.underlying39 rfl (by kernel_rfl) rfl rfl
theorem ty40 : Ty Try.prog 40 false 1 8 [.nilFunc] := ty_of (z := .nilFunc) Try.underlying40 rfl (by kernel_rfl) rfl rfl
theorem ty42 : Ty Try.prog 42 false 1 8 [.nilFunc] := ty_of (z := .nilFunc) Try.underlying42 rfl (by kernel_rfl) rfl rfl
theorem ty43 : Ty Try.prog 43 false 1 8 [.nilFunc] := ty_of (z := .nilFunc) Try.underlying43 rfl (by kernel_rfl) rfl rfl
theorem ty44 : Ty Try.prog 44 false 1 8 [.nilFunc] := ty_of (z := .nilFunc) Try.underlying44 rfl (by kernel_rfl) rfl rfl
theorem ty45 : Ty Try.prog 45 false 1 8 [.nilFunc] := ty_of (z := .nilFunc) Try.underlying45 rfl (by kernel_rfl) rfl rfl
theorem ty46 : Ty Try.prog 46 false 1 24 [.slice none 0 0] := ty_of (z := .slice none 0 0) Try.underlying46 rfl (by kernel_rfl) rfl rfl
theorem ty47 : Ty Try.prog 47 true 37 104 ([Value.int .i64 0, Value.slice none 0 0, Value.slice none 0 0] ++ List.replicate 32 (Value.int .u8 0) ++ [Value.bool false, Value.int .i64 0]) := ty_of (z := .agg (([Value.int .i64 0, Value.slice none 0 0, Value.slice none 0 0] ++ List.replicate 32 (Value.int .u8 0) ++ [Value.bool false, Value.int .i64 0])).toArray) Try.underlying47 rfl (by kernel_rfl) rfl rfl
theorem ty48 : Ty Try.prog 48 true 37 104 ([Value.int .i64 0, Value.slice none 0 0, Value.slice none 0 0] ++ List.replicate 32 (Value.int .u8 0) ++ [Value.bool false, Value.int .i64 0]) := ty_of (z := .agg (([Value.int .i64 0, Value.slice none 0 0, Value.slice none 0 0] ++ List.replicate 32 (Value.int .u8 0) ++ [Value.bool false, Value.int .i64 0])).toArray) Try.underlying48 rfl (by kernel_rfl) rfl rfl
theorem ty49 : Ty Try.prog 49 false 1 8 [.nilFunc] := ty_of (z := .nilFunc) Try.underlying49 rfl (by kernel_rfl) rfl rfl
theorem ty50 : Ty Try.prog 50 false 1 8 [.nilFunc] := ty_of (z := .nilFunc) Try.underlying50 rfl (by kernel_rfl) rfl rfl
theorem ty51 : Ty Try.prog 51 false 1 24 [.slice none 0 0] := ty_of (z := .slice none 0 0) Try.underlying51 rfl (by kernel_rfl) rfl rfl
theorem ty52 : Ty Try.prog 52 true 33 56 (List.replicate 32 (Value.int .u8 0) ++ [Value.slice none 0 0]) := ty_of (z := .agg ((List.replicate 32 (Value.int .u8 0) ++ [Value.slice none 0 0])).toArray) Try.underlying52 rfl (by kernel_rfl) rfl rfl
theorem ty53 : Ty Try.prog 53 true 33 56 (List.replicate 32 (Value.int .u8 0) ++ [Value.slice none 0 0]) := ty_of (z := .agg ((List.replicate 32 (Value.int .u8 0) ++ [Value.slice none 0 0])).toArray) Try.underlying53 rfl (by kernel_rfl) rfl rfl
theorem ty54 : Ty Try.prog 54 false 1 8 [.nilFunc] := ty_of (z := .nilFunc) Try.underlying54 rfl (by kernel_rfl) rfl rfl
theorem ty55 : Ty Try.prog 55 false 1 8 [.nilFunc] := ty_of (z := .nilFunc) Try.underlying55 rfl (by kernel_rfl) rfl rfl
theorem ty56 : Ty Try.prog 56 false 1 8 [.nilFunc] := ty_of (z := .nilFunc) Try.underlying56 rfl (by kernel_rfl) rfl rfl
theorem ty57 : Ty Try.prog 57 false 1 8 [.pointer none] := ty_of (z := .pointer none) Try.underlying57 rfl (by kernel_rfl) rfl rfl
theorem ty59 : Ty Try.prog 59 false 1 8 [.nilFunc] := ty_of (z := .nilFunc) Try.underlying59 rfl (by kernel_rfl) rfl rfl
theorem ty60 : Ty Try.prog 60 false 1 8 [.nilFunc] := ty_of (z := .nilFunc) Try.underlying60 rfl (by kernel_rfl) rfl rfl
theorem ty61 : Ty Try.prog 61 false 1 8 [.nilFunc] := ty_of (z := .nilFunc) Try.underlying61 rfl (by kernel_rfl) rfl rfl
theorem ty62 : Ty Try.prog 62 false 1 8 [.pointer none] := ty_of (z := .pointer none) Try.underlying62 rfl (by kernel_rfl) rfl rfl
theorem ty63 : Ty Try.prog 63 true 3 40 [.pointer none, .pointer none, .slice none 0 0] := ty_of (z := .agg ([.pointer none, .pointer none, .slice none 0 0]).toArray) Try.underlying63 rfl (by kernel_rfl) rfl rfl
theorem ty64 : Ty Try.prog 64 true 3 40 [.pointer none, .pointer none, .slice none 0 0] := ty_of (z := .agg ([.pointer none, .pointer none, .slice none 0 0]).toArray) Try.underlying64 rfl (by kernel_rfl) rfl rfl
theorem ty65 : Ty Try.prog 65 true 2 16 [.int .i64 0, .int .i64 0] := ty_of (z := .agg ([.int .i64 0, .int .i64 0]).toArray) Try.underlying65 rfl (by kernel_rfl) rfl rfl
theorem ty66 : Ty Try.prog 66 true 2 16 [.int .i64 0, .int .i64 0] := ty_of (z := .agg ([.int .i64 0, .int .i64 0]).toArray) Try.underlying66 rfl (by kernel_rfl) rfl rfl
theorem ty67 : Ty Try.prog 67 false 1 8 [.nilFunc] := ty_of (z := .nilFunc) Try.underlying67 rfl (by kernel_rfl) rfl rfl
theorem ty68 : Ty Try.prog 68 false 1 24 [.slice none 0 0] := ty_of (z := .slice none 0 0) Try.underlying68 rfl (by kernel_rfl) rfl rfl
theorem ty69 : Ty Try.prog 69 true 6 64 [.int .i64 0, .int .i64 0, .int .i64 0, .slice none 0 0, .int .i64 0, .int .i64 0] := ty_of (z := .agg ([.int .i64 0, .int .i64 0, .int .i64 0, .slice none 0 0, .int .i64 0, .int .i64 0]).toArray) Try.underlying69 rfl (by kernel_rfl) rfl rfl
theorem ty70 : Ty Try.prog 70 true 6 64 [.int .i64 0, .int .i64 0, .int .i64 0, .slice none 0 0, .int .i64 0, .int .i64 0] := ty_of (z := .agg ([.int .i64 0, .int .i64 0, .int .i64 0, .slice none 0 0, .int .i64 0, .int .i64 0]).toArray) Try.underlying70 rfl (by kernel_rfl) rfl rfl
theorem ty71 : Ty Try.prog 71 false 1 8 [.nilFunc] := ty_of (z := .nilFunc) Try.underlying71 rfl (by kernel_rfl) rfl rfl
theorem ty72 : Ty Try.prog 72 false 1 8 [.nilFunc] := ty_of (z := .nilFunc) Try.underlying72 rfl (by kernel_rfl) rfl rfl
theorem ty73 : Ty Try.prog 73 false 1 8 [.nilFunc] := ty_of (z := .nilFunc) Try.underlying73 rfl (by kernel_rfl) rfl rfl
theorem ty74 : Ty Try.prog 74 false 1 8 [.nilFunc] := ty_of (z := .nilFunc) Try.underlying74 rfl (by kernel_rfl) rfl rfl
theorem ty75 : Ty Try.prog 75 true 34 64 (List.replicate 32 (Value.int .u8 0) ++ [Value.slice none 0 0, Value.int .i64 0]) := ty_of (z := .agg ((List.replicate 32 (Value.int .u8 0) ++ [Value.slice none 0 0, Value.int .i64 0])).toArray) Try.underlying75 rfl (by kernel_rfl) rfl rfl
theorem ty76 : Ty Try.prog 76 true 34 64 (List.replicate 32 (Value.int .u8 0) ++ [Value.slice none 0 0, Value.int .i64 0]) := ty_of (z := .agg ((List.replicate 32 (Value.int .u8 0) ++ [Value.slice none 0 0, Value.int .i64 0])).toArray) Try.underlying76 rfl (by kernel_rfl) rfl rfl
theorem ty77 : Ty Try.prog 77 false 1 8 [.nilFunc] := ty_of (z := .nilFunc) Try.underlying77 rfl (by kernel_rfl) rfl rfl
theorem ty78 : Ty Try.prog 78 false 1 24 [.slice none 0 0] := ty_of (z := .slice none 0 0) Try.underlying78 rfl (by kernel_rfl) rfl rfl
theorem ty79 : Ty Try.prog 79 false 1 8 [.nilFunc] := ty_of (z := .nilFunc) Try.underlying79 rfl (by kernel_rfl) rfl rfl
theorem ty80 : Ty Try.prog 80 false 1 8 [.nilFunc] := ty_of (z := .nilFunc) Try.underlying80 rfl (by kernel_rfl) rfl rfl
theorem ty81 : Ty Try.prog 81 false 1 8 [.map none] := ty_of (z := .map none) Try.underlying81 rfl (by kernel_rfl) rfl rfl
theorem ty82 : Ty Try.prog 82 true 7 56 [.int .i64 0, .int .i64 0, .int .i64 0, .int .i64 0, .map none, .int .i64 0, .int .i64 0] := ty_of (z := .agg ([.int .i64 0, .int .i64 0, .int .i64 0, .int .i64 0, .map none, .int .i64 0, .int .i64 0]).toArray) Try.underlying82 rfl (by kernel_rfl) rfl rfl
theorem ty83 : Ty Try.prog 83 true 7 56 [.int .i64 0, .int .i64 0, .int .i64 0, .int .i64 0, .map none, .int .i64 0, .int .i64 0] := ty_of (z := .agg ([.int .i64 0, .int .i64 0, .int .i64 0, .int .i64 0, .map none, .int .i64 0, .int .i64 0]).toArray) Try.underlying83 rfl (by kernel_rfl) rfl rfl
theorem ty84 : Ty Try.prog 84 true 2 32 [.slice none 0 0, .int .i64 0] := ty_of (z := .agg ([.slice none 0 0, .int .i64 0]).toArray) Try.underlying84 rfl (by kernel_rfl) rfl rfl
theorem ty85 : Ty Try.prog 85 true 2 32 [.slice none 0 0, .int .i64 0] := ty_of (z := .agg ([.slice none 0 0, .int .i64 0]).toArray) Try.underlying85 rfl (by kernel_rfl) rfl rfl
theorem ty87 : Ty Try.prog 87 true 32 32 (List.replicate 32 (Value.int .u8 0)) := ty_of (z := .agg ((List.replicate 32 (Value.int .u8 0))).toArray) Try.underlying87 rfl (by kernel_rfl) rfl rfl
theorem ty88 : Ty Try.prog 88 false 1 8 [.nilFunc] := ty_of (z := .nilFunc) Try.underlying88 rfl (by kernel_rfl) rfl rfl
theorem ty89 : Ty Try.prog 89 false 1 8 [.nilFunc] := ty_of (z := .nilFunc) Try.underlying89 rfl (by kernel_rfl) rfl rfl
theorem ty90 : Ty Try.prog 90 false 1 8 [.nilFunc] := ty_of (z := .nilFunc) Try.underlying90 rfl (by kernel_rfl) rfl rfl
theorem ty91 : Ty Try.prog 91 false 1 8 [.nilFunc] := ty_of (z := .nilFunc) Try.underlying91 rfl (by kernel_rfl) rfl rfl
theorem ty92 : Ty Try.prog 92 false 1 8 [.nilFunc] := ty_of (z := .nilFunc) Try.underlying92 rfl (by kernel_rfl) rfl rfl
theorem ty93 : Ty Try.prog 93 false 1 8 [.nilFunc] := ty_of (z := .nilFunc) Try.underlying93 rfl (by kernel_rfl) rfl rfl
theorem ty94 : Ty Try.prog 94 false 1 8 [.nilFunc] := ty_of (z := .nilFunc) Try.underlying94 rfl (by kernel_rfl) rfl rfl
theorem ty95 : Ty Try.prog 95 false 1 8 [.nilFunc] := ty_of (z := .nilFunc) Try.underlying95 rfl (by kernel_rfl) rfl rfl
theorem ty97 : Ty Try.prog 97 false 1 8 [.nilFunc] := ty_of (z := .nilFunc) Try.underlying97 rfl (by kernel_rfl) rfl rfl
theorem ty98 : Ty Try.prog 98 false 1 8 [.nilFunc] := ty_of (z := .nilFunc) Try.underlying98 rfl (by kernel_rfl) rfl rfl
theorem ty99 : Ty Try.prog 99 false 1 24 [.slice none 0 0] := ty_of (z := .slice none 0 0) Try.underlying99 rfl (by kernel_rfl) rfl rfl
theorem ty100 : Ty Try.prog 100 true 33 56 (List.replicate 32 (Value.int .u8 0) ++ [Value.slice none 0 0]) := ty_of (z := .agg ((List.replicate 32 (Value.int .u8 0) ++ [Value.slice none 0 0])).toArray) Try.underlying100 rfl (by kernel_rfl) rfl rfl
theorem ty101 : Ty Try.prog 101 true 33 56 (List.replicate 32 (Value.int .u8 0) ++ [Value.slice none 0 0]) := ty_of (z := .agg ((List.replicate 32 (Value.int .u8 0) ++ [Value.slice none 0 0])).toArray) Try.underlying101 rfl (by kernel_rfl) rfl rfl
theorem ty102 : Ty Try.prog 102 false 1 8 [.nilFunc] := ty_of (z := .nilFunc) Try.underlying102 rfl (by kernel_rfl) rfl rfl
theorem ty103 : Ty Try.prog 103 false 1 8 [.nilFunc] := ty_of (z := .nilFunc) Try.underlying103 rfl (by kernel_rfl) rfl rfl
theorem ty104 : Ty Try.prog 104 false 1 8 [.nilFunc] := ty_of (z := .nilFunc) Try.underlying104 rfl (by kernel_rfl) rfl rfl
theorem ty105 : Ty Try.prog 105 false 1 8 [.nilFunc] := ty_of (z := .nilFunc) Try.underlying105 rfl (by kernel_rfl) rfl rfl
theorem ty107 : Ty Try.prog 107 false 1 8 [.nilFunc] := ty_of (z := .nilFunc) Try.underlying107 rfl (by kernel_rfl) rfl rfl
theorem ty108 : Ty Try.prog 108 false 1 8 [.nilFunc] := ty_of (z := .nilFunc) Try.underlying108 rfl (by kernel_rfl) rfl rfl
theorem ty109 : Ty Try.prog 109 false 1 24 [.slice none 0 0] := ty_of (z := .slice none 0 0) Try.underlying109 rfl (by kernel_rfl) rfl rfl
theorem ty110 : Ty Try.prog 110 false 1 8 [.pointer none] := ty_of (z := .pointer none) Try.underlying110 rfl (by kernel_rfl) rfl rfl
theorem ty111 : Ty Try.prog 111 false 1 8 [.nilFunc] := ty_of (z := .nilFunc) Try.underlying111 rfl (by kernel_rfl) rfl rfl
theorem ty112 : Ty Try.prog 112 false 1 8 [.nilFunc] := ty_of (z := .nilFunc) Try.underlying112 rfl (by kernel_rfl) rfl rfl
theorem ty113 : Ty Try.prog 113 false 1 8 [.nilFunc] := ty_of (z := .nilFunc) Try.underlying113 rfl (by kernel_rfl) rfl rfl
theorem ty114 : Ty Try.prog 114 false 1 8 [.nilFunc] := ty_of (z := .nilFunc) Try.underlying114 rfl (by kernel_rfl) rfl rfl
theorem ty116 : Ty Try.prog 116 false 1 8 [.nilFunc] := ty_of (z := .nilFunc) Try.underlying116 rfl (by kernel_rfl) rfl rfl
theorem ty117 : Ty Try.prog 117 false 1 8 [.nilFunc] := ty_of (z := .nilFunc) Try.underlying117 rfl (by kernel_rfl) rfl rfl
theorem ty119 : Ty Try.prog 119 false 1 8 [.nilFunc] := ty_of (z := .nilFunc) Try.underlying119 rfl (by kernel_rfl) rfl rfl
theorem ty120 : Ty Try.prog 120 false 1 8 [.nilFunc] := ty_of (z := .nilFunc) Try.underlying120 rfl (by kernel_rfl) rfl rfl
theorem ty121 : Ty Try.prog 121 false 1 8 [.nilFunc] := ty_of (z := .nilFunc) Try.underlying121 rfl (by kernel_rfl) rfl rfl
theorem ty122 : Ty Try.prog 122 false 1 8 [.int .u64 0] := ty_of (z := .int .u64 0) Try.underlying122 rfl (by kernel_rfl) rfl rfl
theorem ty123 : Ty Try.prog 123 false 1 8 [.nilFunc] := ty_of (z := .nilFunc) Try.underlying123 rfl (by kernel_rfl) rfl rfl
theorem ty124 : Ty Try.prog 124 false 1 4 [.int .u32 0] := ty_of (z := .int .u32 0) Try.underlying124 rfl (by kernel_rfl) rfl rfl
theorem ty125 : Ty Try.prog 125 true 8 32 [.int .u32 0, .int .u32 0, .int .u32 0, .int .u32 0, .int .u32 0, .int .u32 0, .int .u32 0, .int .u32 0] := ty_of (z := .agg ([.int .u32 0, .int .u32 0, .int .u32 0, .int .u32 0, .int .u32 0, .int .u32 0, .int .u32 0, .int .u32 0]).toArray) Try.underlying125 rfl (by kernel_rfl) rfl rfl
theorem ty126 : Ty Try.prog 126 false 1 8 [.nilFunc] := ty_of (z := .nilFunc) Try.underlying126 rfl (by kernel_rfl) rfl rfl
theorem ty127 : Ty Try.prog 127 true 64 64 (List.replicate 64 (Value.int .u8 0)) := ty_of (z := .agg ((List.replicate 64 (Value.int .u8 0))).toArray) Try.underlying127 rfl (by kernel_rfl) rfl rfl
theorem ty128 : Ty Try.prog 128 true 74 112 (List.replicate 8 (Value.int .u32 0) ++ [Value.bool false] ++ List.replicate 64 (Value.int .u8 0) ++ [Value.int .i64 0]) := ty_of (z := .agg ((List.replicate 8 (Value.int .u32 0) ++ [Value.bool false] ++ List.replicate 64 (Value.int .u8 0) ++ [Value.int .i64 0])).toArray) Try.underlying128 rfl (by kernel_rfl) rfl rfl
theorem ty129 : Ty Try.prog 129 true 74 112 (List.replicate 8 (Value.int .u32 0) ++ [Value.bool false] ++ List.replicate 64 (Value.int .u8 0) ++ [Value.int .i64 0]) := ty_of (z := .agg ((List.replicate 8 (Value.int .u32 0) ++ [Value.bool false] ++ List.replicate 64 (Value.int .u8 0) ++ [Value.int .i64 0])).toArray) Try.underlying129 rfl (by kernel_rfl) rfl rfl
theorem ty130 : Ty Try.prog 130 false 1 8 [.int .u64 0] := ty_of (z := .int .u64 0) Try.underlying130 rfl (by kernel_rfl) rfl rfl
theorem ty131 : Ty Try.prog 131 false 1 8 [.nilFunc] := ty_of (z := .nilFunc) Try.underlying131 rfl (by kernel_rfl) rfl rfl
theorem ty133 : Ty Try.prog 133 false 1 8 [.nilFunc] := ty_of (z := .nilFunc) Try.underlying133 rfl (by kernel_rfl) rfl rfl
theorem ty134 : Ty Try.prog 134 false 1 8 [.nilFunc] := ty_of (z := .nilFunc) Try.underlying134 rfl (by kernel_rfl) rfl rfl
theorem ty135 : Ty Try.prog 135 false 1 8 [.nilFunc] := ty_of (z := .nilFunc) Try.underlying135 rfl (by kernel_rfl) rfl rfl
theorem ty136 : Ty Try.prog 136 false 1 8 [.nilFunc] := ty_of (z := .nilFunc) Try.underlying136 rfl (by kernel_rfl) rfl rfl
theorem ty137 : Ty Try.prog 137 false 1 8 [.int .i64 0] := ty_of (z := .int .i64 0) Try.underlying137 rfl (by kernel_rfl) rfl rfl
theorem ty139 : Ty Try.prog 139 false 1 8 [.nilFunc] := ty_of (z := .nilFunc) Try.underlying139 rfl (by kernel_rfl) rfl rfl
theorem ty140 : Ty Try.prog 140 false 1 8 [.nilFunc] := ty_of (z := .nilFunc) Try.underlying140 rfl (by kernel_rfl) rfl rfl
theorem ty141 : Ty Try.prog 141 false 1 8 [.nilFunc] := ty_of (z := .nilFunc) Try.underlying141 rfl (by kernel_rfl) rfl rfl
theorem ty142 : Ty Try.prog 142 false 1 8 [.nilFunc] := ty_of (z := .nilFunc) Try.underlying142 rfl (by kernel_rfl) rfl rfl
theorem ty143 : Ty Try.prog 143 false 1 8 [.nilFunc] := ty_of (z := .nilFunc) Try.underlying143 rfl (by kernel_rfl) rfl rfl
theorem ty144 : Ty Try.prog 144 false 1 8 [.nilFunc] := ty_of (z := .nilFunc) Try.underlying144 rfl (by kernel_rfl) rfl rfl
theorem ty145 : Ty Try.prog 145 true 64 256 (List.replicate 64 (Value.int .u32 0)) := ty_of (z := .agg ((List.replicate 64 (Value.int .u32 0))).toArray) Try.underlying145 rfl (by kernel_rfl) rfl rfl
theorem ty146 : Ty Try.prog 146 false 1 8 [.nilFunc] := ty_of (z := .nilFunc) Try.underlying146 rfl (by kernel_rfl) rfl rfl
theorem ty147 : Ty Try.prog 147 false 1 8 [.nilFunc] := ty_of (z := .nilFunc) Try.underlying147 rfl (by kernel_rfl) rfl rfl
theorem ty148 : Ty Try.prog 148 false 1 8 [.nilFunc] := ty_of (z := .nilFunc) Try.underlying148 rfl (by kernel_rfl) rfl rfl
theorem ty149 : Ty Try.prog 149 false 1 24 [.slice none 0 0] := ty_of (z := .slice none 0 0) Try.underlying149 rfl (by kernel_rfl) rfl rfl
theorem ty150 : Ty Try.prog 150 false 1 8 [.nilFunc] := ty_of (z := .nilFunc) Try.underlying150 rfl (by kernel_rfl) rfl rfl
theorem ty151 : Ty Try.prog 151 false 1 8 [.int .u64 0] := ty_of (z := .int .u64 0) Try.underlying151 rfl (by kernel_rfl) rfl rfl
theorem ty152 : Ty Try.prog 152 false 1 8 [.nilFunc] := ty_of (z := .nilFunc) Try.underlying152 rfl (by kernel_rfl) rfl rfl
theorem ty153 : Ty Try.prog 153 false 1 8 [.nilFunc] := ty_of (z := .nilFunc) Try.underlying153 rfl (by kernel_rfl) rfl rfl
theorem ty154 : Ty Try.prog 154 false 1 8 [.nilFunc] := ty_of (z := .nilFunc) Try.underlying154 rfl (by kernel_rfl) rfl rfl
theorem ty155 : Ty Try.prog 155 false 1 8 [.pointer none] := ty_of (z := .pointer none) Try.underlying155 rfl (by kernel_rfl) rfl rfl
theorem ty156 : Ty Try.prog 156 false 1 8 [.nilFunc] := ty_of (z := .nilFunc) Try.underlying156 rfl (by kernel_rfl) rfl rfl
theorem ty157 : Ty Try.prog 157 false 1 8 [.pointer none] := ty_of (z := .pointer none) Try.underlying157 rfl (by kernel_rfl) rfl rfl
theorem ty159 : Ty Try.prog 159 false 1 8 [.nilFunc] := ty_of (z := .nilFunc) Try.underlying159 rfl (by kernel_rfl) rfl rfl
theorem ty160 : Ty Try.prog 160 false 1 8 [.nilFunc] := ty_of (z := .nilFunc) Try.underlying160 rfl (by kernel_rfl) rfl rfl
theorem ty161 : Ty Try.prog 161 true 4 40 [.pointer none, .pointer none, .pointer none, str []] := ty_of (z := .agg ([.pointer none, .pointer none, .pointer none, str []]).toArray) Try.underlying161 rfl (by kernel_rfl) rfl rfl
theorem ty162 : Ty Try.prog 162 true 4 40 [.pointer none, .pointer none, .pointer none, str []] := ty_of (z := .agg ([.pointer none, .pointer none, .pointer none, str []]).toArray) Try.underlying162 rfl (by kernel_rfl) rfl rfl
theorem ty163 : Ty Try.prog 163 true 0 0 [] := ty_of (z := .agg ([]).toArray) Try.underlying163 rfl (by kernel_rfl) rfl rfl
theorem ty164 : Ty Try.prog 164 true 0 0 [] := ty_of (z := .agg ([]).toArray) Try.underlying164 rfl (by kernel_rfl) rfl rfl
theorem ty165 : Ty Try.prog 165 true 0 0 [] := ty_of (z := .agg ([]).toArray) Try.underlying165 rfl (by kernel_rfl) rfl rfl
theorem ty166 : Ty Try.prog 166 false 1 1 [.int .u8 0] := ty_of (z := .int .u8 0) Try.underlying166 rfl (by kernel_rfl) rfl rfl
theorem ty167 : Ty Try.prog 167 false 1 1 [.int .u8 0] := ty_of (z := .int .u8 0) Try.underlying167 rfl (by kernel_rfl) rfl rfl
theorem ty168 : Ty Try.prog 168 false 1 8 [.nilFunc] := ty_of (z := .nilFunc) Try.underlying168 rfl (by kernel_rfl) rfl rfl
theorem ty169 : Ty Try.prog 169 false 1 8 [.pointer none] := ty_of (z := .pointer none) Try.underlying169 rfl (by kernel_rfl) rfl rfl
theorem ty170 : Ty Try.prog 170 false 1 4 [.int .i32 0] := ty_of (z := .int .i32 0) Try.underlying170 rfl (by kernel_rfl) rfl rfl
theorem ty171 : Ty Try.prog 171 false 1 4 [.int .i32 0] := ty_of (z := .int .i32 0) Try.underlying171 rfl (by kernel_rfl) rfl rfl
theorem ty172 : Ty Try.prog 172 true 11 48 ([Value.int .u64 0, Value.int .u64 0, Value.int .u32 0, Value.int .u8 0, Value.int .u8 0, Value.int .u8 0, Value.int .u8 0, Value.nilFunc, Value.pointer none, Value.int .i32 0, Value.int .i32 0]) := ty_of (z := .agg (([Value.int .u64 0, Value.int .u64 0, Value.int .u32 0, Value.int .u8 0, Value.int .u8 0, Value.int .u8 0, Value.int .u8 0, Value.nilFunc, Value.pointer none, Value.int .i32 0, Value.int .i32 0])).toArray) Try.underlying172 rfl (by kernel_rfl) rfl rfl
theorem ty173 : Ty Try.prog 173 true 11 48 ([Value.int .u64 0, Value.int .u64 0, Value.int .u32 0, Value.int .u8 0, Value.int .u8 0, Value.int .u8 0, Value.int .u8 0, Value.nilFunc, Value.pointer none, Value.int .i32 0, Value.int .i32 0]) := ty_of (z := .agg (([Value.int .u64 0, Value.int .u64 0, Value.int .u32 0, Value.int .u8 0, Value.int .u8 0, Value.int .u8 0, Value.int .u8 0, Value.nilFunc, Value.pointer none, Value.int .i32 0, Value.int .i32 0])).toArray) Try.underlying173 rfl (by kernel_rfl) rfl rfl
theorem en2 : En Try.prog 2 := ⟨Try.f2, Try.func2, rfl, by kernel_rfl⟩
theorem en3 : En Try.prog 3 := ⟨Try.f3, Try.func3, rfl, by kernel_rfl⟩
theorem en4 : En Try.prog 4 := ⟨Try.f4, Try.func4, rfl, by kernel_rfl⟩
theorem en5 : En Try.prog 5 := ⟨Try.f5, Try.func5, rfl, by kernel_rfl⟩
theorem en6 : En Try.prog 6 := ⟨Try.f6, Try.func6, rfl, by kernel_rfl⟩
theorem en7 : En Try.prog 7 := ⟨Try.f7, Try.func7, rfl, by kernel_rfl⟩
theorem en8 : En Try.prog 8 := ⟨Try.f8, Try.func8, rfl, by kernel_rfl⟩
theorem en9 : En Try.prog 9 := ⟨Try.f9, Try.func9, rfl, by kernel_rfl⟩
theorem en10 : En Try.prog 10 := ⟨Try.f10, Try.func10, rfl, by kernel_rfl⟩
theorem en11 : En Try.prog 11 := ⟨Try.f11, Try.func11, rfl, by kernel_rfl⟩
theorem en12 : En Try.prog 12 := ⟨Try.f12, Try.func12, rfl, by kernel_rfl⟩
theorem en13 : En Try.prog 13 := ⟨Try.f13, Try.func13, rfl, by kernel_rfl⟩
theorem en14 : En Try.prog 14 := ⟨Try.f14, Try.func14, rfl, by kernel_rfl⟩
theorem en15 : En Try.prog 15 := ⟨Try.f15, Try.func15, rfl, by kernel_rfl⟩
theorem en16 : En Try.prog 16 := ⟨Try.f16, Try.func16, rfl, by kernel_rfl⟩
theorem en17 : En Try.prog 17 := ⟨Try.f17, Try.func17, rfl, by kernel_rfl⟩
theorem en18 : En Try.prog 18 := ⟨Try.f18, Try.func18, rfl, by kernel_rfl⟩
theorem en19 : En Try.prog 19 := ⟨Try.f19, Try.func19, rfl, by kernel_rfl⟩
theorem en20 : En Try.prog 20 := ⟨Try.f20, Try.func20, rfl, by kernel_rfl⟩
theorem en21 : En Try.prog 21 := ⟨Try.f21, Try.func21, rfl, by kernel_rfl⟩
theorem en22 : En Try.prog 22 := ⟨Try.f22, Try.func22, rfl, by kernel_rfl⟩
theorem en23 : En Try.prog 23 := ⟨Try.f23, Try.func23, rfl, by kernel_rfl⟩
theorem en24 : En Try.prog 24 := ⟨Try.f24, Try.func24, rfl, by kernel_rfl⟩
theorem en25 : En Try.prog 25 := ⟨Try.f25, Try.func25, rfl, by kernel_rfl⟩
theorem en26 : En Try.prog 26 := ⟨Try.f26, Try.func26, rfl, by kernel_rfl⟩
theorem en27 : En Try.prog 27 := ⟨Try.f27, Try.func27, rfl, by kernel_rfl⟩
theorem en28 : En Try.prog 28 := ⟨Try.f28, Try.func28, rfl, by kernel_rfl⟩
theorem en29 : En Try.prog 29 := ⟨Try.f29, Try.func29, rfl, by kernel_rfl⟩
theorem en30 : En Try.prog 30 := ⟨Try.f30, Try.func30, rfl, by kernel_rfl⟩
theorem en31 : En Try.prog 31 := ⟨Try.f31, Try.func31, rfl, by kernel_rfl⟩
theorem en32 : En Try.prog 32 := ⟨Try.f32, Try.func32, rfl, by kernel_rfl⟩
theorem en33 : En Try.prog 33 := ⟨Try.f33, Try.func33, rfl, by kernel_rfl⟩
theorem en34 : En Try.prog 34 := ⟨Try.f34, Try.func34, rfl, by kernel_rfl⟩
theorem en35 : En Try.prog 35 := ⟨Try.f35, Try.func35, rfl, by kernel_rfl⟩
theorem en36 : En Try.prog 36 := ⟨Try.f36, Try.func36, rfl, by kernel_rfl⟩
theorem en37 : En Try.prog 37 := ⟨Try.f37, Try.func37, rfl, by kernel_rfl⟩
theorem en38 : En Try.prog 38 := ⟨Try.f38, Try.func38, rfl, by kernel_rfl⟩
theorem en39 : En Try.prog 39 := ⟨Try.f39, Try.func39, rfl, by kernel_rfl⟩
theorem en40 : En Try.prog 40 := ⟨Try.f40, Try.func40, rfl, by kernel_rfl⟩
theorem en41 : En Try.prog 41 := ⟨Try.f41, Try.func41, rfl, by kernel_rfl⟩
theorem en42 : En Try.prog 42 := ⟨Try.f42, Try.func42, rfl, by kernel_rfl⟩
theorem en43 : En Try.prog 43 := ⟨Try.f43, Try.func43, rfl, by kernel_rfl⟩
theorem en44 : En Try.prog 44 := ⟨Try.f44, Try.func44, rfl, by kernel_rfl⟩
theorem en45 : En Try.prog 45 := ⟨Try.f45, Try.func45, rfl, by kernel_rfl⟩
theorem en46 : En Try.prog 46 := ⟨Try.f46, Try.func46, rfl, by kernel_rfl⟩
theorem en47 : En Try.prog 47 := ⟨Try.f47, Try.func47, rfl, by kernel_rfl⟩
theorem en48 : En Try.prog 48 := ⟨Try.f48, Try.func48, rfl, by kernel_rfl⟩
theorem en49 : En Try.prog 49 := ⟨Try.f49, Try.func49, rfl, by kernel_rfl⟩
theorem en50 : En Try.prog 50 := ⟨Try.f50, Try.func50, rfl, by kernel_rfl⟩
theorem en51 : En Try.prog 51 := ⟨Try.f51, Try.func51, rfl, by kernel_rfl⟩
theorem en52 : En Try.prog 52 := ⟨Try.f52, Try.func52, rfl, by kernel_rfl⟩
theorem en53 : En Try.prog 53 := ⟨Try.f53, Try.func53, rfl, by kernel_rfl⟩
theorem en54 : En Try.prog 54 := ⟨Try.f54, Try.func54, rfl, by kernel_rfl⟩
theorem en55 : En Try.prog 55 := ⟨Try.f55, Try.func55, rfl, by kernel_rfl⟩
theorem en56 : En Try.prog 56 := ⟨Try.f56, Try.func56, rfl, by kernel_rfl⟩
theorem en57 : En Try.prog 57 := ⟨Try.f57, Try.func57, rfl, by kernel_rfl⟩
theorem en58 : En Try.prog 58 := ⟨Try.f58, Try.func58, rfl, by kernel_rfl⟩
theorem en59 : En Try.prog 59 := ⟨Try.f59, Try.func59, rfl, by kernel_rfl⟩
theorem en60 : En Try.prog 60 := ⟨Try.f60, Try.func60, rfl, by kernel_rfl⟩
theorem en61 : En Try.prog 61 := ⟨Try.f61, Try.func61, rfl, by kernel_rfl⟩
theorem en62 : En Try.prog 62 := ⟨Try.f62, Try.func62, rfl, by kernel_rfl⟩
theorem en63 : En Try.prog 63 := ⟨Try.f63, Try.func63, rfl, by kernel_rfl⟩
theorem en64 : En Try.prog 64 := ⟨Try.f64, Try.func64, rfl, by kernel_rfl⟩
theorem en65 : En Try.prog 65 := ⟨Try.f65, Try.func65, rfl, by kernel_rfl⟩
theorem en66 : En Try.prog 66 := ⟨Try.f66, Try.func66, rfl, by kernel_rfl⟩
theorem en67 : En Try.prog 67 := ⟨Try.f67, Try.func67, rfl, by kernel_rfl⟩
theorem en68 : En Try.prog 68 := ⟨Try.f68, Try.func68, rfl, by kernel_rfl⟩
theorem en69 : En Try.prog 69 := ⟨Try.f69, Try.func69, rfl, by kernel_rfl⟩
theorem en70 : En Try.prog 70 := ⟨Try.f70, Try.func70, rfl, by kernel_rfl⟩
theorem en71 : En Try.prog 71 := ⟨Try.f71, Try.func71, rfl, by kernel_rfl⟩
theorem en72 : En Try.prog 72 := ⟨Try.f72, Try.func72, rfl, by kernel_rfl⟩
theorem en73 : En Try.prog 73 := ⟨Try.f73, Try.func73, rfl, by kernel_rfl⟩
theorem en74 : En Try.prog 74 := ⟨Try.f74, Try.func74, rfl, by kernel_rfl⟩
theorem en75 : En Try.prog 75 := ⟨Try.f75, Try.func75, rfl, by kernel_rfl⟩
theorem en76 : En Try.prog 76 := ⟨Try.f76, Try.func76, rfl, by kernel_rfl⟩
theorem en77 : En Try.prog 77 := ⟨Try.f77, Try.func77, rfl, by kernel_rfl⟩
theorem en78 : En Try.prog 78 := ⟨Try.f78, Try.func78, rfl, by kernel_rfl⟩
theorem en79 : En Try.prog 79 := ⟨Try.f79, Try.func79, rfl, by kernel_rfl⟩
theorem en80 : En Try.prog 80 := ⟨Try.f80, Try.func80, rfl, by kernel_rfl⟩
theorem en81 : En Try.prog 81 := ⟨Try.f81, Try.func81, rfl, by kernel_rfl⟩
theorem en82 : En Try.prog 82 := ⟨Try.f82, Try.func82, rfl, by kernel_rfl⟩
theorem en83 : En Try.prog 83 := ⟨Try.f83, Try.func83, rfl, by kernel_rfl⟩
theorem en84 : En Try.prog 84 := ⟨Try.f84, Try.func84, rfl, by kernel_rfl⟩
theorem en85 : En Try.prog 85 := ⟨Try.f85, Try.func85, rfl, by kernel_rfl⟩
theorem en86 : En Try.prog 86 := ⟨Try.f86, Try.func86, rfl, by kernel_rfl⟩
theorem en87 : En Try.prog 87 := ⟨Try.f87, Try.func87, rfl, by kernel_rfl⟩
theorem en88 : En Try.prog 88 := ⟨Try.f88, Try.func88, rfl, by kernel_rfl⟩
theorem en89 : En Try.prog 89 := ⟨Try.f89, Try.func89, rfl, by kernel_rfl⟩
theorem en90 : En Try.prog 90 := ⟨Try.f90, Try.func90, rfl, by kernel_rfl⟩
theorem en91 : En Try.prog 91 := ⟨Try.f91, Try.func91, rfl, by kernel_rfl⟩
theorem en92 : En Try.prog 92 := ⟨Try.f92, Try.func92, rfl, by kernel_rfl⟩
theorem en93 : En Try.prog 93 := ⟨Try.f93, Try.func93, rfl, by kernel_rfl⟩
theorem en94 : En Try.prog 94 := ⟨Try.f94, Try.func94, rfl, by kernel_rfl⟩
theorem en96 : En Try.prog 96 := ⟨Try.f96, Try.func96, rfl, by kernel_rfl⟩
theorem en97 : En Try.prog 97 := ⟨Try.f97, Try.func97, rfl, by kernel_rfl⟩
theorem en98 : En Try.prog 98 := ⟨Try.f98, Try.func98, rfl, by kernel_rfl⟩
theorem en99 : En Try.prog 99 := ⟨Try.f99, Try.func99, rfl, by kernel_rfl⟩
theorem en100 : En Try.prog 100 := ⟨Try.f100, Try.func100, rfl, by kernel_rfl⟩
theorem en101 : En Try.prog 101 := ⟨Try.f101, Try.func101, rfl, by kernel_rfl⟩
theorem en102 : En Try.prog 102 := ⟨Try.f102, Try.func102, rfl, by kernel_rfl⟩
theorem en103 : En Try.prog 103 := ⟨Try.f103, Try.func103, rfl, by kernel_rfl⟩
theorem en104 : En Try.prog 104 := ⟨Try.f104, Try.func104, rfl, by kernel_rfl⟩
theorem en105 : En Try.prog 105 := ⟨Try.f105, Try.func105, rfl, by kernel_rfl⟩
theorem en106 : En Try.prog 106 := ⟨Try.f106, Try.func106, rfl, by kernel_rfl⟩
theorem en107 : En Try.prog 107 := ⟨Try.f107, Try.func107, rfl, by kernel_rfl⟩
theorem mixedP : Try.prog.follows .mixedOrders = true := by kernel_rfl
end Go.Gx
/-! Any -/
namespace Go.Gx
set_option linter.unusedVariables false
set_option linter.unusedSimpArgs false

section any
variable {P : Program} {ops : Array Oper} {Q : Exit → Act → World → Prop} {md : Region.Mode} {A C : World → Prop}

/-- As 'wpAny', and A holds at each stage, and as long as operation s has not run, C. -/
def wpAnyI (P : Program) (md : Region.Mode) (ops : Array Oper) (Q : Exit → Act → World → Prop) (s : Nat) (A C : World → Prop) : Nat → Array Bool → Act → World → Prop
  | 0, listed, a, w => (A w ∧ (listed.getD s false = false → C w)) ∧ Region.ready md ops listed = [] ∧ Q .normal a w
  | fuel + 1, listed, a, w => (A w ∧ (listed.getD s false = false → C w)) ∧ (Region.ready md ops listed = [] → Q .normal a w) ∧
    ∀ i ∈ Region.ready md ops listed, wpOp P ops Q i (wpAnyI P md ops Q s A C fuel (listed.setIfInBounds i true)) a w

theorem wpAnyI.here {s : Nat} : ∀ {fuel : Nat} {listed : Array Bool} {a : Act} {w : World}, wpAnyI P md ops Q s A C fuel listed a w → A w ∧ (listed.getD s false = false → C w)
  | 0, _, _, _, h => h.1
  | _ + 1, _, _, _, h => h.1

theorem wpAnyI.relax {s s' : Nat} {C' : World → Prop} : ∀ {fuel : Nat} {listed : Array Bool} {a : Act} {w : World}, listed.getD s false = true → wpAnyI P md ops Q s' A C' fuel listed a w → wpAnyI P md ops Q s A C fuel listed a w
  | 0, _, _, _, hu, h => ⟨⟨h.1.1, fun h0 => (by rw [hu] at h0; cases h0)⟩, h.2.1, h.2.2⟩
  | _ + 1, _, _, _, hu, h => ⟨⟨h.1.1, fun h0 => (by rw [hu] at h0; cases h0)⟩, h.2.1, fun i hi => wpOp_mono (fun _ _ h' => wpAnyI.relax (getD_set_true hu) h') (h.2.2 i hi)⟩

theorem wpAnyI.any {s : Nat} : ∀ {fuel : Nat} {listed : Array Bool} {a : Act} {w : World}, wpAnyI P md ops Q s A C fuel listed a w → wpAny P md ops Q fuel listed a w
  | 0, _, _, _, h => h.2
  | _ + 1, _, _, _, h => ⟨h.2.1, fun i hi => wpOp_mono (fun _ _ h' => wpAnyI.any h') (h.2.2 i hi)⟩

def YieldsC (P : Program) (ops : Array Oper) (C : World → Prop) (o : Oper) (v : Value) (a : Act) : Prop :=
  (Region.wanted o (yielded ops a.tmps) = true ∧ ∀ w, C w → (execOp a.eval o).run P w = .ok (.value v) w) ∨
  (Region.wanted o (yielded ops a.tmps) = false ∧ v = undef)

theorem YieldsC.wpOp {i : Nat} {o : Oper} {v : Value} {a : Act} (hi : ops[i]? = some o) (hy : YieldsC P ops C o v a)
    {K : Act → World → Prop} {w : World} (hC : C w) (h : K (a.put o.dst v) w) : wpOp P ops Q i K a w := by
  unfold Go.wpOp
  simp only [hi]
  rcases hy with ⟨hw, hv⟩ | ⟨hw, rfl⟩
  · simp only [hw, if_true, Oper.wp, hv w hC, Oper.upon]; exact .inl h
  · simp only [hw, Bool.false_eq_true, if_false]; exact h

theorem YieldsC.of_same {o : Oper} {v : Value} {a a' : Act} (hy : YieldsC P ops C o v a) (he : execOp a'.eval o = execOp a.eval o)
    (hw : Region.wanted o (yielded ops a'.tmps) = Region.wanted o (yielded ops a.tmps)) : YieldsC P ops C o v a' := by
  unfold YieldsC at *
  rw [he, hw]
  exact hy

theorem wpOp_putC {j : Nat} {oi oj : Oper} {v : Value} (hj : ops[j]? = some oj) (hap : oi.apart ops oj = true)
    (hsi : ∀ cs b, oi.op ≠ .select cs b) (hsj : ∀ cs b, oj.op ≠ .select cs b)
    (hQ : ∀ c a w, Q (.panic c) (a.put oi.dst v) w → Q (.panic c) a w) {K : Act → World → Prop} {a : Act} {w : World}
    (hy : YieldsC P ops C oi v a) (h : wpOp P ops Q j K (a.put oi.dst v) w) :
    wpOp P ops Q j (fun a' w' => YieldsC P ops C oi v a' ∧ K (a'.put oi.dst v) w') a w := by
  have hobt := Oper.apart_spec hap
  obtain ⟨h1, h2, h3⟩ := hobt
  have keep : ∀ (a : Act), YieldsC P ops C oi v a → ∀ u, YieldsC P ops C oi v (a.put oj.dst u) := fun a hy u =>
    hy.of_same (execOp_put oi hsi a oj.dst u h3) (wanted_put oi a oj.dst u h3)
  have keepD : ∀ d, YieldsC P ops C oi v { a with defers := d :: a.defers } := fun d => hy.of_same rfl rfl
  unfold wpOp at *
  simp only [hj] at *
  rw [wanted_put oj a oi.dst v h1] at h
  split
  · rename_i hw
    simp only [hw, if_true] at h
    rcases h with h | ⟨hasks, hlets⟩
    case inr => exact .inr ⟨by unfold Oper.asks at *; rw [execOp_put oj hsj a oi.dst v h1] at hasks; exact hasks, hlets⟩
    refine .inl ?_
    unfold Oper.wp at *
    rw [execOp_put oj hsj a oi.dst v h1] at h
    generalize (execOp a.eval oj).run P w = r at *
    cases r with
    | ok n w' =>
      cases n <;> simp only [Oper.upon] at h ⊢
      case value u => exact ⟨keep a hy u, by rw [← Act.put_comm a v u h2]; exact h⟩
      case skip => exact ⟨keep a hy _, by rw [← Act.put_comm a v undef h2]; exact h⟩
      case defer d =>
        refine ⟨keep _ (keepD d) _, ?_⟩
        rw [← Act.put_comm _ v undef h2, ← Act.put_defers]
        exact h
      case enter f args =>
        refine Calls.mono h fun e w'' he => ?_
        cases e with
        | returned u => exact ⟨keep a hy u, by rw [← Act.put_comm a v u h2]; exact he⟩
        | panicked c => exact hQ _ _ _ he
        | outgrown => exact he
      case row row args => exact Rows.mono h fun u w'' he => ⟨keep a hy u, by rw [← Act.put_comm a v u h2]; exact he⟩
    | halt x w' =>
      cases x <;> simp only [Oper.upon] at h ⊢
      case panic u => exact hQ _ _ _ h
  · rename_i hw
    simp only [hw] at h
    exact ⟨keep a hy _, by rw [← Act.put_comm a v undef h2]; exact h⟩

/-- Operation s (if there is one) comes behind i. -/
def endsBehind (md : Region.Mode) (ops : Array Oper) (i s : Nat) : Bool := match ops[s]? with
  | some os => os.after.any fun e => Region.binds md e && e.on == i
  | none => true

theorem wpAnyI_first {s i : Nat} {oi : Oper} {v : Value} {D : World → Prop} (J : Array Bool → Prop) (hi : ops[i]? = some oi) (hsel : ∀ (j : Nat) (o : Oper) cs b, ops[j]? = some o → o.op ≠ .select cs b)
    (hJ : ∀ listed j, J listed → i ∈ Region.ready md ops listed → j ∈ Region.ready md ops listed → j ≠ i → J (listed.setIfInBounds j true))
    (hD : ∀ listed w, J listed → A w ∧ ((listed.setIfInBounds i true).getD s false = false → C w) → D w ∧ (listed.getD s false = false → C w))
    (hQ : ∀ c a w, Q (.panic c) (a.put oi.dst v) w → Q (.panic c) a w) :
    ∀ (fuel : Nat) (listed : Array Bool) (a : Act) (w : World), J listed →
      (∀ j oj, ops[j]? = some oj → j ≠ i → listed.getD j true = false → (∀ e ∈ oj.after, Region.binds md e = true → e.on ≠ i) → oi.apart ops oj = true) →
      i ∈ Region.ready md ops listed → YieldsC P ops D oi v a →
      wpAnyI P md ops Q s A C fuel (listed.setIfInBounds i true) (a.put oi.dst v) w → wpAnyI P md ops Q s A C (fuel + 1) listed a w := by
  intro fuel
  induction fuel with
  | zero =>
    intro listed a w hu _ hr hy H
    have hC := hD listed w hu H.1
    refine ⟨⟨H.1.1, hC.2⟩, fun h => (by rw [h] at hr; cases hr), fun j hj => ?_⟩
    by_cases hji : j = i
    · subst hji; exact hy.wpOp hi hC.1 H
    · have := ready_mono hj hji
      rw [H.2.1] at this
      cases this
  | succ fuel ih =>
    intro listed a w hu hfree hr hy H
    have hC := hD listed w hu H.1
    refine ⟨⟨H.1.1, hC.2⟩, fun h => (by rw [h] at hr; cases hr), fun j hj => ?_⟩
    by_cases hji : j = i
    · subst hji; exact hy.wpOp hi hC.1 H
    · have h1 := H.2.2 j (ready_mono hj hji)
      have hobt := mem_ready.1 hj
      obtain ⟨hjun, oj, hoj, hall⟩ := hobt
      have hnot : ∀ e ∈ oj.after, Region.binds md e = true → e.on ≠ i := fun e he hb heq => by
        have h1 := hall e he hb
        have h0 := (mem_ready.1 hr).1
        rw [heq] at h1
        rcases Nat.lt_or_ge i listed.size with h' | h'
        · simp [h'] at h0 h1; rw [h0] at h1; cases h1
        · simp [Array.getElem?_eq_none h'] at h1
      have h2 := wpOp_putC hoj (hfree j oj hoj hji hjun hnot) (fun cs b => hsel i oi cs b hi) (fun cs b => hsel j oj cs b hoj) hQ hy h1
      have hfree' : ∀ k ok, ops[k]? = some ok → k ≠ i → (listed.setIfInBounds j true).getD k true = false →
          (∀ e ∈ ok.after, Region.binds md e = true → e.on ≠ i) → oi.apart ops ok = true := fun k ok hk hki hun hno => by
        refine hfree k ok hk hki ?_ hno
        by_cases hjk : j = k
        · subst hjk; exact hjun
        · rw [getD_set_ne true hjk] at hun; exact hun
      refine wpOp_mono (fun a' w' h3 => ih (listed.setIfInBounds j true) a' w' (hJ listed j hu hr hj hji) hfree' (ready_mono hr (Ne.symm hji)) h3.1 ?_) h2
      rw [Array.setIfInBounds_comm _ _ hji]
      exact h3.2

/-- What yields as long as s has not run, where s comes behind it. -/
theorem wpAnyI_firstC {s i : Nat} {oi : Oper} {v : Value} (hi : ops[i]? = some oi) (hsel : ∀ (j : Nat) (o : Oper) cs b, ops[j]? = some o → o.op ≠ .select cs b)
    (hs : endsBehind md ops i s = true) (his : i ≠ s) (hQ : ∀ c a w, Q (.panic c) (a.put oi.dst v) w → Q (.panic c) a w) {fuel : Nat} {listed : Array Bool} {a : Act} {w : World} (hu : listed.getD s false = false)
    (hf : ∀ j oj, ops[j]? = some oj → j ≠ i → listed.getD j true = false → (∀ e ∈ oj.after, Region.binds md e = true → e.on ≠ i) → oi.apart ops oj = true)
    (hr : i ∈ Region.ready md ops listed) (hy : YieldsC P ops C oi v a) (h : wpAnyI P md ops Q s A C fuel (listed.setIfInBounds i true) (a.put oi.dst v) w) : wpAnyI P md ops Q s A C (fuel + 1) listed a w :=
  wpAnyI_first (D := C) (fun listed => listed.getD s false = false) hi hsel (fun listed j hJ hri hrj hji => by
    have hjs : j ≠ s := fun e => by
      subst e
      have hobt := mem_ready.1 hrj
      obtain ⟨_, oj, hoj, hall⟩ := hobt
      simp only [endsBehind, hoj] at hs
      have hobt := Array.any_eq_true'.1 hs
      obtain ⟨e, he, hb⟩ := hobt
      simp only [Bool.and_eq_true, beq_iff_eq] at hb
      have h1 := hall e he hb.1
      have h0 := (mem_ready.1 hri).1
      rw [hb.2] at h1
      rcases Nat.lt_or_ge i listed.size with h' | h'
      · simp [h'] at h0 h1; rw [h0] at h1; cases h1
      · simp [Array.getElem?_eq_none h'] at h1
    show (listed.setIfInBounds j true).getD s false = false
    rw [getD_set_ne false hjs]; exact hJ) (fun listed w hJ h => by
    have := h.2 (by rw [getD_set_ne false his]; exact hJ)
    exact ⟨this, fun _ => this⟩) hQ fuel listed a w hu hf hr hy h

/-- What yields at each stage. -/
theorem wpAnyI_firstA {s i : Nat} {oi : Oper} {v : Value} (hi : ops[i]? = some oi) (hsel : ∀ (j : Nat) (o : Oper) cs b, ops[j]? = some o → o.op ≠ .select cs b)
    (his : i ≠ s) (hQ : ∀ c a w, Q (.panic c) (a.put oi.dst v) w → Q (.panic c) a w) {fuel : Nat} {listed : Array Bool} {a : Act} {w : World}
    (hf : ∀ j oj, ops[j]? = some oj → j ≠ i → listed.getD j true = false → (∀ e ∈ oj.after, Region.binds md e = true → e.on ≠ i) → oi.apart ops oj = true)
    (hr : i ∈ Region.ready md ops listed) (hy : YieldsC P ops A oi v a) (h : wpAnyI P md ops Q s A C fuel (listed.setIfInBounds i true) (a.put oi.dst v) w) : wpAnyI P md ops Q s A C (fuel + 1) listed a w :=
  wpAnyI_first (D := A) (fun _ => True) hi hsel (fun _ _ _ _ _ _ => trivial) (fun listed w _ h => ⟨h.1, fun h0 => h.2 (by rw [getD_set_ne false his]; exact h0)⟩) hQ fuel listed a w trivial hf hr hy h
end any

/-! ### The same over slots -/
def lst (n : Nat) (done : List Nat) : Array Bool := done.foldr (fun i l => l.setIfInBounds i true) (Array.replicate n false)

section al
variable {P : Program} {ops : Array Oper} {n : Nat} {f : Slots} {ds : List Deferred} {w : World} {A C : World → Prop} {s : Nat} {Qn : Slots → World → Prop} {Qp : List PanicEntry → World → Prop}

def anyPost (n : Nat) (ds : List Deferred) (Qn : Slots → World → Prop) (Qp : List PanicEntry → World → Prop) : Exit → Act → World → Prop
  | .normal, a, w => ∃ f, Rep n f ds a ∧ Qn f w
  | .panic c, a, w => a.tmps.size = n ∧ a.defers = ds ∧ Qp c w
  | _, _, _ => False

structure AL (P : Program) (ops : Array Oper) (s : Nat) (A C : World → Prop) (Qn : Slots → World → Prop) (Qp : List PanicEntry → World → Prop) (n : Nat) (ds : List Deferred) (fuel : Nat) (done : List Nat) (f : Slots) (w : World) : Prop where
  out : ∀ a, Rep n f ds a → wpAnyI P .any ops (anyPost n ds Qn Qp) s A C fuel (lst ops.size done) a w

def quietAt (ops : Array Oper) (s : Nat) (done : List Nat) (i : Nat) : Bool := endsBehind .any ops i s && i != s && !(lst ops.size done).getD s false && Region.noSelect ops && Region.free .any ops (lst ops.size done) i && (Region.ready .any ops (lst ops.size done)).contains i

/-- Nothing is asked behind s: the same check without it. -/
def quietA (ops : Array Oper) (s : Nat) (done : List Nat) (i : Nat) : Bool := i != s && Region.noSelect ops && Region.free .any ops (lst ops.size done) i && (Region.ready .any ops (lst ops.size done)).contains i

theorem AL.panicKept {o : Option Tmp} {v : Value} : ∀ (c : List PanicEntry) (a : Act) (w : World), anyPost n ds Qn Qp (.panic c) (a.put o v) w → anyPost n ds Qn Qp (.panic c) a w := by
  rintro c a' w' ⟨h1, h2, h3⟩
  refine ⟨?_, ?_, h3⟩
  · rw [← h1]; cases o <;> simp [Act.put]
  · rw [← h2]; cases o <;> rfl

theorem AL.first {fuel : Nat} {done : List Nat} (i : Nat) {oi : Oper} {v : Value} {f' : Slots} (hi : ops[i]? = some oi) (hq : quietAt ops s done i = true)
    (hrep : ∀ a, Rep n f ds a → Rep n f' ds (a.put oi.dst v)) (hy : ∀ a, Rep n f ds a → YieldsC P ops C oi v a)
    (h : AL P ops s A C Qn Qp n ds fuel (i :: done) f' w) : AL P ops s A C Qn Qp n ds (fuel + 1) done f w := by
  simp only [quietAt, Bool.and_eq_true, bne_iff_ne, Bool.not_eq_true'] at hq
  obtain ⟨⟨⟨⟨⟨hq1, hq2⟩, hq3⟩, hq4⟩, hq5⟩, hq6⟩ := hq
  exact ⟨fun a ha => wpAnyI_firstC hi (Region.noSelect_spec hq4) hq1 hq2 AL.panicKept hq3 (Region.free_spec hi hq5) (by simpa using hq6) (hy a ha) (h.out _ (hrep a ha))⟩
theorem AL.firstA {fuel : Nat} {done : List Nat} (i : Nat) {oi : Oper} {v : Value} {f' : Slots} (hi : ops[i]? = some oi) (hq : quietA ops s done i = true)
    (hrep : ∀ a, Rep n f ds a → Rep n f' ds (a.put oi.dst v)) (hy : ∀ a, Rep n f ds a → YieldsC P ops A oi v a)
    (h : AL P ops s A C Qn Qp n ds fuel (i :: done) f' w) : AL P ops s A C Qn Qp n ds (fuel + 1) done f w := by
  simp only [quietA, Bool.and_eq_true, bne_iff_ne] at hq
  obtain ⟨⟨⟨hq2, hq4⟩, hq5⟩, hq6⟩ := hq
  exact ⟨fun a ha => wpAnyI_firstA hi (Region.noSelect_spec hq4) hq2 AL.panicKept (Region.free_spec hi hq5) (by simpa using hq6) (hy a ha) (h.out _ (hrep a ha))⟩

section
variable {o : Op} {ty : TypeId} {pos : String} {af : Array Edge} {fuel : Nat} {done : List Nat}

theorem AL.val (i : Nat) {d : Nat} {v : Value} (hi : ops[i]? = some ⟨some d, o, ty, pos, af, none⟩) (hq : quietAt ops s done i = true) (hd : Nat.blt d n = true)
    (hrun : ∀ w, C w → (execOp (ev f) ⟨some d, o, ty, pos, af, none⟩).run P w = .ok (.value v) w)
    (h : AL P ops s A C Qn Qp n ds fuel (i :: done) (upd f d v) w) : AL P ops s A C Qn Qp n ds (fuel + 1) done f w :=
  .first i hi hq (fun a ha => ha.put hd v) (fun a ha => .inl ⟨by simp [Region.wanted], fun w hw => by rw [ha.eval]; exact hrun w hw⟩) h

theorem AL.valY (i : Nat) {d j dj : Nat} {v : Value} {want : Bool} (hi : ops[i]? = some ⟨some d, o, ty, pos, af, some (j, want)⟩) (hq : quietAt ops s done i = true) (hd : Nat.blt d n = true)
    (hj : (ops[j]?).bind (·.dst) = some dj) (hdj : Nat.blt dj n = true) (hv : f dj = .bool want)
    (hrun : ∀ w, C w → (execOp (ev f) ⟨some d, o, ty, pos, af, none⟩).run P w = .ok (.value v) w)
    (h : AL P ops s A C Qn Qp n ds fuel (i :: done) (upd f d v) w) : AL P ops s A C Qn Qp n ds (fuel + 1) done f w :=
  .first i hi hq (fun a ha => ha.put hd v) (fun a ha => .inl ⟨by
    have hy := yielded_rep (ops := ops) ha hj hdj
    rw [hv] at hy
    simp only [Region.wanted, hy, beq_self_eq_true], fun w hw => by rw [ha.eval]; exact hrun w hw⟩) h

theorem AL.valN (i : Nat) {d j dj : Nat} {want : Bool} (hi : ops[i]? = some ⟨some d, o, ty, pos, af, some (j, want)⟩) (hq : quietAt ops s done i = true) (hd : Nat.blt d n = true)
    (hj : (ops[j]?).bind (·.dst) = some dj) (hdj : Nat.blt dj n = true) (hv : f dj = .bool (!want) ∨ f dj = undef)
    (h : AL P ops s A C Qn Qp n ds fuel (i :: done) (upd f d undef) w) : AL P ops s A C Qn Qp n ds (fuel + 1) done f w :=
  .first i hi hq (fun a ha => ha.put hd undef) (fun a ha => .inr ⟨by
    have hy := yielded_rep (ops := ops) ha hj hdj
    simp only [Region.wanted, hy]
    rcases hv with hv | hv
    · rw [hv]; cases want <;> rfl
    · rw [hv]; rfl, rfl⟩) h

theorem AL.valA (i : Nat) {d : Nat} {v : Value} (hi : ops[i]? = some ⟨some d, o, ty, pos, af, none⟩) (hq : quietA ops s done i = true) (hd : Nat.blt d n = true)
    (hrun : ∀ w, A w → (execOp (ev f) ⟨some d, o, ty, pos, af, none⟩).run P w = .ok (.value v) w)
    (h : AL P ops s A C Qn Qp n ds fuel (i :: done) (upd f d v) w) : AL P ops s A C Qn Qp n ds (fuel + 1) done f w :=
  .firstA i hi hq (fun a ha => ha.put hd v) (fun a ha => .inl ⟨by simp [Region.wanted], fun w hw => by rw [ha.eval]; exact hrun w hw⟩) h

theorem AL.valAY (i : Nat) {d j dj : Nat} {v : Value} {want : Bool} (hi : ops[i]? = some ⟨some d, o, ty, pos, af, some (j, want)⟩) (hq : quietA ops s done i = true) (hd : Nat.blt d n = true)
    (hj : (ops[j]?).bind (·.dst) = some dj) (hdj : Nat.blt dj n = true) (hv : f dj = .bool want)
    (hrun : ∀ w, A w → (execOp (ev f) ⟨some d, o, ty, pos, af, none⟩).run P w = .ok (.value v) w)
    (h : AL P ops s A C Qn Qp n ds fuel (i :: done) (upd f d v) w) : AL P ops s A C Qn Qp n ds (fuel + 1) done f w :=
  .firstA i hi hq (fun a ha => ha.put hd v) (fun a ha => .inl ⟨by
    have hy := yielded_rep (ops := ops) ha hj hdj
    rw [hv] at hy
    simp only [Region.wanted, hy, beq_self_eq_true], fun w hw => by rw [ha.eval]; exact hrun w hw⟩) h

theorem AL.valAN (i : Nat) {d j dj : Nat} {want : Bool} (hi : ops[i]? = some ⟨some d, o, ty, pos, af, some (j, want)⟩) (hq : quietA ops s done i = true) (hd : Nat.blt d n = true)
    (hj : (ops[j]?).bind (·.dst) = some dj) (hdj : Nat.blt dj n = true) (hv : f dj = .bool (!want) ∨ f dj = undef)
    (h : AL P ops s A C Qn Qp n ds fuel (i :: done) (upd f d undef) w) : AL P ops s A C Qn Qp n ds (fuel + 1) done f w :=
  .firstA i hi hq (fun a ha => ha.put hd undef) (fun a ha => .inr ⟨by
    have hy := yielded_rep (ops := ops) ha hj hdj
    simp only [Region.wanted, hy]
    rcases hv with hv | hv
    · rw [hv]; cases want <;> rfl
    · rw [hv]; rfl, rfl⟩) h

/-- What stands behind an operation with effects. -/
def alPost (P : Program) (ops : Array Oper) (s : Nat) (A C : World → Prop) (Qn : Slots → World → Prop) (Qp : List PanicEntry → World → Prop) (n : Nat) (ds : List Deferred) (fuel : Nat) (done : List Nat) : Post
  | .normal, f, ds', w => ds' = ds ∧ AL P ops s A C Qn Qp n ds fuel done f w
  | .panic c, f, ds', w => ds' = ds ∧ Qp c w
  | _, _, _, _ => False

theorem wpOp_of_WL {i : Nat} {o : Oper} (hi : ops[i]? = some o) (h : WL P ops (alPost P ops s A C Qn Qp n ds fuel (i :: done)) n [o] f ds w) {a : Act} (ha : Rep n f ds a) :
    wpOp P ops (anyPost n ds Qn Qp) i (wpAnyI P .any ops (anyPost n ds Qn Qp) s A C fuel ((lst ops.size done).setIfInBounds i true)) a w := by
  have h1 := h.out a ha
  have e : (lst ops.size done).setIfInBounds i true = lst ops.size (i :: done) := rfl
  rw [e]
  have hn : ∀ a' w', lift n (alPost P ops s A C Qn Qp n ds fuel (i :: done)) .normal a' w' → wpAnyI P .any ops (anyPost n ds Qn Qp) s A C fuel (lst ops.size (i :: done)) a' w' := by
    rintro a' w' ⟨f', ds', hr, rfl, hA⟩
    exact hA.out a' hr
  unfold wpOp
  simp only [hi]
  simp only [wpList] at h1
  split
  · rename_i hw
    simp only [hw, if_true] at h1
    rcases h1 with h1 | ⟨_, a0, w0, f0, ds0, _, hF⟩
    · refine .inl ?_
      unfold Oper.wp at h1 ⊢
      generalize (execOp a.eval o).run P w = r at h1 ⊢
      cases r with
      | ok x w' =>
        cases x <;> simp only [Oper.upon] at h1 ⊢
        case value => exact hn _ _ h1
        case skip => exact hn _ _ h1
        case defer => exact hn _ _ h1
        case enter =>
          refine h1.mono fun e w' hR => ?_
          cases e with
          | returned v => exact hn _ _ hR
          | panicked ch => obtain ⟨f0, ds0, hr, rfl, hp⟩ := hR; exact ⟨hr.size, hr.defers, hp⟩
          | outgrown => obtain ⟨a1, w1, f0, ds0, _, hF⟩ := hR; exact hF.elim
        case row => exact h1.mono fun v w' hR => hn _ _ hR
      | halt x w' =>
        cases x <;> simp only [Oper.upon] at h1 ⊢
        obtain ⟨f0, ds0, hr, rfl, hp⟩ := h1
        exact ⟨hr.size, hr.defers, hp⟩
    · exact hF.elim
  · rename_i hw
    simp only [hw] at h1
    exact hn _ _ h1

theorem AL.fork (rs : List Nat) (hr : (Region.ready .any ops (lst ops.size done)) = rs) (hne : rs.isEmpty = false) (hA : A w) (hC : C w)
    (h : ∀ i ∈ rs, ∃ o, ops[i]? = some o ∧ WL P ops (alPost P ops s A C Qn Qp n ds fuel (i :: done)) n [o] f ds w) : AL P ops s A C Qn Qp n ds (fuel + 1) done f w :=
  ⟨fun a ha => ⟨⟨hA, fun _ => hC⟩, fun h0 => (by rw [hr] at h0; rw [h0] at hne; cases hne), fun i hi => by
    have hobt := h i (by rw [← hr]; exact hi)
    obtain ⟨o, ho, hw⟩ := hobt
    exact wpOp_of_WL ho hw ha⟩⟩

theorem AL.one (i : Nat) {o : Oper} (hr : (Region.ready .any ops (lst ops.size done)) = [i]) (hi : ops[i]? = some o) (hA : A w) (hC : C w)
    (h : WL P ops (alPost P ops s A C Qn Qp n ds fuel (i :: done)) n [o] f ds w) : AL P ops s A C Qn Qp n ds (fuel + 1) done f w :=
  .fork [i] hr rfl hA hC (fun k hk => by simp at hk; subst hk; exact ⟨o, hi, h⟩)
theorem AL.two (i j : Nat) {o o' : Oper} (hr : (Region.ready .any ops (lst ops.size done)) = [i, j]) (hi : ops[i]? = some o) (hj : ops[j]? = some o') (hA : A w) (hC : C w)
    (h : WL P ops (alPost P ops s A C Qn Qp n ds fuel (i :: done)) n [o] f ds w) (h' : WL P ops (alPost P ops s A C Qn Qp n ds fuel (j :: done)) n [o'] f ds w) : AL P ops s A C Qn Qp n ds (fuel + 1) done f w :=
  .fork [i, j] hr rfl hA hC (fun k hk => by
    simp at hk
    rcases hk with rfl | rfl
    · exact ⟨o, hi, h⟩
    · exact ⟨o', hj, h'⟩)
theorem AL.three (i j k : Nat) {o o' o'' : Oper} (hr : (Region.ready .any ops (lst ops.size done)) = [i, j, k]) (hi : ops[i]? = some o) (hj : ops[j]? = some o') (hk : ops[k]? = some o'') (hA : A w) (hC : C w)
    (h : WL P ops (alPost P ops s A C Qn Qp n ds fuel (i :: done)) n [o] f ds w) (h' : WL P ops (alPost P ops s A C Qn Qp n ds fuel (j :: done)) n [o'] f ds w)
    (h'' : WL P ops (alPost P ops s A C Qn Qp n ds fuel (k :: done)) n [o''] f ds w) : AL P ops s A C Qn Qp n ds (fuel + 1) done f w :=
  .fork [i, j, k] hr rfl hA hC (fun m hm => by
    simp at hm
    rcases hm with rfl | rfl | rfl
    · exact ⟨o, hi, h⟩
    · exact ⟨o', hj, h'⟩
    · exact ⟨o'', hk, h''⟩)

theorem AL.end (hr : (Region.ready .any ops (lst ops.size done)).isEmpty = true) (hA : A w) (hC : C w) (h : Qn f w) : AL P ops s A C Qn Qp n ds 0 done f w :=
  ⟨fun a ha => ⟨⟨hA, fun _ => hC⟩, by simpa using hr, f, ha, h⟩⟩
/-- Behind operation s nothing is asked of the world any more. -/
theorem AL.relax (hu : (lst ops.size done).getD s false = true) (h : AL P ops 1000000 A (fun _ => True) Qn Qp n ds fuel done f w) : AL P ops s A C Qn Qp n ds fuel done f w :=
  ⟨fun a ha => (h.out a ha).relax hu⟩
end

theorem CW.any {Q : Post} {id : Nat} {l : List Oper} (s k : Nat) (hm : P.follows .mixedOrders = true) (hk : l.length = k)
    (h : AL P l.toArray s A C (fun f w => Q .normal f ds w) (fun c w => ∀ f, Q (.panic c) f ds w) n ds k [] f w.drew) : CW P (.region id l.toArray true) Q n f ds w :=
  ⟨fun a ha => by
    refine Code.wp_mono ?_ (wp_region_any (Q := anyPost n ds (fun f w => Q .normal f ds w) (fun c w => ∀ f, Q (.panic c) f ds w)) hm ?_)
    · intro e a' w' hq
      cases e with
      | normal => obtain ⟨f', hr, hq⟩ := hq; exact ⟨f', ds, hr, hq⟩
      | panic c => obtain ⟨h1, h2, hq⟩ := hq; exact ⟨fun t => a'.tmps.getD t undef, ds, ⟨h1, fun t => rfl, h2⟩, hq _⟩
      | exit id => exact hq.elim
      | goto id => exact hq.elim
      | ret => exact hq.elim
      | outgrown => exact hq.elim
    · have h1 := (h.out a ha).any
      have e : l.toArray.size = k := by simp [hk]
      rw [e] at h1 ⊢
      exact h1⟩
end al
end Go.Gx
/-! Pan -/
namespace Go.Gx
set_option linter.unusedVariables false
set_option linter.unusedSimpArgs false

section
variable {P : Program} {ops : Array Oper} {Q : Post} {n : Nat} {rest : List Oper} {f : Slots} {ds : List Deferred} {w w' : World} {o : Op} {ty : TypeId} {pos : String} {af : Array Edge} {d : Option Tmp}

/-- A call that panics. -/
theorem WL.enterX {F : FuncId} {args : Array Value} {R : Ending → World → Prop}
    (hrun : (execOp (ev f) ⟨d, o, ty, pos, af, none⟩).run P w = .ok (.enter F args) w) (hc : Calls P F args w R)
    (h : ∀ e w', R e w' → ∃ ch, e = .panicked ch ∧ Q (.panic ch) f ds w') : WL P ops Q n (⟨d, o, ty, pos, af, none⟩ :: rest) f ds w :=
  ⟨fun a ha => wpList_plain rfl fun K hK => by
    unfold Oper.wp
    rw [ha.eval, hrun]
    refine hc.mono fun e w' hR => ?_
    have hobt := h e w' hR
    obtain ⟨ch, rfl, hq⟩ := hobt
    exact ⟨f, ds, ha, hq⟩⟩

theorem run_mkIface {T : TypeId} {t : TypeDesc} {x : Operand} (ht : P.underlying T = some t) (hi : (match t with | .interface _ => false | _ => true) = true) :
    (execOp (ev f) ⟨d, .makeInterface T x, ty, pos, af, none⟩).run P w = .ok (.value (.iface T (ev f x))) w := by
  cases t <;> simp [execOp, Instr.makeInterface, run_underlying ht] at hi ⊢

theorem run_panicI {T : TypeId} {v : Value} {x : Operand} (hx : ev f x = .iface T v) :
    (execOp (ev f) ⟨d, .panic x, ty, pos, af, none⟩).run P w = .halt (.panic (.iface T v)) w := by
  simp [execOp, hx, Instr.panic, goPanic]

theorem invoke_fn {F : FuncId} (hF : En P F) (cap vas : Array Value) : (invoke (.fn (.func F) cap) vas).run P w = .ok (.enter F (vas ++ cap)) w := by
  have hobt := hF.ok
  obtain ⟨fn, hf, hb, hn⟩ := hobt
  simp only [invoke, callFunc, Sem.run_bind, run_program, Result.andThen_ok, hf, hn, hb, Bool.false_eq_true, if_false, Sem.run_pure]

theorem run_callV {F : FuncId} {fo : Operand} {args : Array Operand} {ats : Array TypeId} {vs cap : List Value} (hF : En P F)
    (hx : ev f fo = .func (.func F) #[] cap.toArray) (hv : args.toList.map (ev f) = vs) :
    (execOp (ev f) ⟨d, .call { callee := .value fo, args, argTypes := ats }, ty, pos, af, none⟩).run P w = .ok (.enter F (vs ++ cap).toArray) w := by
  have e : args.map (ev f) = vs.toArray := by rw [← hv]; apply Array.ext'; simp
  have h := invoke_fn (w := w) hF cap.toArray vs.toArray
  rw [List.append_toArray] at h
  simp [execOp, resolve, hx, Deferred.ofValue, e]
  simpa using h

theorem run_makeFuncC {F : Fn} {captured : Array Operand} {cs : List Value} (hc : captured.toList.map (ev f) = cs) :
    (execOp (ev f) ⟨d, .makeFunc F #[] captured, ty, pos, af, none⟩).run P w = .ok (.value (.func F #[] cs.toArray)) w := by
  have e : captured.map (ev f) = cs.toArray := by rw [← hc]; apply Array.ext'; simp
  rw [run_makeFunc, e]
  simp
theorem run_deferV {F : FuncId} {fo : Operand} {ats : Array TypeId} {cap : List Value}
    (hx : ev f fo = .func (.func F) #[] cap.toArray) :
    (execOp (ev f) ⟨d, .defer { callee := .value fo, args := #[], argTypes := ats }, ty, pos, af, none⟩).run P w = .ok (.defer { target := .fn (.func F) cap.toArray, args := #[] }) w := by
  simp [execOp, resolve, hx, Deferred.ofValue]

theorem run_assertOk {T A : TypeId} {t : TypeDesc} {v : Value} {x : Operand} (ht : P.underlying A = some t) (hi : (match t with | .interface _ => false | _ => true) = true) (hx : ev f x = .iface A v) :
    (execOp (ev f) ⟨d, .typeAssert x T A true, ty, pos, af, none⟩).run P w = .ok (.value (.tuple #[v, .bool true])) w := by
  cases t <;> simp [execOp, Instr.typeAssert, run_underlying ht, hx] at hi ⊢
theorem run_assertNil {T A : TypeId} {t : TypeDesc} {agg : Bool} {m by_ : Nat} {zs : List Value} {x : Operand} (ht : P.underlying A = some t) (hi : (match t with | .interface _ => false | _ => true) = true) (hA : Ty P A agg m by_ zs) (hx : ev f x = .nilIface) :
    ∃ z, (zeroValue A).run P w = .ok z w ∧ z.cells = zs.toArray ∧ (execOp (ev f) ⟨d, .typeAssert x T A true, ty, pos, af, none⟩).run P w = .ok (.value (.tuple #[z, .bool false])) w := by
  have hobt := run_zero hA w
  obtain ⟨z, hz, hc⟩ := hobt
  refine ⟨z, hz, hc, ?_⟩
  cases t <;> simp [execOp, Instr.typeAssert, run_underlying ht, hx, hz] at hi ⊢
end

section defers
variable {P : Program} {n : Nat} {w : World} {fn : Func} {R : Ending → World → Prop} {f : Slots}

def finD (P : Program) (n : Nat) (fn : Func) (R : Ending → World → Prop) : Post := fun e f ds w => ∀ a, Rep n f ds a → bodyPostD P fn R e a w

theorem callsDef {F : FuncId} {c : Code} {vs : List Value} (hf : P.funcs[F]? = some fn) (hb : fn.body = some c) (hn : fn.ntmps = n) (hv : Nat.ble vs.length n = true)
    (h : CW P c (finD P n fn R) n (ini vs) [] w) : Calls P F vs.toArray w R :=
  calls_of_wp_defers hf hb (Code.wp_mono (fun e a w ⟨f, ds, hr, hq⟩ => hq a hr) (h.out _ (by rw [hn]; exact rep_ini (by simpa using hv))))

/-- A deferred call that hands nothing over, at a plain return; then what the results' cells hold. -/
theorem finD_ret {F : FuncId} {cap : List Value} (hF : En P F)
    (hc : CallsD P F cap.toArray .returning w fun e u' w' => (∃ v, e = .returned v) ∧ settle u' = .returning ∧ ∀ a : Act, Rep n f [{ target := .fn (.func F) cap.toArray, args := #[] }] a → ∃ v, (results fn a.tmps).run P w' = .ok v w' ∧ R (.returned v) w') :
    finD P n fn R .ret f [{ target := .fn (.func F) cap.toArray, args := #[] }] w := fun a ha => by
  show Leaves P fn a.tmps R a.defers .returning w
  rw [ha.defers]
  refine leaves_cons (by simp) (by rw [invoke_fn hF]; simp) (hc.mono fun e u' w' h => ?_)
  obtain ⟨⟨v, rfl⟩, h2, h3⟩ := h
  simp only [h2]
  exact h3 a ha
theorem finD_panic {F : FuncId} {cap : List Value} {ch : List PanicEntry} (hF : En P F)
    (hc : CallsD P F cap.toArray (.panicking ch) w fun e u' w' => (∃ v, e = .returned v) ∧ settle u' = .returning ∧ ∀ a : Act, Rep n f [{ target := .fn (.func F) cap.toArray, args := #[] }] a → ∃ v, (results fn a.tmps).run P w' = .ok v w' ∧ R (.returned v) w') :
    finD P n fn R (.panic ch) f [{ target := .fn (.func F) cap.toArray, args := #[] }] w := fun a ha => by
  show Leaves P fn a.tmps R a.defers (.panicking ch) w
  rw [ha.defers]
  refine leaves_cons (by simp) (by rw [invoke_fn hF]; simp) (hc.mono fun e u' w' h => ?_)
  obtain ⟨⟨v, rfl⟩, h2, h3⟩ := h
  simp only [h2]
  exact h3 a ha
/-- A return with no deferred call laid. -/
theorem finD_ret0 (h : ∀ a : Act, Rep n f [] a → ∃ v, (results fn a.tmps).run P w = .ok v w ∧ R (.returned v) w) : finD P n fn R .ret f [] w := fun a ha => by
  show Leaves P fn a.tmps R a.defers .returning w
  rw [ha.defers]
  exact h a ha

theorem res_cell1 {t : Tmp} {T : TypeId} {A : Addr} {v : Value} {a : Act} {ds : List Deferred} (ha : Rep n f ds a) (hr : fn.results = #[.cell t T]) (hA : f t = .pointer (some A)) (hv : (loadVar T A).run P w = .ok v w) : (results fn a.tmps).run P w = .ok v w := by
  simp [results, hr, ha.get, hA, asAddr, hv]
theorem res_cell2 {t t' : Tmp} {T T' : TypeId} {A A' : Addr} {v v' : Value} {a : Act} {ds : List Deferred} (ha : Rep n f ds a) (hr : fn.results = #[.cell t T, .cell t' T']) (hA : f t = .pointer (some A)) (hA' : f t' = .pointer (some A')) (hv : (loadVar T A).run P w = .ok v w) (hv' : (loadVar T' A').run P w = .ok v' w) : (results fn a.tmps).run P w = .ok (.tuple #[v, v']) w := by
  simp [results, hr, ha.get, hA, hA', asAddr, hv, hv']

/-- A deferred call that asks for no panic. -/
theorem callsD_plain {F : FuncId} {c : Code} {vs : List Value} {u : FrameMode} (hf : P.funcs[F]? = some fn) (hb : fn.body = some c) (hn : fn.ntmps = n) (hv : Nat.ble vs.length n = true)
    (h : CW P c (fin P n fn R) n (ini vs) [] w) : CallsD P F vs.toArray u w fun e u' w' => u' = u ∧ R e w' :=
  callsD_of_wp hf hb (Code.wp_mono (fun e a w ⟨f, ds, hr, hq⟩ => hq a hr) (h.out _ (by rw [hn]; exact rep_ini (by simpa using hv))))
end defers

/-! ### recover -/
section recover
variable {P : Program} {n : Nat} {w : World} {f : Slots} {ds : List Deferred} {cs : List Frame}

abbrev PostS := Exit → Slots → List Deferred → List Frame → World → Prop
def liftS (n : Nat) (Q : PostS) : Exit → Act → List Frame → World → Prop := fun e a cs w => ∃ f ds, Rep n f ds a ∧ Q e f ds cs w
structure CS (P : Program) (c : Code) (Q : PostS) (n : Nat) (f : Slots) (ds : List Deferred) (cs : List Frame) (w : World) : Prop where
  out : ∀ a, Rep n f ds a → c.wpS P (liftS n Q) a cs w

theorem wpS_mono {Q Q' : Exit → Act → List Frame → World → Prop} {c : Code} {a : Act} (hq : ∀ e a cs w, Q e a cs w → Q' e a cs w) (h : c.wpS P Q a cs w) : c.wpS P Q' a cs w :=
  fun b k hb hr => let ⟨e, a', cs', w', q, r⟩ := h b k hb hr; ⟨e, a', cs', w', hq _ _ _ _ q, r⟩

theorem CS.of {Q : PostS} {c : Code} (h : CW P c (fun e f ds w => Q e f ds cs w) n f ds w) : CS P c Q n f ds cs w :=
  ⟨fun a ha => wpS_of_wp (Code.wp_mono (fun e a w ⟨f, ds, hr, hq⟩ => ⟨f, ds, hr, hq⟩) (h.out a ha))⟩

def thenS (K : Slots → List Deferred → List Frame → World → Prop) (Q : PostS) : PostS
  | .normal, f, ds, cs, w => K f ds cs w
  | .exit id, f, ds, cs, w => Q (.exit id) f ds cs w
  | .goto l, f, ds, cs, w => Q (.goto l) f ds cs w
  | .ret, f, ds, cs, w => Q .ret f ds cs w
  | .panic ch, f, ds, cs, w => Q (.panic ch) f ds cs w
  | .outgrown, f, ds, cs, w => Q .outgrown f ds cs w

theorem CS.seq {Q : PostS} {x y : Code} (h : CS P x (thenS (CS P y Q n) Q) n f ds cs w) : CS P (.seq x y) Q n f ds cs w :=
  ⟨fun a ha => wpS_seq (wpS_mono (fun e a cs w ⟨f, ds, hr, hq⟩ => by
    cases e with
    | normal => exact (show CS P y Q n f ds cs w from hq).out a hr
    | exit id => exact ⟨f, ds, hr, hq⟩
    | goto l => exact ⟨f, ds, hr, hq⟩
    | ret => exact ⟨f, ds, hr, hq⟩
    | panic ch => exact ⟨f, ds, hr, hq⟩
    | outgrown => exact ⟨f, ds, hr, hq⟩) (h.out a ha))⟩

theorem CS.recover {Q : PostS} {id d1 d2 : Nat} {ats : Array TypeId} {t1 t2 : TypeId} {p1 p2 : String} {a1 a2 : Array Edge} {v : Value} {cs' : List Frame} (h1 : Nat.blt d1 n = true) (h2 : Nat.blt d2 n = true)
    (hrec : recoverD cs = some (v, cs') ∨ recoverD cs = none ∧ v = .nilIface ∧ cs' = cs) (h : Q .normal (upd (upd f d1 v) d2 v) ds cs' w) :
    CS P (.region id #[⟨some d1, .call { callee := .builtin .recover, args := #[], argTypes := ats }, t1, p1, a1, none⟩, ⟨some d2, .assign (.tmp d1), t2, p2, a2, none⟩] false) Q n f ds cs w :=
  ⟨fun a ha => wpS_region (by
    have e1 : (execOp a.eval ⟨some d1, .call { callee := .builtin .recover, args := #[], argTypes := ats }, t1, p1, a1, none⟩).run P w = .ok .recover w := by
      simp [execOp, resolve, invoke, builtin]
    have hp := ha.put h1 v
    have e2 : (execOp (a.put (some d1) v).eval ⟨some d2, .assign (.tmp d1), t2, p2, a2, none⟩).run P w = .ok (.value v) w := by
      rw [hp.eval]
      have : ev (upd f d1 v) (.tmp d1) = v := upd_same f d1 v
      simp [execOp, this]
    have hfin : liftS n Q .normal ((a.put (some d1) v).put (some d2) v) cs' w := ⟨_, _, hp.put h2 v, h⟩
    have hr2 : List.range 2 = [0, 1] := rfl
    rcases hrec with hrec | ⟨hrec, rfl, rfl⟩
    · simp [wpOpsS, hr2, Region.wanted, e1, hrec, e2, Oper.upon, hfin]
    · simp [wpOpsS, hr2, Region.wanted, e1, hrec, e2, Oper.upon, hfin])⟩

def finS (P : Program) (n : Nat) (fn : Func) (c0 : Frame) (cs : List Frame) (R : Ending → FrameMode → World → Prop) : PostS := fun e f ds cs' w => ∀ a, Rep n f ds a → bodyPostS P fn c0 cs R e a cs' w

theorem callsD_rec {F : FuncId} {fn : Func} {c : Code} {vs : List Value} {u : FrameMode} {R : Ending → FrameMode → World → Prop} (hf : P.funcs[F]? = some fn) (hb : fn.body = some c) (hn : fn.ntmps = n) (hv : Nat.ble vs.length n = true)
    (h : ∀ (c0 : Frame) (cs : List Frame), c0.mode = u → CS P c (finS P n fn c0 cs R) n (ini vs) [] (c0 :: cs) w) : CallsD P F vs.toArray u w R :=
  callsD_of_wpS hf hb fun c0 cs hu => wpS_mono (fun e a cs w ⟨f, ds, hr, hq⟩ => hq a hr) ((h c0 cs hu).out _ (by rw [hn]; exact rep_ini (by simpa using hv)))

theorem finS_end0 {fn : Func} {c0 : Frame} {R : Ending → FrameMode → World → Prop} {u' : FrameMode} (hr : fn.results = #[]) (h : R (.returned (.tuple #[])) u' w) : finS P n fn c0 cs R .normal f [] ({ c0 with mode := u' } :: cs) w :=
  fun a ha => ⟨ha.defers, u', rfl, _, results_none hr _ _ _, h⟩
end recover
end Go.Gx
/-! Rune1 -/
namespace Go.Gx
set_option linter.unusedVariables false
set_option linter.unusedSimpArgs false

/-- Byte k, 0 behind the end. -/
def bAt (l : List UInt8) (k : Nat) : Nat := (l.getD k 0).toNat
theorem get_bAt (l : List UInt8) (k : Nat) : ((ByteArray.mk ⟨l⟩).get! k).toNat = bAt l k := by
  unfold bAt
  show ((⟨l⟩ : Array UInt8)[k]!).toNat = _
  rw [Array.getElem!_eq_getD]
  simp [Array.getD_eq_getD_getElem?, List.getD_eq_getElem?_getD]
  rfl

theorem dec_ascii {l : List UInt8} {i : Nat} (h : bAt l i < 128) : Utf8.decode ⟨⟨l⟩⟩ i = (bAt l i, 1) := by
  unfold Utf8.decode
  simp only [get_bAt, Nat.add_zero]
  rw [if_pos h]
theorem dec_wide {l : List UInt8} {i : Nat} (hi : i < l.length) (h : 128 ≤ bAt l i) : 128 ≤ (Utf8.decode ⟨⟨l⟩⟩ i).1 ∧ (Utf8.decode ⟨⟨l⟩⟩ i).1 ≤ 1114111 ∧ 1 ≤ (Utf8.decode ⟨⟨l⟩⟩ i).2 ∧ i + (Utf8.decode ⟨⟨l⟩⟩ i).2 ≤ l.length ∧ ∀ k, k < (Utf8.decode ⟨⟨l⟩⟩ i).2 → 128 ≤ bAt l (i + k) := by
  have hsz : (ByteArray.mk ⟨l⟩).size = l.length := rfl
  have one : ∀ k, k < 1 → 128 ≤ bAt l (i + k) := fun k hk => by obtain rfl : k = 0 := (by omega); exact h
  have hb := (l.getD i 0).toNat_lt
  have hb1 := (l.getD (i + 1) 0).toNat_lt
  have hb2 := (l.getD (i + 2) 0).toNat_lt
  have hb3 := (l.getD (i + 3) 0).toNat_lt
  unfold Utf8.decode
  simp only [get_bAt, hsz, Nat.add_zero, Utf8.runeError, Utf8.valid]
  unfold bAt at *
  rw [if_neg (by omega)]
  split
  · rename_i h1
    simp only [Bool.and_eq_true, beq_iff_eq, decide_eq_true_eq] at h1
    split
    · refine ⟨by omega, by omega, by omega, by omega, fun k hk => ?_⟩
      rcases (by omega : k = 0 ∨ k = 1) with rfl | rfl
      · exact h
      · omega
    · exact ⟨by decide, by decide, by decide, by omega, one⟩
  split
  · rename_i h1
    simp only [Bool.and_eq_true, beq_iff_eq, decide_eq_true_eq] at h1
    split
    · rename_i h2
      simp only [Bool.and_eq_true, decide_eq_true_eq] at h2
      refine ⟨by omega, by omega, by omega, by omega, fun k hk => ?_⟩
      rcases (by omega : k = 0 ∨ k = 1 ∨ k = 2) with rfl | rfl | rfl
      · exact h
      · omega
      · omega
    · exact ⟨by decide, by decide, by decide, by omega, one⟩
  split
  · rename_i h1
    simp only [Bool.and_eq_true, beq_iff_eq, decide_eq_true_eq] at h1
    split
    · rename_i h2
      simp only [Bool.and_eq_true, Bool.or_eq_true, decide_eq_true_eq] at h2
      refine ⟨by omega, by omega, by omega, by omega, fun k hk => ?_⟩
      rcases (by omega : k = 0 ∨ k = 1 ∨ k = 2 ∨ k = 3) with rfl | rfl | rfl | rfl
      · exact h
      · omega
      · omega
      · omega
    · exact ⟨by decide, by decide, by decide, by omega, one⟩
  · exact ⟨by decide, by decide, by decide, by omega, one⟩

section
variable {P : Program} {ops : Array Oper} {Q : Post} {n : Nat} {rest : List Oper} {f : Slots} {ds : List Deferred} {w w0 : World} {ty : TypeId} {pos : String} {af : Array Edge} {S : List Nat} {L : List (Nat × Obj)} {x : Operand} {T : TypeId}

def putO (w : World) (b : Nat) (o : Obj) : World := { w with heap := w.heap.setIfInBounds b o }

theorem WL.rangeS {d : Nat} {s : List UInt8} (ht : P.underlying T = some .string) (hx : ev f x = str s) (hd : Nat.blt d n = true) (hs : Step S L w0 w)
    (h : ∀ b w', Step S ((b, .stringIter ⟨⟨s⟩⟩ 0) :: L) w0 w' → WL P ops Q n rest (upd f d (.pointer (some ⟨b, 0, none⟩))) ds w') : WL P ops Q n (⟨some d, .range T x, ty, pos, af, none⟩ :: rest) f ds w := by
  refine WL.val hd (v := .pointer (some ⟨w.heap.size, 0, none⟩)) (w' := w.alloc (.stringIter ⟨⟨s⟩⟩ 0)) ?_ (h _ _ (hs.alloc _))
  simp [execOp, hx, str, Instr.range, run_underlying ht]

theorem WL.nextEnd {d b p : Nat} {s : List UInt8} (hx : ev f x = .pointer (some ⟨b, 0, none⟩)) (hd : Nat.blt d n = true) (hs : Step S ((b, .stringIter ⟨⟨s⟩⟩ p) :: L) w0 w) (hp : s.length ≤ p)
    (h : WL P ops Q n rest (upd f d (.tuple #[.bool false])) ds w) : WL P ops Q n (⟨some d, .next x true, ty, pos, af, none⟩ :: rest) f ds w := by
  refine WL.val hd (v := .tuple #[.bool false]) (w' := w) ?_ h
  have hg : (getObj b).run P w = .ok (.stringIter ⟨⟨s⟩⟩ p) w := by simp [getObj, Sem.run, hs.hd]
  have hsz : ¬ p < (ByteArray.mk ⟨s⟩).size := by show ¬ p < s.length; omega
  simp [execOp, hx, Instr.next, hg, hsz]

theorem Step.setObj {b : Nat} {o : Obj} (h : Step S ((b, o) :: L) w0 w) (o' : Obj) : Step S ((b, o') :: L) w0 (putO w b o') := by
  have hb := h.hd
  have hc : Step ([(b, o)].map (·.1)) [(b, o')] w (putO w b o') := by
    have hlt := lt_of_get hb
    refine ⟨⟨rfl, rfl, rfl, by simp [putO], fun k hk hn => ?_, Nat.le_refl _⟩, by simp, ?_, by simp⟩
    · have : k ≠ b := by simpa using hn
      show (w.heap.setIfInBounds b o')[k]? = _
      rw [Array.getElem?_setIfInBounds_ne (by omega)]
    · intro p hp
      simp at hp
      subst hp
      show (w.heap.setIfInBounds b o')[b]? = _
      simp [hlt]
  exact Step.call (L1 := [(b, o)]) h hc

theorem WL.nextS {d b p : Nat} {s : List UInt8} {c wd : Nat} (hx : ev f x = .pointer (some ⟨b, 0, none⟩)) (hd : Nat.blt d n = true) (hs : Step S ((b, .stringIter ⟨⟨s⟩⟩ p) :: L) w0 w) (hp : p < s.length) (hdec : Utf8.decode ⟨⟨s⟩⟩ p = (c, wd))
    (h : ∀ w', Step S ((b, .stringIter ⟨⟨s⟩⟩ (p + wd)) :: L) w0 w' → WL P ops Q n rest (upd f d (.tuple #[.bool true, .int .i64 p, .int .i32 c])) ds w') : WL P ops Q n (⟨some d, .next x true, ty, pos, af, none⟩ :: rest) f ds w := by
  refine WL.val hd (v := .tuple #[.bool true, .int .i64 p, .int .i32 c]) (w' := putO w b (.stringIter ⟨⟨s⟩⟩ (p + wd))) ?_ (h _ (hs.setObj _))
  have hg : (getObj b).run P w = .ok (.stringIter ⟨⟨s⟩⟩ p) w := by simp [getObj, Sem.run, hs.hd]
  have hst : (setObj b (.stringIter ⟨⟨s⟩⟩ (p + wd))).run P w = .ok () (putO w b (.stringIter ⟨⟨s⟩⟩ (p + wd))) := by simp [setObj, Sem.run, hs.hd, putO]
  have hsz : p < (ByteArray.mk ⟨s⟩).size := hp
  simp [execOp, hx, Instr.next, hg, hsz, hdec, hst, goInt]

theorem CW.scope {c : Code} (h : CW P c (fun e f ds w => match e with | .goto _ => False | e => Q e f ds w) n f ds w) : CW P (.scope c) Q n f ds w :=
  ⟨fun a ha => wp_scope_straight (Code.wp_mono (fun e a w ⟨f, ds, hr, hq⟩ => by
    cases e with
    | goto l => exact hq.elim
    | normal => exact ⟨f, ds, hr, hq⟩
    | exit id => exact ⟨f, ds, hr, hq⟩
    | ret => exact ⟨f, ds, hr, hq⟩
    | panic ch => exact ⟨f, ds, hr, hq⟩
    | outgrown => exact ⟨f, ds, hr, hq⟩) (h.out a ha))⟩
end
end Go.Gx
/-! NSpec -/
namespace Go.Gx
set_option linter.unusedVariables false
set_option linter.unusedSimpArgs false

def badCh (c : UInt8) : Bool := decide (c = 0 ∨ c = 47)
def isName (s : List UInt8) : Bool := decide (1 ≤ s.length ∧ s.length ≤ 64 ∧ s ≠ [46] ∧ s ≠ [46, 46]) && !s.any badCh

structure Ent where
  name : List UInt8
  kind : Int
  dig : List UInt8
  deriving DecidableEq

def Ent.cells (x : Ent) : List Value := str x.name :: .int .i64 x.kind :: u8s x.dig
def Ent.ok (x : Ent) : Prop := x.dig.length = 32 ∧ -9223372036854775808 ≤ x.kind ∧ x.kind ≤ 9223372036854775807 ∧ x.name.length ≤ 9223372036854775807
def rows (l : List Ent) : List Value := l.flatMap Ent.cells
def Oks (l : List Ent) : Prop := ∀ x ∈ l, x.ok

theorem Ent.cells_len {x : Ent} (h : x.ok) : x.cells.length = 34 := by simp [Ent.cells, u8s, h.1]
theorem rows_len : ∀ {l : List Ent}, Oks l → (rows l).length = l.length * 34
  | [], _ => rfl
  | x :: l, h => by
    have h1 := Ent.cells_len (h x (by simp))
    have h2 := rows_len (l := l) (fun y hy => h y (by simp [hy]))
    simp only [rows, List.flatMap_cons, List.length_append, List.length_cons] at *
    omega
theorem rows_append (a b : List Ent) : rows (a ++ b) = rows a ++ rows b := by simp [rows]
theorem rows_one (x : Ent) : rows [x] = x.cells := by simp [rows]
theorem Oks.take {l : List Ent} (h : Oks l) (k : Nat) : Oks (l.take k) := fun x hx => h x (List.mem_of_mem_take hx)
theorem Oks.drop {l : List Ent} (h : Oks l) (k : Nat) : Oks (l.drop k) := fun x hx => h x (List.mem_of_mem_drop hx)
theorem Oks.append {a b : List Ent} (h : Oks a) (h' : Oks b) : Oks (a ++ b) := fun x hx => by
  rcases List.mem_append.1 hx with hx | hx
  · exact h x hx
  · exact h' x hx
theorem Oks.one {x : Ent} (h : x.ok) : Oks [x] := fun y hy => by simp at hy; subst hy; exact h
theorem Oks.nil : Oks [] := fun y hy => by cases hy
theorem Oks.get {l : List Ent} (h : Oks l) {k : Nat} (hk : k < l.length) : (l[k]).ok := h _ (List.getElem_mem hk)

theorem Ent.cells1 (x : Ent) : Cells1 x.cells := fun v hv => by
  simp only [Ent.cells, List.mem_cons] at hv
  rcases hv with rfl | rfl | hv
  · rfl
  · rfl
  · exact Cells1.u8s _ v hv
theorem rows_cells1 (l : List Ent) : Cells1 (rows l) := fun v hv => by
  have hobt := List.mem_flatMap.1 hv
  obtain ⟨x, _, hx⟩ := hobt
  exact x.cells1 v hx

theorem rows_split {l : List Ent} (h : Oks l) {k : Nat} (hk : k < l.length) : rows l = rows (l.take k) ++ ((l[k]).cells ++ rows (l.drop (k + 1))) := by
  have e : l = l.take k ++ l[k] :: l.drop (k + 1) := by rw [← List.drop_eq_getElem_cons hk, List.take_append_drop]
  have e2 : rows (l.take k ++ l[k] :: l.drop (k + 1)) = rows (l.take k) ++ ((l[k]).cells ++ rows (l.drop (k + 1))) := by rw [rows_append]; rfl
  rw [← e2, ← e]
/-- Entry k's cells, in a row of entries. -/
theorem At.ent {w : World} {b off : Nat} {l : List Ent} (ha : At w b off (rows l)) (h : Oks l) {k : Nat} (hk : k < l.length) : At w b (off + k * 34) (l[k]).cells := by
  rw [rows_split h hk] at ha
  have := ha.right.left
  rw [rows_len (h.take k), List.length_take, Nat.min_eq_left (Nat.le_of_lt hk)] at this
  exact this

/-- A slice of entries. -/
def Es (w : World) (v : Value) (l : List Ent) : Prop := Sl w 34 v l.length (rows l) ∧ Oks l ∧ l.length ≤ 9223372036854775807
theorem Es.step0 {L : List (Nat × Obj)} {w w' : World} {v : Value} {l : List Ent} (h : Es w v l) (hs : Step [] L w w') : Es w' v l := ⟨h.1.step0 hs, h.2⟩
theorem Es.step {S : List Nat} {L : List (Nat × Obj)} {w w' : World} {v : Value} {l : List Ent} (h : Es w v l) (hs : Step S L w w') (hS : Outside v S) : Es w' v l := ⟨h.1.step hs hS, h.2⟩
theorem Es.cases {w : World} {v : Value} {l : List Ent} (h : Es w v l) : (∃ a c, v = .slice a 0 c ∧ l = []) ∨ ∃ b off c, v = .slice (some ⟨b, off, none⟩) l.length c ∧ At w b off (rows l) := by
  obtain ⟨⟨hl, ⟨a, c, rfl, h0⟩ | h⟩, ho, _⟩ := h
  · exact .inl ⟨a, c, by rw [h0], List.eq_nil_of_length_eq_zero h0⟩
  · exact .inr h

/-- What a call of no effect hands back. -/
def Ret0 (v : Value) (w : World) : Ending → World → Prop := fun e w' => e = .returned v ∧ Step [] [] w w'
theorem Step.callE {S : List Nat} {L : List (Nat × Obj)} {w w' w'' : World} (h : Step S L w w') (hc : Step [] [] w' w'') : Step S L w w'' := h.call0 hc

theorem bytesLess_irrefl : ∀ s : List UInt8, Op.bytesLess s s = false
  | [] => rfl
  | a :: s => by simp [Op.bytesLess, bytesLess_irrefl s, UInt8.lt_irrefl]
theorem bytesLess_gt : ∀ a b : List UInt8, (!(Op.bytesLess a b || a == b)) = Op.bytesLess b a
  | [], [] => rfl
  | [], b :: y => by simp [Op.bytesLess]
  | a :: x, [] => by simp [Op.bytesLess]
  | a :: x, b :: y => by
    have ih := bytesLess_gt x y
    by_cases h : a = b
    · subst h
      simp only [Op.bytesLess, UInt8.lt_irrefl, decide_false, Bool.false_or, beq_self_eq_true, Bool.true_and, ← ih]
      simp
    · have h' : ¬ b = a := fun e => h e.symm
      by_cases hlt : a < b
      · have : ¬ b < a := UInt8.lt_asymm hlt
        simp [Op.bytesLess, h, h', hlt, this]
      · have : b < a := by rcases UInt8.lt_or_lt_of_ne h with h1 | h1; exact absurd h1 hlt; exact h1
        simp [Op.bytesLess, h, h', hlt, this]

/-- What is wrong with an entry behind this name. -/
def wrongE (k : Int) (n a : List UInt8) : Int := if (k = 2 ∨ k = 1) ∧ isName n = true ∧ Op.bytesLess a n = true then 0 else 51
/-- The first error of a row of entries. -/
def errE : List UInt8 → List Ent → Int
  | _, [] => 0
  | a, x :: l => if wrongE x.kind x.name a = 0 then errE x.name l else wrongE x.kind x.name a
def checkE (l : List Ent) : Int := if l.length > 1024 then 2 else errE [] l
end Go.Gx
/-! Sha -/
namespace Go.Gx
set_option linter.unusedVariables false
set_option linter.unusedSimpArgs false

abbrev Wd := BitVec 32
def wv (x : Wd) : Value := .int .u32 (x.toNat : Int)
def wvs (l : List Wd) : List Value := l.map wv
def rotr (x : Wd) (n : Nat) : Wd := x <<< (32 - n) ||| x >>> n
def kL : List Wd := [
  0x428a2f98#32, 0x71374491#32, 0xb5c0fbcf#32, 0xe9b5dba5#32, 0x3956c25b#32, 0x59f111f1#32, 0x923f82a4#32, 0xab1c5ed5#32,
  0xd807aa98#32, 0x12835b01#32, 0x243185be#32, 0x550c7dc3#32, 0x72be5d74#32, 0x80deb1fe#32, 0x9bdc06a7#32, 0xc19bf174#32,
  0xe49b69c1#32, 0xefbe4786#32, 0x0fc19dc6#32, 0x240ca1cc#32, 0x2de92c6f#32, 0x4a7484aa#32, 0x5cb0a9dc#32, 0x76f988da#32,
  0x983e5152#32, 0xa831c66d#32, 0xb00327c8#32, 0xbf597fc7#32, 0xc6e00bf3#32, 0xd5a79147#32, 0x06ca6351#32, 0x14292967#32,
  0x27b70a85#32, 0x2e1b2138#32, 0x4d2c6dfc#32, 0x53380d13#32, 0x650a7354#32, 0x766a0abb#32, 0x81c2c92e#32, 0x92722c85#32,
  0xa2bfe8a1#32, 0xa81a664b#32, 0xc24b8b70#32, 0xc76c51a3#32, 0xd192e819#32, 0xd6990624#32, 0xf40e3585#32, 0x106aa070#32,
  0x19a4c116#32, 0x1e376c08#32, 0x2748774c#32, 0x34b0bcb5#32, 0x391c0cb3#32, 0x4ed8aa4a#32, 0x5b9cca4f#32, 0x682e6ff3#32,
  0x748f82ee#32, 0x78a5636f#32, 0x84c87814#32, 0x8cc70208#32, 0x90befffa#32, 0xa4506ceb#32, 0xbef9a3f7#32, 0xc67178f2#32]
def ivL : List Wd := [0x6a09e667#32, 0xbb67ae85#32, 0x3c6ef372#32, 0xa54ff53a#32, 0x510e527f#32, 0x9b05688c#32, 0x1f83d9ab#32, 0x5be0cd19#32]
def sg0 (x : Wd) : Wd := rotr x 7 ^^^ rotr x 18 ^^^ x >>> 3
def sg1 (y : Wd) : Wd := rotr y 17 ^^^ rotr y 19 ^^^ y >>> 10
def byW (c : UInt8) : Wd := BitVec.ofNat 32 c.toNat
/-- Word t of a block of bytes. -/
def wordB (b : List UInt8) (t : Nat) : Wd := byW (b.getD (4 * t) 0) <<< 24 ||| byW (b.getD (4 * t + 1) 0) <<< 16 ||| byW (b.getD (4 * t + 2) 0) <<< 8 ||| byW (b.getD (4 * t + 3) 0)
def wNext (l : List Wd) (t : Nat) : Wd := l.getD (t - 16) 0 + sg0 (l.getD (t - 15) 0) + l.getD (t - 7) 0 + sg1 (l.getD (t - 2) 0)
/-- The first t words of the schedule. -/
def sched (b : List UInt8) : Nat → List Wd
  | 0 => []
  | t + 1 => sched b t ++ [if t < 16 then wordB b t else wNext (sched b t) t]
structure St8 where
  a : Wd
  b : Wd
  c : Wd
  d : Wd
  e : Wd
  f : Wd
  g : Wd
  h : Wd
  deriving DecidableEq
def St8.l (s : St8) : List Wd := [s.a, s.b, s.c, s.d, s.e, s.f, s.g, s.h]
def stP (s : St8) (k w : Wd) : Wd := s.h + (rotr s.e 6 ^^^ rotr s.e 11 ^^^ rotr s.e 25) + (s.e &&& s.f ^^^ ~~~ s.e &&& s.g) + k + w
def stQ (s : St8) : Wd := (rotr s.a 2 ^^^ rotr s.a 13 ^^^ rotr s.a 22) + (s.a &&& s.b ^^^ s.a &&& s.c ^^^ s.b &&& s.c)
def stStep (s : St8) (k w : Wd) : St8 := ⟨stP s k w + stQ s, s.a, s.b, s.c, s.d + stP s k w, s.e, s.f, s.g⟩
def stRounds (s : St8) (ws : List Wd) : Nat → St8
  | 0 => s
  | t + 1 => stStep (stRounds s ws t) (kL.getD t 0) (ws.getD t 0)
def stAdd (s r : St8) : St8 := ⟨s.a + r.a, s.b + r.b, s.c + r.c, s.d + r.d, s.e + r.e, s.f + r.f, s.g + r.g, s.h + r.h⟩
def iv8 : St8 := ⟨0x6a09e667#32, 0xbb67ae85#32, 0x3c6ef372#32, 0xa54ff53a#32, 0x510e527f#32, 0x9b05688c#32, 0x1f83d9ab#32, 0x5be0cd19#32⟩
/-- The state turned by a block. -/
def stBlock (s : St8) (b : List UInt8) : St8 := stAdd s (stRounds s (sched b 64) 64)
/-- The state behind n whole blocks. -/
def stBlocks (l : List UInt8) : Nat → St8
  | 0 => iv8
  | n + 1 => stBlock (stBlocks l n) ((l.drop (64 * n)).take 64)
def lenB (n : Nat) : List UInt8 := (List.range 8).map fun i => UInt8.ofNat (n * 8 % 18446744073709551616 / 256 ^ (7 - i))
/-- The text filled up. -/
def fillB (b : List UInt8) : List UInt8 := b ++ 128 :: (List.replicate ((119 - b.length % 64) % 64) 0 ++ lenB b.length)
def wBytes (x : Wd) : List UInt8 := (List.range 4).map fun i => UInt8.ofNat (x.toNat / 256 ^ (3 - i))
def shaL (b : List UInt8) : List UInt8 := ((stBlocks (fillB b) ((fillB b).length / 64)).l).flatMap wBytes
end Go.Gx
/-! Word -/
namespace Go.Gx
set_option linter.unusedVariables false
set_option linter.unusedSimpArgs false

theorem wrap32_nat (n : Nat) : IntKind.u32.wrap (n : Int) = ((n % 4294967296 : Nat) : Int) := by
  unfold IntKind.wrap
  simp only [IntKind.bits, IntKind.signed, Bool.false_and, Bool.false_eq_true, if_false]
  have : (2 : Int) ^ 32 = ((4294967296 : Nat) : Int) := by decide
  rw [this, Int.natCast_emod]
theorem wd_lt (a : Wd) : a.toNat < 4294967296 := a.isLt
theorem wd_ofInt (a : Wd) : BitVec.ofInt 32 ((a.toNat : Nat) : Int) = a := by
  rw [BitVec.ofInt_natCast]
  simp

section
variable {P : Program} {f : Slots} {w : World} {d : Option Tmp} {ty : TypeId} {pos : String} {af : Array Edge} {x y : Operand} {T T' : TypeId} {a b : Wd}
theorem run_add32 (hx : ev f x = wv a) (hy : ev f y = wv b) : (execOp (ev f) ⟨d, .binOp .add T x y T', ty, pos, af, none⟩).run P w = .ok (.value (wv (a + b))) w := by
  have h := run_addW (P := P) (w := w) (d := d) (T := T) (T' := T') (ty := ty) (pos := pos) (af := af) (k := .u32) hx hy
  rw [h]
  have e : ((a.toNat : Int) + (b.toNat : Int)) = ((a.toNat + b.toNat : Nat) : Int) := by omega
  rw [e, wrap32_nat, wv, BitVec.toNat_add]
theorem run_xor32 (hx : ev f x = wv a) (hy : ev f y = wv b) : (execOp (ev f) ⟨d, .binOp .xor T x y T', ty, pos, af, none⟩).run P w = .ok (.value (wv (a ^^^ b))) w := by
  have ha := wd_ofInt a
  have hb := wd_ofInt b
  have hl := wrap32_nat (a ^^^ b).toNat
  rw [Nat.mod_eq_of_lt (wd_lt _)] at hl
  simp [execOp, hx, hy, wv, go_sem, Op.intBits, IntKind.bits, ha, hb]
  exact hl
theorem run_and32 (hx : ev f x = wv a) (hy : ev f y = wv b) : (execOp (ev f) ⟨d, .binOp .and T x y T', ty, pos, af, none⟩).run P w = .ok (.value (wv (a &&& b))) w := by
  have ha := wd_ofInt a
  have hb := wd_ofInt b
  have hl := wrap32_nat (a &&& b).toNat
  rw [Nat.mod_eq_of_lt (wd_lt _)] at hl
  simp [execOp, hx, hy, wv, go_sem, Op.intBits, IntKind.bits, ha, hb]
  exact hl
theorem run_or32 (hx : ev f x = wv a) (hy : ev f y = wv b) : (execOp (ev f) ⟨d, .binOp .or T x y T', ty, pos, af, none⟩).run P w = .ok (.value (wv (a ||| b))) w := by
  have ha := wd_ofInt a
  have hb := wd_ofInt b
  have hl := wrap32_nat (a ||| b).toNat
  rw [Nat.mod_eq_of_lt (wd_lt _)] at hl
  simp [execOp, hx, hy, wv, go_sem, Op.intBits, IntKind.bits, ha, hb]
  exact hl
theorem run_not32 (hx : ev f x = wv a) : (execOp (ev f) ⟨d, .unOp .xor T x, ty, pos, af, none⟩).run P w = .ok (.value (wv (~~~ a))) w := by
  have ha := wd_ofInt a
  have hm : BitVec.ofInt 32 (IntKind.max .u32) = BitVec.allOnes 32 := by decide
  have hx2 : BitVec.allOnes 32 ^^^ a = ~~~ a := by rw [BitVec.xor_comm, BitVec.xor_allOnes]
  have hl := wrap32_nat (~~~ a).toNat
  rw [Nat.mod_eq_of_lt (wd_lt _)] at hl
  have h : (Op.unary .xor (wv a)).run P w = .ok (wv (~~~ a)) w := by
    rw [← hx2] at hl ⊢
    simp only [Op.unary, wv, IntKind.signed, Bool.false_eq_true, if_false, Op.intBits, IntKind.bits, ha, hm]
    exact congrArg (fun n => (Result.ok (Value.int .u32 n) w : Result Value)) hl
  simp [execOp, hx, h]
theorem run_shl32 {n : Nat} {k' : IntKind} (hn : n ≤ 32) (hx : ev f x = wv a) (hy : ev f y = .int k' (n : Nat)) : (execOp (ev f) ⟨d, .binOp .shl T x y T', ty, pos, af, none⟩).run P w = .ok (.value (wv (a <<< n))) w := by
  rw [run_shl hx hy (by omega)]
  have e1 : min (((n : Nat) : Int).toNat) IntKind.u32.bits = n := by simp only [IntKind.bits, Int.toNat_natCast]; omega
  have e2 : ((a.toNat : Int) * 2 ^ n) = ((a.toNat * 2 ^ n : Nat) : Int) := by rw [Int.natCast_mul, Int.natCast_pow]; rfl
  rw [e1, e2, wrap32_nat, wv, BitVec.toNat_shiftLeft, Nat.shiftLeft_eq]
theorem run_shr32 {n : Nat} {k' : IntKind} (hn : n ≤ 32) (hx : ev f x = wv a) (hy : ev f y = .int k' (n : Nat)) : (execOp (ev f) ⟨d, .binOp .shr T x y T', ty, pos, af, none⟩).run P w = .ok (.value (wv (a >>> n))) w := by
  rw [run_shr hx hy (by omega)]
  have e1 : min (((n : Nat) : Int).toNat) IntKind.u32.bits = n := by simp only [IntKind.bits, Int.toNat_natCast]; omega
  have e2 : (a.toNat : Int).fdiv (2 ^ n) = ((a.toNat / 2 ^ n : Nat) : Int) := by
    have : (2 : Int) ^ n = ((2 ^ n : Nat) : Int) := by rw [Int.natCast_pow]; rfl
    rw [this, Int.natCast_ediv, Int.fdiv_eq_ediv_of_nonneg _ (Int.natCast_nonneg _)]
  rw [e1, e2, wv, BitVec.toNat_ushiftRight, Nat.shiftRight_eq_div_pow]
theorem run_to32 {c : UInt8} {ds : TypeDesc} (hs : P.underlying T = some ds) (ht : P.underlying T' = some (.int .u32)) (hx : ev f x = .int .u8 c.toNat) :
    (execOp (ev f) ⟨d, .convert T T' x, ty, pos, af, none⟩).run P w = .ok (.value (wv (byW c))) w := by
  rw [run_convInt hs ht hx, wrap32_nat]
  have := c.toNat_lt
  rw [wv, byW, BitVec.toNat_ofNat]
theorem run_to8 {ds : TypeDesc} (hs : P.underlying T = some ds) (ht : P.underlying T' = some (.int .u8)) (hx : ev f x = wv a) :
    (execOp (ev f) ⟨d, .convert T T' x, ty, pos, af, none⟩).run P w = .ok (.value (.int .u8 (UInt8.ofNat a.toNat).toNat)) w := by
  rw [run_convInt hs ht hx]
  have e : IntKind.u8.wrap ((a.toNat : Nat) : Int) = (((UInt8.ofNat a.toNat).toNat : Nat) : Int) := by
    unfold IntKind.wrap
    simp only [IntKind.bits, IntKind.signed, Bool.false_and, Bool.false_eq_true, if_false, UInt8.toNat_ofNat']
    have : (2 : Int) ^ 8 = ((2 ^ 8 : Nat) : Int) := by decide
    rw [this, Int.natCast_emod]
  rw [e]
theorem run_neg64 {c : Int} (hx : ev f x = .int .i64 c) (hc : -9223372036854775807 ≤ c ∧ c ≤ 9223372036854775807) : (execOp (ev f) ⟨d, .unOp .neg T x, ty, pos, af, none⟩).run P w = .ok (.value (.int .i64 (-c))) w := by
  have hw : IntKind.i64.wrap (0 - c) = -c := by rw [show 0 - c = -c by omega]; exact wrap_i64 (by omega)
  have h : (Op.unary .neg (.int .i64 c)).run P w = .ok (.int .i64 (-c)) w := by
    simp only [Op.unary, Op.intArith, hw]
    rfl
  simp [execOp, hx, h]
theorem run_subU {m n : Nat} (hx : ev f x = .int .u64 m) (hy : ev f y = .int .u64 n) (h : n ≤ m) (hm : m < 18446744073709551616) : (execOp (ev f) ⟨d, .binOp .sub T x y T', ty, pos, af, none⟩).run P w = .ok (.value (.int .u64 ((m - n : Nat) : Int))) w := by
  have e : IntKind.u64.wrap ((m : Int) - n) = ((m - n : Nat) : Int) := by
    unfold IntKind.wrap
    simp only [IntKind.bits, IntKind.signed, Bool.false_and, Bool.false_eq_true, if_false]
    have : (2 : Int) ^ 64 = ((18446744073709551616 : Nat) : Int) := by decide
    rw [this, show (m : Int) - n = ((m - n : Nat) : Int) by omega, ← Int.natCast_emod, Nat.mod_eq_of_lt (by omega)]
  have h := run_subW (P := P) (w := w) (d := d) (T := T) (T' := T') (ty := ty) (pos := pos) (af := af) (k := .u64) hx hy
  rw [h, e]
theorem rot_and : ∀ n : Fin 32, n.val ≠ 0 → IntKind.u64.wrap (((BitVec.ofInt 64 (IntKind.u64.wrap (-(n.val : Int)))) &&& (BitVec.ofInt 64 31)).toNat : Int) = ((32 - n.val : Nat) : Int) := by decide
theorem run_rotS {n : Nat} (h1 : 1 ≤ n) (h2 : n ≤ 31) (hx : ev f x = .int .u64 (IntKind.u64.wrap (-(n : Int)))) (hy : ev f y = .int .u64 31) : (execOp (ev f) ⟨d, .binOp .and T x y T', ty, pos, af, none⟩).run P w = .ok (.value (.int .u64 ((32 - n : Nat) : Int))) w := by
  have h := rot_and ⟨n, by omega⟩ (by show n ≠ 0; omega)
  have h' : (Op.intBits .and .u64 (IntKind.u64.wrap (-(n : Int))) 31).run P w = .ok (.int .u64 ((32 - n : Nat) : Int)) w := by
    simp only [Op.intBits, IntKind.bits]
    exact congrArg (fun n => (Result.ok (Value.int .u64 n) w : Result Value)) h
  simp [execOp, hx, hy, go_sem]
  simpa [go_sem] using h'
end
end Go.Gx
/-! Sum1 -/
namespace Go.Gx
open Go.Proofs
set_option linter.unusedVariables false
set_option linter.unusedSimpArgs false
set_option maxRecDepth 100000

theorem rotl_spec {a : Wd} {n : Nat} (h1 : 1 ≤ n) (h2 : n ≤ 31) (w : World) : Calls Try.prog 100 #[wv a, .int .i64 (-(n : Int))] w (Ret0 (wv (rotr a n)) w) := by
  have hs : Step [] [] w w := Step.refl w
  refine calls (n := 17) Try.func100 rfl rfl rfl ?_
  repeat (first | refine CW.seq ?_ | refine CW.block ?_ | refine CW.skip ?_ | refine CW.label ?_ | refine CW.exit ?_ | refine CW.condT rfl ?_ | refine CW.condF rfl ?_)
  refine CW.reg ?_
  refine WL.val rfl (run_assign) ?_
  refine WL.nil ?_
  repeat (first | refine CW.seq ?_ | refine CW.block ?_ | refine CW.skip ?_ | refine CW.label ?_ | refine CW.exit ?_ | refine CW.condT rfl ?_ | refine CW.condF rfl ?_)
  refine CW.reg ?_
  refine WL.val rfl (run_move) ?_
  first | refine WL.val rfl (run_convU64 Try.underlying3 Try.underlying122 rfl (by omega)) ?_ | refine WL.val rfl (run_convInt Try.underlying3 Try.underlying122 rfl) ?_
  refine WL.val rfl (run_rotS h1 h2 rfl rfl) ?_
  refine WL.val rfl (run_assign) ?_
  refine WL.nil ?_
  repeat (first | refine CW.seq ?_ | refine CW.block ?_ | refine CW.skip ?_ | refine CW.label ?_ | refine CW.exit ?_ | refine CW.condT rfl ?_ | refine CW.condF rfl ?_)
  refine CW.reg ?_
  refine WL.val rfl (run_move) ?_
  refine WL.val rfl (run_move) ?_
  refine WL.val rfl (run_shl32 (n := 32 - n) (by omega) rfl rfl) ?_
  refine WL.val rfl (run_move) ?_
  refine WL.val rfl (run_move) ?_
  refine WL.val rfl (run_subU (m := 32) (n := 32 - n) rfl rfl (by omega) (by omega)) ?_
  refine WL.val rfl (run_shr32 (n := 32 - (32 - n)) (by omega) rfl rfl) ?_
  refine WL.val rfl (run_or32 rfl rfl) ?_
  refine WL.val rfl (run_assign) ?_
  refine WL.nil ?_
  repeat (first | refine CW.seq ?_ | refine CW.block ?_ | refine CW.skip ?_ | refine CW.label ?_ | refine CW.exit ?_ | refine CW.condT rfl ?_ | refine CW.condF rfl ?_)
  refine CW.ret ?_
  refine fin_ret1 rfl ?_
  refine ⟨?_, hs⟩
  rw [show rotr a n = (a <<< (32 - n) ||| a >>> (32 - (32 - n))) by rw [rotr, show 32 - (32 - n) = n by omega]]
  rfl
theorem right_spec {a : Wd} {n : Nat} (h1 : 1 ≤ n) (h2 : n ≤ 31) (w : World) : Calls Try.prog 99 #[wv a, .int .i64 n] w (Ret0 (wv (rotr a n)) w) := by
  have hs : Step [] [] w w := Step.refl w
  refine calls (n := 9) Try.func99 rfl rfl rfl ?_
  repeat (first | refine CW.seq ?_ | refine CW.block ?_ | refine CW.skip ?_ | refine CW.label ?_ | refine CW.exit ?_ | refine CW.condT rfl ?_ | refine CW.condF rfl ?_)
  refine CW.reg ?_
  refine WL.val rfl (run_assign) ?_
  refine WL.nil ?_
  repeat (first | refine CW.seq ?_ | refine CW.block ?_ | refine CW.skip ?_ | refine CW.label ?_ | refine CW.exit ?_ | refine CW.condT rfl ?_ | refine CW.condF rfl ?_)
  refine CW.reg ?_
  refine WL.val rfl (run_move) ?_
  refine WL.val rfl (run_move) ?_
  refine WL.val rfl (run_neg64 rfl (by omega)) ?_
  refine WL.enter rfl (run_call en100 rfl rfl) (rotl_spec h1 h2 _) ?_
  rintro e w ⟨rfl, hq⟩
  refine ⟨_, rfl, ?_⟩
  replace hs := hs.callE hq
  refine WL.val rfl (run_assign) ?_
  refine WL.nil ?_
  repeat (first | refine CW.seq ?_ | refine CW.block ?_ | refine CW.skip ?_ | refine CW.label ?_ | refine CW.exit ?_ | refine CW.condT rfl ?_ | refine CW.condF rfl ?_)
  refine CW.ret ?_
  refine fin_ret1 rfl ?_
  exact ⟨rfl, hs⟩
end Go.Gx
/-! QTail -/
namespace Go.Gx
set_option linter.unusedVariables false
set_option linter.unusedSimpArgs false

section qtail
variable {P : Program} {ops : Array Oper} {md : Region.Mode} {C : World → Prop}

def wpAnyH (P : Program) (md : Region.Mode) (ops : Array Oper) (C : World → Prop) (n : Nat) (L : Array Bool → Act → Prop) : Nat → Array Bool → Act → Prop
  | 0, listed, a => L listed a
  | f + 1, listed, a => Region.ready md ops listed ≠ [] ∧ ∀ i ∈ Region.ready md ops listed, i < n ∧ qOp P ops C i (wpAnyH P md ops C n L f (listed.setIfInBounds i true)) a

theorem wpAnyH.out {n g : Nat} {L : Array Bool → Act → Prop} {Q' : Exit → Act → World → Prop} (hL : ∀ listed a w, C w → L listed a → wpAny P md ops Q' g listed a w) :
    ∀ (f : Nat) (listed : Array Bool) (a : Act) (w : World), C w → wpAnyH P md ops C n L f listed a → wpAny P md ops Q' (f + g) listed a w
  | 0, listed, a, w, hw, h => by rw [Nat.zero_add]; exact hL _ _ _ hw h
  | f + 1, listed, a, w, hw, h => by
    rw [show f + 1 + g = (f + g) + 1 by omega]
    exact ⟨fun h0 => absurd h0 h.1, fun i hi => wpOp_of_qOp hw (fun a' w' hw' h' => wpAnyH.out hL f _ a' w' hw' h') (h.2 i hi).2⟩

theorem wpAnyH.first {n i : Nat} {oi : Oper} {v : Value} {L : Array Bool → Act → Prop} (hi : ops[i]? = some oi) (hsel : ∀ (j : Nat) (o : Oper) cs b, ops[j]? = some o → o.op ≠ .select cs b)
    (hs : Region.sinkB md ops n = true) (hc : Region.chainB md ops n = true) (hn : n < ops.size) (hin : i < n)
    (hdone : ∀ listed a, L listed a → ∀ j ∈ Region.ready md ops listed, n ≤ j) :
    ∀ (f : Nat) (listed : Array Bool) (a : Act), HeadInv md ops n listed →
      (∀ j oj, ops[j]? = some oj → j ≠ i → listed.getD j true = false → (∀ e ∈ oj.after, Region.binds md e = true → e.on ≠ i) → oi.apart ops oj = true) →
      i ∈ Region.ready md ops listed → YieldsIn P ops C oi v a →
      wpAnyH P md ops C n L f (listed.setIfInBounds i true) (a.put oi.dst v) → wpAnyH P md ops C n L (f + 1) listed a := by
  intro f
  induction f with
  | zero =>
    intro listed a inv _ hr hy H
    refine ⟨fun h => (by rw [h] at hr; cases hr), fun j hj => ?_⟩
    have hjn : j < n := by
      rcases Nat.lt_or_ge j n with h | h
      · exact h
      · exact absurd hj (tail_waits hs hc hn inv _ i rfl hin (mem_ready.1 hr).1 j h)
    refine ⟨hjn, ?_⟩
    by_cases hji : j = i
    · subst hji; exact hy.qOp hi H
    · have := hdone _ _ H j (ready_mono hj hji)
      omega
  | succ f ih =>
    intro listed a inv hfree hr hy H
    have hun := (mem_ready.1 hr).1
    refine ⟨fun h => (by rw [h] at hr; cases hr), fun j hj => ?_⟩
    have hjn : j < n := by
      rcases Nat.lt_or_ge j n with h | h
      · exact h
      · exact absurd hj (tail_waits hs hc hn inv _ i rfl hin hun j h)
    refine ⟨hjn, ?_⟩
    by_cases hji : j = i
    · subst hji; exact hy.qOp hi H
    · have h1 := (H.2 j (ready_mono hj hji)).2
      have hobt := mem_ready.1 hj
      obtain ⟨hjun, oj, hoj, hall⟩ := hobt
      have hnot : ∀ e ∈ oj.after, Region.binds md e = true → e.on ≠ i := fun e he hb heq => by
        have h1 := hall e he hb
        rw [heq, getD_both hun] at h1
        cases h1
      have h2 := qOp_put hoj (hfree j oj hoj hji hjun hnot) (fun cs b => hsel i oi cs b hi) (fun cs b => hsel j oj cs b hoj) hy h1
      have hfree' : ∀ k ok, ops[k]? = some ok → k ≠ i → (listed.setIfInBounds j true).getD k true = false →
          (∀ e ∈ ok.after, Region.binds md e = true → e.on ≠ i) → oi.apart ops ok = true := fun k ok hk hki hun' hno => by
        refine hfree k ok hk hki ?_ hno
        by_cases hjk : j = k
        · subst hjk; exact hjun
        · rw [getD_set_ne true hjk] at hun'; exact hun'
      refine qOp_mono (fun a' h3 => ih (listed.setIfInBounds j true) a' (inv.set hj hjn) hfree' (ready_mono hr (Ne.symm hji)) h3.1 ?_) h2
      rw [Array.setIfInBounds_comm _ _ hji]
      exact h3.2

theorem wpAnyH.lex {n g : Nat} {Lq : Act → Prop} (hsel : Region.noSelect ops = true) (hs : Region.sinkB md ops n = true) (hc : Region.chainB md ops n = true) (hn : n < ops.size) :
    ∀ (l : List Oper) (k : Nat) (listed : Array Bool) (a : Act), (∀ j, j < l.length → l[j]? = ops[k + j]?) → k + l.length = n → HeadInv md ops n listed →
    Region.lexHead md ops g l.length k listed = true → wpQuiet P ops C Lq l a →
    wpAnyH P md ops C n (fun listed' a' => Region.seqB md ops g n listed' = true ∧ Lq a') l.length listed a
  | [], k, listed, a, _, hk, _, hB, h => by
    have : k = n := by simpa using hk
    subst this
    exact ⟨by simpa [Region.lexHead] using hB, h⟩
  | o :: l, k, listed, a, hl, hk, inv, hB, h => by
    have h0 : ops[k]? = some o := by simpa using (hl 0 (by simp)).symm
    simp only [List.length_cons, Region.lexHead, Bool.and_eq_true] at hB
    obtain ⟨⟨hr, hf⟩, hB'⟩ := hB
    have hkn : k < n := by simp only [List.length_cons] at hk; omega
    have hr' : k ∈ Region.ready md ops listed := by simpa using hr
    have hst : qOp P ops C k (wpQuiet P ops C Lq l) a := by unfold qOp; simp only [h0]; exact h
    have hobt := yieldsIn_of_qOp h0 hst
    obtain ⟨v, hy, hK⟩ := hobt
    exact wpAnyH.first h0 (Region.noSelect_spec hsel) hs hc hn hkn (fun listed' a' hL => seqB_ready hL.1) l.length listed a inv (Region.free_spec h0 hf) hr' hy
      (wpAnyH.lex hsel hs hc hn l (k + 1) _ _ (fun j hj => by have := hl (j + 1) (by simp; omega); simpa [Nat.add_assoc, Nat.add_comm 1 j] using this) (by simp only [List.length_cons] at hk; omega) (inv.set hr' hkn) hB' hK)

theorem wp_region_quiet_tail {id : Nat} {Q : Exit → Act → World → Prop} {a : Act} {w : World} {l1 l2 : List Oper} (n : Nat) (hm : P.follows .mixedOrders = true) (hl : l1.length = n) (hB : Region.lexTailB .any (l1 ++ l2).toArray n = true)
    (hC : C w.drew) (h : wpQuiet P (l1 ++ l2).toArray C (fun a' => ∀ w', C w' → wpList P (l1 ++ l2).toArray Q l2 a' w') l1 a) : (Code.region id (l1 ++ l2).toArray true).wp P Q a w := by
  simp only [Region.lexTailB, Bool.and_eq_true, decide_eq_true_eq] at hB
  obtain ⟨⟨⟨⟨hsel, hn⟩, hs⟩, hc⟩, hlex⟩ := hB
  have hdl : l2.length = (l1 ++ l2).toArray.size - n := by simp; omega
  have inv0 : HeadInv .any (l1 ++ l2).toArray n (Array.replicate (l1 ++ l2).toArray.size false) :=
    ⟨by simp, fun j oj _ hl => (by rw [getD_replicate_false] at hl; cases hl), fun t _ ht => getD_in (by simpa using ht) (getD_replicate_false _ _)⟩
  have H := wpAnyH.lex (md := .any) (g := (l1 ++ l2).toArray.size - n) hsel hs hc hn l1 0 _ a (fun j hj => by
    simp [List.getElem?_append_left hj]) (by simpa using hl) inv0 (by rw [hl]; exact hlex) h
  refine wp_region_any hm ?_
  have := wpAnyH.out (Q' := Q) (g := (l1 ++ l2).toArray.size - n) (fun listed a' w' hw' hL => by
    have := wpAny_of_seq (md := .any) (Q' := Q) l2 n listed a' w' (fun j => by rw [← hl]; simp [List.getElem?_append_right (Nat.le_add_right l1.length j)]) (by rw [hdl]; exact hL.1) (hL.2 w' hw')
    rwa [hdl] at this) _ _ _ _ hC H
  rw [hl, show n + ((l1 ++ l2).toArray.size - n) = (l1 ++ l2).toArray.size by omega] at this
  exact this
end qtail

section
variable {P : Program} {n : Nat} {f : Slots} {ds : List Deferred} {w w0 : World} {S : List Nat} {L : List (Nat × Obj)}
theorem CW.quietT {Q : Post} {id : Nat} {l1 l2 l : List Oper} (k : Nat) (he : l = l1 ++ l2) (hm : P.follows .mixedOrders = true) (hl : l1.length = k) (hB : Region.lexTailB .any l.toArray k = true) (hs : Step S L w0 w)
    (h : QL P l.toArray S L w0 (fun f' => ∀ w', Step S L w0 w' → WL P l.toArray Q n l2 f' ds w') n l1 f ds) : CW P (.region id l.toArray true) Q n f ds w :=
  ⟨fun a ha => by
    subst he
    refine wp_region_quiet_tail (C := fun w => Step S L w0 w) k hm hl hB hs.drew ?_
    have hmono : ∀ (l' : List Oper) (a : Act), wpQuiet P (l1 ++ l2).toArray (fun w => Step S L w0 w) (fun a' => ∃ f', Rep n f' ds a' ∧ ∀ w', Step S L w0 w' → WL P (l1 ++ l2).toArray Q n l2 f' ds w') l' a → wpQuiet P (l1 ++ l2).toArray (fun w => Step S L w0 w) (fun a' => ∀ w', Step S L w0 w' → wpList P (l1 ++ l2).toArray (lift n Q) l2 a' w') l' a := by
      intro l'
      induction l' with
      | nil => exact fun a ⟨f', hr, hq⟩ w' hw' => (hq w' hw').out a hr
      | cons o l' ih =>
        intro a hh
        simp only [wpQuiet] at hh ⊢
        split
        · rename_i hw; rw [if_pos hw] at hh; exact Oper.quiet_mono ih hh
        · rename_i hw; rw [if_neg hw] at hh; exact ih _ hh
    exact hmono _ _ (h.out a ha)⟩
end
end Go.Gx
/-! ShaL -/
namespace Go.Gx
set_option linter.unusedVariables false
set_option linter.unusedSimpArgs false

section
variable {P : Program} {f : Slots} {w : World} {d : Option Tmp} {ty : TypeId} {pos : String} {af : Array Edge} {x y : Operand} {T E : TypeId} {k : IntKind}
theorem run_ixAgg {m bytes i : Nat} {zs cs : List Value} {v : Value} (ht : P.underlying T = some (.array m E)) (hE : Ty P E false 1 bytes zs) (hx : ev f x = .agg cs.toArray) (hy : ev f y = .int k i) (hi : i < m) (hv : cs[i]? = some v) :
    (execOp (ev f) ⟨d, .index T x y, ty, pos, af, none⟩).run P w = .ok (.value v) w := by
  have h1 : (part E cs.toArray (i * 1)).run P w = .ok v w := by
    simp [part, run_isAgg hE, hv]
  have h2 := run_sizeOf hE w
  simp [execOp, hx, hy, Instr.index, asIntOf, run_underlying ht, hi, h2, h1]
  rw [Nat.mul_one] at h1
  rw [h1]
  rfl
end

theorem wvs_len (l : List Wd) : (wvs l).length = l.length := List.length_map ..
theorem wvs_get {l : List Wd} {i : Nat} (h : i < l.length) : (wvs l)[i]? = some (wv (l.getD i 0)) := by
  rw [wvs, List.getElem?_map, List.getElem?_eq_getElem h, List.getD_eq_getElem?_getD, List.getElem?_eq_getElem h]
  rfl
theorem wvs_set (l : List Wd) (i : Nat) (x : Wd) : (wvs l).set i (wv x) = wvs (l.set i x) := (List.map_set ..).symm
theorem u8s_get {l : List UInt8} {i : Nat} (h : i < l.length) : (u8s l)[i]? = some (.int .u8 (l.getD i 0).toNat) := by
  rw [u8s, List.getElem?_map, List.getElem?_eq_getElem h, List.getD_eq_getElem?_getD, List.getElem?_eq_getElem h]
  rfl

def accW (b : List UInt8) (o : Nat) : Nat → Wd
  | 0 => 0
  | k + 1 => accW b o k <<< 8 ||| byW (b.getD (o + k) 0)
theorem accW_word (b : List UInt8) (t : Nat) : accW b (4 * t) 4 = wordB b t := by
  simp only [accW, wordB, BitVec.shiftLeft_or_distrib, ← BitVec.shiftLeft_add, Nat.add_zero]
  rw [show (0 : Wd) <<< (8 + 8 + 8 + 8) = 0#32 by decide, BitVec.zero_or]
theorem sched_len (b : List UInt8) : ∀ t, (sched b t).length = t
  | 0 => rfl
  | t + 1 => by simp [sched, sched_len b t]
def schedA (b : List UInt8) (t : Nat) : List Wd := sched b t ++ List.replicate (64 - t) 0
theorem schedA_len {b : List UInt8} {t : Nat} (h : t ≤ 64) : (schedA b t).length = 64 := by simp [schedA, sched_len]; omega
def schedM (b : List UInt8) (t : Nat) (x : Wd) : List Wd := sched b t ++ x :: List.replicate (63 - t) 0
theorem schedM_len {b : List UInt8} {t : Nat} {x : Wd} (h : t < 64) : (schedM b t x).length = 64 := by simp [schedM, sched_len]; omega
theorem schedM_zero {b : List UInt8} {t : Nat} (h : t < 64) : schedM b t 0 = schedA b t := by
  rw [schedM, schedA, show 64 - t = (63 - t) + 1 by omega, List.replicate_succ]
theorem schedM_set {b : List UInt8} {t : Nat} {x y : Wd} (h : t < 64) : (schedM b t x).set t y = schedM b t y := by
  rw [schedM, List.set_append, sched_len, if_neg (Nat.lt_irrefl t), Nat.sub_self]
  rfl
theorem schedM_at {b : List UInt8} {t : Nat} {x : Wd} : (schedM b t x).getD t 0 = x := by
  rw [schedM, List.getD_eq_getElem?_getD, List.getElem?_append_right (by rw [sched_len]; exact Nat.le_refl _), sched_len, Nat.sub_self]
  rfl
theorem schedM_word {b : List UInt8} {t : Nat} (h : t < 16) : schedM b t (wordB b t) = schedA b (t + 1) := by
  rw [schedM, schedA, sched, if_pos h, show 64 - (t + 1) = 63 - t by omega]
  simp
theorem schedM_next {b : List UInt8} {t : Nat} (h : 16 ≤ t) : schedM b t (wNext (sched b t) t) = schedA b (t + 1) := by
  rw [schedM, schedA, sched, if_neg (by omega), show 64 - (t + 1) = 63 - t by omega]
  simp
theorem schedA_get {b : List UInt8} {t j : Nat} (h : j < t) : (schedA b t).getD j 0 = (sched b t).getD j 0 := by
  rw [List.getD_eq_getElem?_getD, List.getD_eq_getElem?_getD, schedA, List.getElem?_append_left (by rw [sched_len]; exact h)]
theorem wNext_A {b : List UInt8} {t : Nat} (h : 16 ≤ t) : wNext (schedA b t) t = wNext (sched b t) t := by
  unfold wNext
  rw [schedA_get (by omega), schedA_get (by omega), schedA_get (by omega), schedA_get (by omega)]
theorem schedA_all (b : List UInt8) : schedA b 64 = sched b 64 := by simp [schedA]
theorem kL_len : kL.length = 64 := rfl
end Go.Gx
/-! Hash -/
namespace Go.Gx
set_option linter.unusedVariables false
set_option linter.unusedSimpArgs false

def hcs (s : St8) (bg : Bool) (rest : List UInt8) (n : Nat) : List Value := wvs s.l ++ .bool bg :: (u8s rest ++ [.int .i64 n])
def cur (bg : Bool) (s : St8) : St8 := if bg then s else iv8
structure HInv (d : List UInt8) (s : St8) (bg : Bool) (rest : List UInt8) : Prop where
  len : rest.length = 64
  st : cur bg s = stBlocks d (d.length / 64)
  rest : rest.take (d.length % 64) = d.drop (64 * (d.length / 64))
theorem stBlocks_append {d x : List UInt8} : ∀ {q : Nat}, 64 * q ≤ d.length → stBlocks (d ++ x) q = stBlocks d q
  | 0, _ => rfl
  | q + 1, h => by
    rw [stBlocks, stBlocks, stBlocks_append (by omega), List.drop_append_of_le_length (by omega), List.take_append_of_le_length (by rw [List.length_drop]; omega)]
/-- The rest behind a copy of bytes into it. -/
def restW (rest : List UInt8) (a : Nat) (y : List UInt8) : List UInt8 := rest.take a ++ y ++ rest.drop (a + y.length)
theorem restW_len {rest : List UInt8} {a : Nat} {y : List UInt8} (h : rest.length = 64) (ha : a + y.length ≤ 64) : (restW rest a y).length = 64 := by simp [restW]; omega
theorem HInv.zero : HInv [] ⟨0, 0, 0, 0, 0, 0, 0, 0⟩ false (List.replicate 64 0) := ⟨by simp, rfl, by simp⟩
theorem HInv.part {d : List UInt8} {s : St8} {bg : Bool} {rest y : List UInt8} (h : HInv d s bg rest) (hy : d.length % 64 + y.length < 64) : HInv (d ++ y) s bg (restW rest (d.length % 64) y) := by
  obtain ⟨h1, h2, h3⟩ := h
  have e1 : (d ++ y).length / 64 = d.length / 64 := by rw [List.length_append]; omega
  have e2 : (d ++ y).length % 64 = d.length % 64 + y.length := by rw [List.length_append]; omega
  refine ⟨restW_len h1 (by omega), ?_, ?_⟩
  · rw [e1, stBlocks_append (by omega)]; exact h2
  · rw [e1, e2, List.drop_append_of_le_length (by omega), ← h3, restW]
    have hl : (rest.take (d.length % 64) ++ y).length = d.length % 64 + y.length := by simp; omega
    rw [← hl, List.take_left]
theorem HInv.full {d : List UInt8} {s : St8} {bg : Bool} {rest y : List UInt8} (h : HInv d s bg rest) (hy : d.length % 64 + y.length = 64) : HInv (d ++ y) (stBlock (cur bg s) (restW rest (d.length % 64) y)) true (restW rest (d.length % 64) y) := by
  obtain ⟨h1, h2, h3⟩ := h
  have e1 : (d ++ y).length / 64 = d.length / 64 + 1 := by rw [List.length_append]; omega
  have e2 : (d ++ y).length % 64 = 0 := by rw [List.length_append]; omega
  have e3 : (d ++ y).drop (64 * (d.length / 64)) = restW rest (d.length % 64) y := by
    rw [List.drop_append_of_le_length (by omega), ← h3, restW, List.drop_of_length_le (by omega : rest.length ≤ d.length % 64 + y.length), List.append_nil]
  have hl := restW_len (rest := rest) (a := d.length % 64) (y := y) h1 (by omega)
  refine ⟨hl, ?_, ?_⟩
  · rw [e1, stBlocks, e3, stBlocks_append (d := d) (x := y) (q := d.length / 64) (by omega), List.take_of_length_le (Nat.le_of_eq hl), ← h2]; rfl
  · rw [e1, e2, List.take_zero, List.drop_of_length_le (by rw [List.length_append]; omega)]
theorem hcs_len {s : St8} {bg : Bool} {rest : List UInt8} {n : Nat} (h : rest.length = 64) : (hcs s bg rest n).length = 74 := by
  simp [hcs, wvs_len, u8s, h, St8.l]
theorem hcs_copy {s : St8} {bg : Bool} {rest y : List UInt8} {n a : Nat} (h : rest.length = 64) (ha : a + y.length ≤ 64) : splice (hcs s bg rest n) (9 + a) (u8s y) = hcs s bg (restW rest a y) n := by
  have e : hcs s bg rest n = (wvs s.l ++ [Value.bool bg] ++ u8s (rest.take a)) ++ (u8s (rest.drop a) ++ [Value.int .i64 n]) := by
    rw [hcs, show u8s rest = u8s (rest.take a) ++ u8s (rest.drop a) by rw [u8s, u8s, u8s, ← List.map_append, List.take_append_drop]]
    simp
  have hl : (wvs s.l ++ [Value.bool bg] ++ u8s (rest.take a)).length = 9 + a := by simp [wvs_len, u8s, St8.l]; omega
  have hyl : (u8s y).length = y.length := by rw [u8s, List.length_map]
  rw [e, ← hl, splice_end _ _ _ (by simp [u8s]; omega), hcs, restW]
  have e2 : (u8s (rest.drop a) ++ [Value.int .i64 n]).drop (u8s y).length = u8s (rest.drop (a + y.length)) ++ [Value.int .i64 n] := by
    rw [List.drop_append_of_le_length (by simp [u8s]; omega), hyl, u8s, u8s, ← List.map_drop, List.drop_drop]
  rw [e2]
  simp [u8s]
theorem hcs_setN {s : St8} {bg : Bool} {rest : List UInt8} {n m : Nat} (h : rest.length = 64) : (hcs s bg rest n).set 73 (.int .i64 m) = hcs s bg rest m := by
  have hl : (wvs s.l ++ Value.bool bg :: u8s rest).length = 73 := by simp [wvs_len, u8s, h, St8.l]
  have e : ∀ k : Nat, hcs s bg rest k = (wvs s.l ++ Value.bool bg :: u8s rest) ++ [Value.int .i64 k] := fun k => by simp [hcs]
  rw [e, e, List.set_append, hl, if_neg (by omega)]
  rfl
theorem hcs_n {s : St8} {bg : Bool} {rest : List UInt8} {n : Nat} (h : rest.length = 64) : (hcs s bg rest n)[73]? = some (.int .i64 n) := by
  have hl : (wvs s.l ++ Value.bool bg :: u8s rest).length = 73 := by simp [wvs_len, u8s, h, St8.l]
  have e : hcs s bg rest n = (wvs s.l ++ Value.bool bg :: u8s rest) ++ [Value.int .i64 n] := by simp [hcs]
  rw [e, List.getElem?_append_right (by omega), hl]
  rfl
section
variable {P : Program} {f : Slots} {w : World} {d : Option Tmp} {ty : TypeId} {pos : String} {af : Array Edge} {x y : Operand} {T T' E : TypeId} {k : IntKind}
theorem run_remN {n m : Nat} (hx : ev f x = .int k n) (hy : ev f y = .int k m) (hm : m ≠ 0) : (execOp (ev f) ⟨d, .binOp .rem T x y T', ty, pos, af, none⟩).run P w = .ok (.value (.int k ((n % m : Nat) : Int))) w := by
  rw [run_rem hx hy (by omega), Int.ofNat_tmod]
theorem run_sliceArrE {agg : Bool} {n bytes : Nat} {zs : List Value} {bk off lo hi m : Nat} {v : Value} {xl xh : Option Operand} (ht : P.underlying T = some (.array m E)) (hE : Ty P E agg n bytes zs) (hx : ev f x = .pointer (some ⟨bk, off, none⟩))
    (hl : LoOk (xl.map (ev f)) lo) (hh : HiOk (xh.map (ev f)) hi m) (h1 : lo ≤ hi) (h2 : hi ≤ m) (hv : cutSl n bk off lo hi m = v) : (execOp (ev f) ⟨d, .slice T x xl xh none, ty, pos, af, none⟩).run P w = .ok (.value v) w := by
  rw [← hv]
  exact run_sliceArr ht hE hx hl hh h1 h2
end
end Go.Gx
/-! Sum2 -/
namespace Go.Gx
open Go.Proofs
set_option linter.unusedVariables false
set_option linter.unusedSimpArgs false
set_option maxRecDepth 100000

theorem bld_rounds (w : World) : (Instr.build 145 (List.toArray [(0, .int .u32 1116352408), (1, .int .u32 1899447441), (2, .int .u32 3049323471), (3, .int .u32 3921009573), (4, .int .u32 961987163), (5, .int .u32 1508970993), (6, .int .u32 2453635748), (7, .int .u32 2870763221), (8, .int .u32 3624381080), (9, .int .u32 310598401), (10, .int .u32 607225278), (11, .int .u32 1426881987), (12, .int .u32 1925078388), (13, .int .u32 2162078206), (14, .int .u32 2614888103), (15, .int .u32 3248222580), (16, .int .u32 3835390401), (17, .int .u32 4022224774), (18, .int .u32 264347078), (19, .int .u32 604807628), (20, .int .u32 770255983), (21, .int .u32 1249150122), (22, .int .u32 1555081692), (23, .int .u32 1996064986), (24, .int .u32 2554220882), (25, .int .u32 2821834349), (26, .int .u32 2952996808), (27, .int .u32 3210313671), (28, .int .u32 3336571891), (29, .int .u32 3584528711), (30, .int .u32 113926993), (31, .int .u32 338241895), (32, .int .u32 666307205), (33, .int .u32 773529912), (34, .int .u32 1294757372), (35, .int .u32 1396182291), (36, .int .u32 1695183700), (37, .int .u32 1986661051), (38, .int .u32 2177026350), (39, .int .u32 2456956037), (40, .int .u32 2730485921), (41, .int .u32 2820302411), (42, .int .u32 3259730800), (43, .int .u32 3345764771), (44, .int .u32 3516065817), (45, .int .u32 3600352804), (46, .int .u32 4094571909), (47, .int .u32 275423344), (48, .int .u32 430227734), (49, .int .u32 506948616), (50, .int .u32 659060556), (51, .int .u32 883997877), (52, .int .u32 958139571), (53, .int .u32 1322822218), (54, .int .u32 1537002063), (55, .int .u32 1747873779), (56, .int .u32 1955562222), (57, .int .u32 2024104815), (58, .int .u32 2227730452), (59, .int .u32 2361852424), (60, .int .u32 2428436474), (61, .int .u32 2756734187), (62, .int .u32 3204031479), (63, .int .u32 3329325298)])).run Try.prog w = .ok (.agg (wvs kL).toArray) w := by kernel_rfl
theorem bld_iv (w : World) : (Instr.build 125 (List.toArray [(0, .int .u32 1779033703), (1, .int .u32 3144134277), (2, .int .u32 1013904242), (3, .int .u32 2773480762), (4, .int .u32 1359893119), (5, .int .u32 2600822924), (6, .int .u32 528734635), (7, .int .u32 1541459225)])).run Try.prog w = .ok (.agg (wvs iv8.l).toArray) w := by kernel_rfl
theorem Cells1.wvs (l : List Wd) : Cells1 (wvs l) := fun v hv => by
  have hobt := List.mem_map.1 hv
  obtain ⟨x, _, rfl⟩ := hobt
  rfl

theorem rounds_spec (w : World) : Calls Try.prog 98 #[] w (Ret0 (.agg (wvs kL).toArray) w) := by
  have hs : Step [] [] w w := Step.refl w
  refine calls (n := 2) Try.func98 rfl rfl rfl ?_
  repeat (first | refine CW.seq ?_ | refine CW.block ?_ | refine CW.skip ?_ | refine CW.label ?_ | refine CW.exit ?_ | refine CW.condT rfl ?_ | refine CW.condF rfl ?_)
  refine CW.reg ?_
  refine WL.alloc ty145 rfl hs (fun b0 w hs => ?_)
  refine WL.nil ?_
  repeat (first | refine CW.seq ?_ | refine CW.block ?_ | refine CW.skip ?_ | refine CW.label ?_ | refine CW.exit ?_ | refine CW.condT rfl ?_ | refine CW.condF rfl ?_)
  refine CW.reg ?_
  refine WL.val rfl (run_build rfl (bld_rounds _)) ?_
  first | refine WL.storeAll ty145 rfl rfl ((by rfl)) (Cells1.wvs _) hs (by first | rfl | assumption) (fun w hs => ?_) | refine WL.storeAll_1 ty145 rfl rfl ((by rfl)) (Cells1.wvs _) hs (by first | rfl | assumption) (fun w hs => ?_) | refine WL.storeAll_2 ty145 rfl rfl ((by rfl)) (Cells1.wvs _) hs (by first | rfl | assumption) (fun w hs => ?_) | refine WL.storeAll_3 ty145 rfl rfl ((by rfl)) (Cells1.wvs _) hs (by first | rfl | assumption) (fun w hs => ?_) | refine WL.storeAll_4 ty145 rfl rfl ((by rfl)) (Cells1.wvs _) hs (by first | rfl | assumption) (fun w hs => ?_) | refine WL.storeAll ty145 rfl rfl ((by rfl)) (Cells1.wvs _) hs (by first | rfl | assumption) (fun w hs => ?_)
  refine WL.nil ?_
  repeat (first | refine CW.seq ?_ | refine CW.block ?_ | refine CW.skip ?_ | refine CW.label ?_ | refine CW.exit ?_ | refine CW.condT rfl ?_ | refine CW.condF rfl ?_)
  refine CW.ret ?_
  first | refine fin_cell1 rfl rfl (run_loadVarN ty145 (by first | rfl | assumption | (simp; done)) hs.a0) ?_ | refine fin_cell1 rfl rfl (run_loadVarN ty145 (by first | rfl | assumption | (simp; done)) hs.a1) ?_ | refine fin_cell1 rfl rfl (run_loadVarN ty145 (by first | rfl | assumption | (simp; done)) hs.a2) ?_ | refine fin_cell1 rfl rfl (run_loadVarN ty145 (by first | rfl | assumption | (simp; done)) hs.a3) ?_ | refine fin_cell1 rfl rfl (run_loadVarN ty145 (by first | rfl | assumption | (simp; done)) hs.a4) ?_ | refine fin_cell1 rfl rfl (run_loadVarN ty145 (by first | rfl | assumption | (simp; done)) hs.a5) ?_
  exact ⟨rfl, hs.clear⟩
theorem state_spec {b : Nat} {s : St8} {bg : Bool} {rest : List UInt8} {n : Nat} (w0 : World) (hb : w0.heap[b]? = some (blk 129 (hcs s bg rest n))) :
    Calls Try.prog 79 #[.pointer (some ⟨b, 0, none⟩)] w0 (Ret0 (.agg (wvs (cur bg s).l).toArray) w0) := by
  have hs : Step [] [] w0 w0 := Step.refl w0
  have hat : At w0 b 0 (hcs s bg rest n) := At.of_blk hb
  cases bg
  · refine calls (n := 12) Try.func79 rfl rfl rfl ?_
    repeat (first | refine CW.seq ?_ | refine CW.block ?_ | refine CW.skip ?_ | refine CW.label ?_ | refine CW.exit ?_ | refine CW.condT rfl ?_ | refine CW.condF rfl ?_)
    refine CW.reg ?_
    refine WL.alloc ty125 rfl hs (fun b2 w hs => ?_)
    refine WL.nil ?_
    repeat (first | refine CW.seq ?_ | refine CW.block ?_ | refine CW.skip ?_ | refine CW.label ?_ | refine CW.exit ?_ | refine CW.condT rfl ?_ | refine CW.condF rfl ?_)
    refine CW.reg ?_
    refine WL.val rfl (run_move) ?_
    refine WL.val rfl (run_nilCheck rfl) ?_
    refine WL.val rfl (run_field (o' := 8) Try.underlying129 rfl ty4 rfl rfl rfl) ?_
    refine WL.val rfl (run_load1 ty4 rfl ((hat.step hs (by simp)).cell (j := 8) rfl)) ?_
    refine WL.nil ?_
    repeat (first | refine CW.seq ?_ | refine CW.block ?_ | refine CW.skip ?_ | refine CW.label ?_ | refine CW.exit ?_)
    first | refine CW.condP rfl (fun h => ?_) (fun h => ?_) | refine CW.cond rfl (fun h => ?_) (fun h => ?_)
    · cases h
    · repeat (first | refine CW.seq ?_ | refine CW.block ?_ | refine CW.skip ?_ | refine CW.label ?_ | refine CW.exit ?_ | refine CW.condT rfl ?_ | refine CW.condF rfl ?_)
      refine CW.reg ?_
      refine WL.val rfl (run_build rfl (bld_iv _)) ?_
      first | refine WL.storeAll ty125 rfl rfl ((by rfl)) (Cells1.wvs _) hs (by first | rfl | assumption) (fun w hs => ?_) | refine WL.storeAll_1 ty125 rfl rfl ((by rfl)) (Cells1.wvs _) hs (by first | rfl | assumption) (fun w hs => ?_) | refine WL.storeAll_2 ty125 rfl rfl ((by rfl)) (Cells1.wvs _) hs (by first | rfl | assumption) (fun w hs => ?_) | refine WL.storeAll_3 ty125 rfl rfl ((by rfl)) (Cells1.wvs _) hs (by first | rfl | assumption) (fun w hs => ?_) | refine WL.storeAll_4 ty125 rfl rfl ((by rfl)) (Cells1.wvs _) hs (by first | rfl | assumption) (fun w hs => ?_) | refine WL.storeAll ty125 rfl rfl ((by rfl)) (Cells1.wvs _) hs (by first | rfl | assumption) (fun w hs => ?_)
      refine WL.nil ?_
      repeat (first | refine CW.seq ?_ | refine CW.block ?_ | refine CW.skip ?_ | refine CW.label ?_ | refine CW.exit ?_ | refine CW.condT rfl ?_ | refine CW.condF rfl ?_)
      refine CW.ret ?_
      first | refine fin_cell1 rfl rfl (run_loadVarN ty125 (by first | rfl | assumption | (simp; done)) hs.a0) ?_ | refine fin_cell1 rfl rfl (run_loadVarN ty125 (by first | rfl | assumption | (simp; done)) hs.a1) ?_ | refine fin_cell1 rfl rfl (run_loadVarN ty125 (by first | rfl | assumption | (simp; done)) hs.a2) ?_ | refine fin_cell1 rfl rfl (run_loadVarN ty125 (by first | rfl | assumption | (simp; done)) hs.a3) ?_ | refine fin_cell1 rfl rfl (run_loadVarN ty125 (by first | rfl | assumption | (simp; done)) hs.a4) ?_ | refine fin_cell1 rfl rfl (run_loadVarN ty125 (by first | rfl | assumption | (simp; done)) hs.a5) ?_
      exact ⟨rfl, hs.clear⟩
  · refine calls (n := 12) Try.func79 rfl rfl rfl ?_
    repeat (first | refine CW.seq ?_ | refine CW.block ?_ | refine CW.skip ?_ | refine CW.label ?_ | refine CW.exit ?_ | refine CW.condT rfl ?_ | refine CW.condF rfl ?_)
    refine CW.reg ?_
    refine WL.alloc ty125 rfl hs (fun b2 w hs => ?_)
    refine WL.nil ?_
    repeat (first | refine CW.seq ?_ | refine CW.block ?_ | refine CW.skip ?_ | refine CW.label ?_ | refine CW.exit ?_ | refine CW.condT rfl ?_ | refine CW.condF rfl ?_)
    refine CW.reg ?_
    refine WL.val rfl (run_move) ?_
    refine WL.val rfl (run_nilCheck rfl) ?_
    refine WL.val rfl (run_field (o' := 8) Try.underlying129 rfl ty4 rfl rfl rfl) ?_
    refine WL.val rfl (run_load1 ty4 rfl ((hat.step hs (by simp)).cell (j := 8) rfl)) ?_
    refine WL.nil ?_
    repeat (first | refine CW.seq ?_ | refine CW.block ?_ | refine CW.skip ?_ | refine CW.label ?_ | refine CW.exit ?_)
    first | refine CW.condP rfl (fun h => ?_) (fun h => ?_) | refine CW.cond rfl (fun h => ?_) (fun h => ?_)
    · repeat (first | refine CW.seq ?_ | refine CW.block ?_ | refine CW.skip ?_ | refine CW.label ?_ | refine CW.exit ?_ | refine CW.condT rfl ?_ | refine CW.condF rfl ?_)
      refine CW.reg ?_
      refine WL.val rfl (run_move) ?_
      refine WL.val rfl (run_nilCheck rfl) ?_
      refine WL.val rfl (run_field (o' := 0) Try.underlying129 rfl ty125 rfl rfl rfl) ?_
      refine WL.val rfl (run_loadN ty125 rfl (by rfl) ((hat.step hs (by simp)).left)) ?_
      first | refine WL.storeAll ty125 rfl rfl ((by rfl)) (Cells1.wvs _) hs (by first | rfl | assumption) (fun w hs => ?_) | refine WL.storeAll_1 ty125 rfl rfl ((by rfl)) (Cells1.wvs _) hs (by first | rfl | assumption) (fun w hs => ?_) | refine WL.storeAll_2 ty125 rfl rfl ((by rfl)) (Cells1.wvs _) hs (by first | rfl | assumption) (fun w hs => ?_) | refine WL.storeAll_3 ty125 rfl rfl ((by rfl)) (Cells1.wvs _) hs (by first | rfl | assumption) (fun w hs => ?_) | refine WL.storeAll_4 ty125 rfl rfl ((by rfl)) (Cells1.wvs _) hs (by first | rfl | assumption) (fun w hs => ?_) | refine WL.storeAll ty125 rfl rfl ((by rfl)) (Cells1.wvs _) hs (by first | rfl | assumption) (fun w hs => ?_)
      refine WL.nil ?_
      repeat (first | refine CW.seq ?_ | refine CW.block ?_ | refine CW.skip ?_ | refine CW.label ?_ | refine CW.exit ?_ | refine CW.condT rfl ?_ | refine CW.condF rfl ?_)
      refine CW.ret ?_
      first | refine fin_cell1 rfl rfl (run_loadVarN ty125 (by first | rfl | assumption | (simp; done)) hs.a0) ?_ | refine fin_cell1 rfl rfl (run_loadVarN ty125 (by first | rfl | assumption | (simp; done)) hs.a1) ?_ | refine fin_cell1 rfl rfl (run_loadVarN ty125 (by first | rfl | assumption | (simp; done)) hs.a2) ?_ | refine fin_cell1 rfl rfl (run_loadVarN ty125 (by first | rfl | assumption | (simp; done)) hs.a3) ?_ | refine fin_cell1 rfl rfl (run_loadVarN ty125 (by first | rfl | assumption | (simp; done)) hs.a4) ?_ | refine fin_cell1 rfl rfl (run_loadVarN ty125 (by first | rfl | assumption | (simp; done)) hs.a5) ?_
      exact ⟨rfl, hs.clear⟩
    · cases h
end Go.Gx
/-! Base -/
namespace Go.Gx
set_option linter.unusedVariables false
set_option linter.unusedSimpArgs false

theorem bytesLess_nil (s : List UInt8) : Op.bytesLess [] s = true ↔ s ≠ [] := by cases s <;> simp [Op.bytesLess]
theorem Step.own {S : List Nat} {L1 L : List (Nat × Obj)} {w0 w : World} (h : Step S (L1 ++ L) w0 w) : Step (L1.map (·.1)) L1 w w :=
  Step.start h.dropR.nodup h.dropR.has
theorem Step.own0 {S : List Nat} {L1 : List (Nat × Obj)} {w0 w : World} (h : Step S L1 w0 w) : Step (L1.map (·.1)) L1 w w := Step.start h.nodup h.has
theorem Step.rot1 {S : List Nat} {p : Nat × Obj} {L : List (Nat × Obj)} {w0 w : World} (h : Step S (p :: L) w0 w) : Step S (L ++ [p]) w0 w := Step.append_comm (L1 := [p]) h
theorem OwnSl.one {E sz k : Nat} {v : Value} {xs : List Value} {Lv : List (Nat × Obj)} (h : OwnSl E sz v k xs Lv) : v.oneCell' = true := by
  have hobt := h.form
  obtain ⟨a, c, rfl⟩ := hobt
  rfl
theorem u8s_append (a b : List UInt8) : u8s (a ++ b) = u8s a ++ u8s b := by simp [u8s]
theorem u8s_len (a : List UInt8) : (u8s a).length = a.length := by simp [u8s]
theorem Sl.of_own {S : List Nat} {L : List (Nat × Obj)} {w0 w : World} {b T n c : Nat} {cs more : List Value} (hs : Step S L w0 w) (hm : (b, blk T (cs ++ more)) ∈ L) {sz : Nat} (hl : cs.length = n * sz) : Sl w sz (.slice (some ⟨b, 0, none⟩) n c) n cs :=
  .mk hl (At.of_blk (hs.get hm)).left
theorem Sl.own1 {S : List Nat} {L : List (Nat × Obj)} {w0 w : World} {b T n c : Nat} {cs : List Value} (hs : Step S ((b, blk T cs) :: L) w0 w) {sz : Nat} (hl : cs.length = n * sz) : Sl w sz (.slice (some ⟨b, 0, none⟩) n c) n cs :=
  .mk hl (At.of_blk hs.hd)
theorem Step.disj {S : List Nat} {L1 L2 : List (Nat × Obj)} {w0 w : World} (h : Step S (L1 ++ L2) w0 w) : ∀ p ∈ L1, p.1 ∉ L2.map (·.1) := by
  intro p hp hm
  have hn := h.nodup
  rw [List.map_append, List.nodup_append] at hn
  exact hn.2.2 p.1 (List.mem_map_of_mem hp) p.1 hm rfl
theorem OwnSl.outside {E sz k : Nat} {v : Value} {xs : List Value} {Lv : List (Nat × Obj)} {S : List Nat} (h : OwnSl E sz v k xs Lv) (hd : ∀ p ∈ Lv, p.1 ∉ S) : Outside v S := by
  obtain ⟨hl, ⟨rfl, rfl, rfl⟩ | ⟨b, cap, more, rfl, rfl, hc⟩⟩ := h
  · trivial
  · exact hd _ (List.mem_singleton.2 rfl)
/-- What was there before is outside what is new, and outside what is ours but not S's. -/
theorem Outside.fresh {S S' : List Nat} {L : List (Nat × Obj)} {w0 w : World} {sz n : Nat} {v : Value} {cs : List Value} (hv : Sl w0 sz v n cs) (hne : cs ≠ []) (hs : Step S L w0 w) (hS : Outside v S) (hsub : ∀ k ∈ S', k ∈ L.map (·.1)) : Outside v S' := by
  obtain ⟨hl, ⟨a, c, rfl, rfl⟩ | ⟨b, off, c, rfl, hat⟩⟩ := hv
  · exact absurd (List.eq_nil_of_length_eq_zero (by simpa using hl)) hne
  · intro hk
    have hobt := List.mem_map.1 (hsub _ hk)
    obtain ⟨p, hp, hpb⟩ := hobt
    have hlt := hat.lt hne
    rcases hs.new p hp with h1 | h1
    · exact hS (hpb ▸ h1)
    · have : p.1 = b := hpb
      omega
section
variable {P : Program} {f : Slots} {w : World} {d : Option Tmp} {ty : TypeId} {pos : String} {af : Array Edge} {x y : Operand} {T T' : TypeId} {k k' : IntKind}
theorem run_shrN {u j : Nat} (hx : ev f x = .int k u) (hy : ev f y = .int k' (8 * j : Nat)) (hj : 8 * j < k.bits) :
    (execOp (ev f) ⟨d, .binOp .shr T x y T', ty, pos, af, none⟩).run P w = .ok (.value (.int k (u / 256 ^ j : Nat))) w := by
  rw [run_shr hx hy (by omega)]
  have h1 : min ((8 * j : Nat) : Int).toNat k.bits = 8 * j := by rw [Int.toNat_natCast]; omega
  rw [h1, Int.fdiv_eq_ediv_of_nonneg _ (by exact Int.le_of_lt (Int.pow_pos (by decide)))]
  have e : (2 : Int) ^ (8 * j) = ((256 ^ j : Nat) : Int) := by
    rw [show (256 : Nat) = 2 ^ 8 from rfl, ← Nat.pow_mul]
    exact (Int.natCast_pow 2 (8 * j)).symm
  rw [e, Int.natCast_ediv]
theorem run_convU8 {u : Nat} {ds : TypeDesc} (hs : P.underlying T = some ds) (ht : P.underlying T' = some (.int .u8)) (hx : ev f x = .int k u) :
    (execOp (ev f) ⟨d, .convert T T' x, ty, pos, af, none⟩).run P w = .ok (.value (.int .u8 (UInt8.ofNat u).toNat)) w := by
  rw [run_convInt hs ht hx]
  congr 3
theorem run_convU64 {u : Nat} {ds : TypeDesc} (hs : P.underlying T = some ds) (ht : P.underlying T' = some (.int .u64)) (hx : ev f x = .int k u) (hu : u < 18446744073709551616) :
    (execOp (ev f) ⟨d, .convert T T' x, ty, pos, af, none⟩).run P w = .ok (.value (.int .u64 u)) w := by
  rw [run_convInt hs ht hx]
  have : IntKind.u64.wrap (u : Int) = u := by
    have e : (2 : Int) ^ IntKind.u64.bits = 18446744073709551616 := by decide
    simp only [IntKind.wrap, IntKind.signed, Bool.false_and, Bool.false_eq_true, if_false, e]
    omega
  rw [this]
theorem run_convI64 {a : Int} {ds : TypeDesc} (hs : P.underlying T = some ds) (ht : P.underlying T' = some (.int .i64)) (hx : ev f x = .int k a) (hu : -9223372036854775808 ≤ a ∧ a ≤ 9223372036854775807) :
    (execOp (ev f) ⟨d, .convert T T' x, ty, pos, af, none⟩).run P w = .ok (.value (.int .i64 a)) w := by
  rw [run_convInt hs ht hx, wrap_i64 hu]
end
theorem Step.cast {S : List Nat} {b : Nat} {T : TypeId} {cs cs' : List Value} {L : List (Nat × Obj)} {w0 w : World} (h : Step S ((b, blk T cs) :: L) w0 w) (e : cs = cs') : Step S ((b, blk T cs') :: L) w0 w := e ▸ h
theorem fold_splice (off : Nat) : ∀ (vs : List Value) (k : Nat) (cs : List Value), off + k + vs.length ≤ cs.length → (vs.zipIdx k).foldl (fun (a : Array Value) (x : Value × Nat) => a.setIfInBounds (off + x.2) x.1) cs.toArray = (splice cs (off + k) vs).toArray
  | [], k, cs, _ => by rw [splice_nil]; rfl
  | v :: vs, k, cs, h => by
    simp only [List.length_cons] at h
    rw [List.zipIdx_cons, List.foldl_cons, List.setIfInBounds_toArray, fold_splice off vs (k + 1) _ (by rw [List.length_set]; omega), ← Nat.add_assoc, splice_cons v vs (by omega)]
theorem filled1 {sz : Nat} {zs cs : List Value} (h : cs.length = sz) (hz : zs.length = sz) : Filled sz 1 zs [(0, .agg cs.toArray)] cs := by
  have e : ((Value.agg cs.toArray).cells.zipIdx.foldl (fun (a : Array Value) (x : Value × Nat) => a.setIfInBounds (0 * sz + x.2) x.1) (List.replicate 1 zs).flatten.toArray) = cs.toArray := by
    have h1 := fold_splice 0 cs 0 zs (by omega)
    have h2 : splice zs 0 cs = cs := by simp [splice, List.drop_of_length_le (show zs.length ≤ cs.length by omega)]
    simp only [Value.cells, Nat.zero_mul, List.replicate_one, List.flatten_cons, List.flatten_nil, List.append_nil, ← Array.foldl_toList, Array.toList_zipIdx]
    rw [h1, h2]
  unfold Filled
  simp only [Instr.fill]
  rw [if_neg (by simp [Value.cells, h, hz]), e]
theorem OwnSl.room {E sz k : Nat} {v : Value} {xs : List Value} {Lv : List (Nat × Obj)} (h : OwnSl E sz v k xs Lv) (hsz : 0 < sz) : Room v := by
  obtain ⟨hl, ⟨rfl, rfl, rfl⟩ | ⟨b, cap, more, rfl, rfl, hc⟩⟩ := h
  · exact Nat.le_refl 0
  · show k ≤ cap
    rw [List.length_append, hl] at hc
    exact Nat.le_of_mul_le_mul_right (by omega : k * sz ≤ cap * sz) hsz
theorem Sl.stepK {S : List Nat} {L : List (Nat × Obj)} {w w' : World} {sz n : Nat} {v : Value} {cs : List Value} (h : Sl w sz v n cs) (hs : Step S L w w') (hS : cs = [] ∨ Outside v S) : Sl w' sz v n cs := by
  rcases hS with rfl | hS
  · obtain ⟨hl, h | ⟨b, off, c, hv, _⟩⟩ := h
    · exact ⟨hl, .inl h⟩
    · exact ⟨hl, .inr ⟨b, off, c, hv, At.nil⟩⟩
  · exact h.step hs hS
/-- What a new block is beside what was there. -/
theorem Outside.newer {S : List Nat} {L : List (Nat × Obj)} {w0 w : World} {sz n : Nat} {v : Value} {cs : List Value} (h : Sl w0 sz v n cs) (hs : Step [] L w0 w) (hsub : ∀ k ∈ S, k ∈ L.map (·.1)) : cs = [] ∨ Outside v S := by
  by_cases hc : cs = []
  · exact .inl hc
  · exact .inr (Outside.fresh h hc hs (outside_nil v) hsub)
theorem Step.two {S : List Nat} {p a b : Nat × Obj} {X Y : List (Nat × Obj)} {w0 w : World} (h : Step S (p :: (X ++ (a :: b :: Y))) w0 w) : Step S (p :: a :: b :: (X ++ Y)) w0 w :=
  h.perm (List.Perm.cons _ (List.perm_middle.trans (List.Perm.cons _ List.perm_middle)))
theorem run_sliceSlE {P : Program} {f : Slots} {w : World} {d : Option Tmp} {ty : TypeId} {pos : String} {af : Array Edge} {x : Operand} {T E : TypeId} {len cap : Nat} {agg : Bool} {n bytes : Nat} {zs : List Value} {bk off lo hi m : Nat} {xl xh xm : Option Operand} {v : Value} (ht : P.underlying T = some (.slice E)) (hE : Ty P E agg n bytes zs) (hx : ev f x = .slice (some ⟨bk, off, none⟩) len cap)
    (hl : LoOk (xl.map (ev f)) lo) (hh : HiOk (xh.map (ev f)) hi len) (hm : HiOk (xm.map (ev f)) m cap) (hs : xm.isSome = true → xh.isSome = true)
    (h1 : lo ≤ hi) (h2 : hi ≤ m) (h3 : m ≤ cap) (hv : cutSl n bk off lo hi m = v) :
    (execOp (ev f) ⟨d, .slice T x xl xh xm, ty, pos, af, none⟩).run P w = .ok (.value v) w := by
  rw [← hv]
  exact run_sliceSl ht hE hx hl hh hm hs h1 h2 h3
theorem getD_of {bs : List UInt8} {p : Nat} (h : p < bs.length) : bs.getD p 0 = bs[p] := by simp [h]
theorem cell_u8 {w : World} {a : Option Addr} {n c i : Nat} {s : List UInt8} (h : Sl w 1 (.slice a n c) n (u8s s)) (hi : i < s.length) : ∃ bk off, a = some ⟨bk, off, none⟩ ∧ w.cell? ⟨bk, off + i * 1, none⟩ = some (.int .u8 (s[i]).toNat) := by
  obtain ⟨hl, ⟨_, c1, h1, h0⟩ | ⟨bk, off, c1, h1, hat⟩⟩ := h
  · rw [u8s_len, h0] at hl
    omega
  · cases h1
    exact ⟨bk, off, rfl, by rw [Nat.mul_one]; exact hat.cell (by simp [u8s, hi])⟩
theorem Sl.form {w : World} {sz n : Nat} {v : Value} {cs : List Value} (h : Sl w sz v n cs) : ∃ a c, v = .slice a n c := by
  obtain ⟨_, ⟨_, c, rfl, h0⟩ | ⟨b, off, c, rfl, _⟩⟩ := h
  · exact ⟨_, _, by rw [h0]⟩
  · exact ⟨_, _, rfl⟩
theorem fin_cellTmp {P : Program} {n : Nat} {w : World} {fn : Func} {R : Ending → World → Prop} {f : Slots} {t u : Tmp} {T : TypeId} {A : Addr} {v : Value} (hr : fn.results = #[.cell t T, .tmp u]) (hA : f t = .pointer (some A)) (hv : (loadVar T A).run P w = .ok v w) (h : R (.returned (.tuple #[v, f u])) w) : fin P n fn R .ret f [] w :=
  fun a ha => bodyPost_ret (v := .tuple #[v, f u]) (by simp [results, hr, ha.get, hA, asAddr, hv]) ha.defers h
theorem Step.mid {S : List Nat} (L1 : List (Nat × Obj)) {L2 L3 : List (Nat × Obj)} {w w' : World} (h : Step S (L1 ++ (L2 ++ L3)) w w') : Step S (L1 ++ (L3 ++ L2)) w w' := h.perm (List.Perm.append_left L1 List.perm_append_comm)
def rnd (a : Int) (n : Nat) : Nat := (a % (n : Int)).toNat
theorem rnd_lt {a : Int} {n : Nat} (h : 0 < n) : rnd a n < n := by
  have h1 := Int.emod_nonneg a (show (n : Int) ≠ 0 by omega)
  have h2 := Int.emod_lt_of_pos a (show (0 : Int) < n by omega)
  unfold rnd
  omega
theorem tmod_neg {a : Int} {n : Nat} (h : 0 < n) (hk : a.tmod n < 0) : a.tmod n + n = (rnd a n : Nat) := by
  have h1 := Int.emod_nonneg a (show (n : Int) ≠ 0 by omega)
  have h2 := Int.emod_lt_of_pos a (show (0 : Int) < n by omega)
  have e : a.tmod n + n * a.tdiv n = a := Int.tmod_add_mul_tdiv a n
  have hlo : -(n : Int) < a.tmod n := by
    have := Int.lt_tmod_of_pos a (show (0 : Int) < n by omega)
    omega
  have e2 : a % n = a.tmod n + n := by
    conv => lhs; rw [← e]
    rw [Int.add_mul_emod_self_left, ← Int.add_emod_right, Int.emod_eq_of_lt (by omega) (by omega)]
  unfold rnd
  omega
theorem tmod_pos {a : Int} {n : Nat} (h : 0 < n) (hk : ¬ a.tmod n < 0) : a.tmod n = (rnd a n : Nat) := by
  have h1 := Int.emod_nonneg a (show (n : Int) ≠ 0 by omega)
  have e : a.tmod n + n * a.tdiv n = a := Int.tmod_add_mul_tdiv a n
  have hlt := Int.tmod_lt_of_pos a (show (0 : Int) < n by omega)
  have e2 : a % n = a.tmod n := by
    conv => lhs; rw [← e]
    rw [Int.add_mul_emod_self_left, Int.emod_eq_of_lt (by omega) (by omega)]
  unfold rnd
  omega
theorem Sl.cut {w : World} {sz b off n lo hi m : Nat} {cs : List Value} (hat : At w b off cs) (hl : cs.length = n * sz) (h1 : lo ≤ hi) (h2 : hi ≤ n) (h3 : hi ≤ m) : Sl w sz (cutSl sz b off lo hi m) (hi - lo) ((cs.take (hi * sz)).drop (lo * sz)) := by
  have hle : hi * sz ≤ n * sz := Nat.mul_le_mul_right _ h2
  have hll : lo * sz ≤ hi * sz := Nat.mul_le_mul_right _ h1
  unfold cutSl
  refine .mk ?_ ?_
  · rw [List.length_drop, List.length_take, hl, Nat.min_eq_left hle, Nat.sub_mul]
  · split
    · have : hi = lo := by omega
      subst this
      rw [List.drop_take]
      simp
      exact At.nil
    · exact (hat.take (hi * sz)).drop (lo * sz)
theorem run_shr1 {P : Program} {f : Slots} {w : World} {d : Option Tmp} {ty : TypeId} {pos : String} {af : Array Edge} {x y : Operand} {T T' : TypeId} {k k' : IntKind} {u : Nat} (hx : ev f x = .int k u) (hy : ev f y = .int k' 1) (hk : 1 ≤ k.bits) :
    (execOp (ev f) ⟨d, .binOp .shr T x y T', ty, pos, af, none⟩).run P w = .ok (.value (.int k (u / 2 : Nat))) w := by
  rw [run_shr hx hy (by decide)]
  have e : (2 : Int) ^ min (1 : Int).toNat k.bits = ((2 : Nat) : Int) := by
    have : min (1 : Int).toNat k.bits = 1 := by
      show min 1 k.bits = 1
      omega
    rw [this]
    rfl
  rw [e, Int.fdiv_eq_ediv_of_nonneg _ (by decide), ← Int.natCast_ediv]
theorem bytesLess_trans : ∀ {a b c : List UInt8}, Op.bytesLess a b = true → Op.bytesLess b c = true → Op.bytesLess a c = true
  | [], b :: y, c :: z, _, _ => rfl
  | a :: x, b :: y, c :: z, h1, h2 => by
    simp only [Op.bytesLess, Bool.or_eq_true, decide_eq_true_eq, Bool.and_eq_true, beq_iff_eq] at h1 h2 ⊢
    rcases h1 with h1 | ⟨rfl, h1⟩
    · rcases h2 with h2 | ⟨rfl, h2⟩
      · exact .inl (UInt8.lt_trans h1 h2)
      · exact .inl h1
    · rcases h2 with h2 | ⟨rfl, h2⟩
      · exact .inl h2
      · exact .inr ⟨rfl, bytesLess_trans h1 h2⟩
  | [], [], _, h, _ => by cases h
  | [], _ :: _, [], _, h => by cases h
  | _ :: _, [], _, h, _ => by cases h
  | _ :: _, _ :: _, [], _, h => by cases h
theorem splice_mid {A M R vs : List Value} {off : Nat} (ho : off = A.length) (h : vs.length = M.length) : splice (A ++ M ++ R) off vs = A ++ vs ++ R := by
  subst ho
  simp [splice, List.append_assoc, h]
theorem Step.blkEq {S : List Nat} {b : Nat} {T : TypeId} {cs cs' : List Value} {L : List (Nat × Obj)} {w0 w : World} (e : cs = cs') (h : Step S ((b, blk T cs) :: L) w0 w) : Step S ((b, blk T cs') :: L) w0 w := e ▸ h
theorem OwnSl.some1 {E sz k : Nat} {v : Value} {xs : List Value} {Lv : List (Nat × Obj)} (h : OwnSl E sz v k xs Lv) (hk : 0 < k) : ∃ b cap more, v = .slice (some ⟨b, 0, none⟩) k cap ∧ Lv = [(b, blk E (xs ++ more))] ∧ (xs ++ more).length = cap * sz := by
  obtain ⟨hl, ⟨h1, h0, _⟩ | h⟩ := h
  · omega
  · exact h
theorem bytesLess_tri {a b : List UInt8} (h : Op.bytesLess a b = false) (hne : a ≠ b) : Op.bytesLess b a = true := by
  rw [← bytesLess_gt a b, h]
  simpa using hne
def strs (l : List (List UInt8)) : List Value := l.map str
theorem strs_len (l : List (List UInt8)) : (strs l).length = l.length := by simp [strs]
theorem strs_c1 (l : List (List UInt8)) : Cells1 (strs l) := fun v hv => by
  have hobt := List.mem_map.1 hv
  obtain ⟨s, _, rfl⟩ := hobt
  rfl
theorem str_at {w : World} {a : Option Addr} {n c i : Nat} {l : List (List UInt8)} (h : Sl w 1 (.slice a n c) n (strs l)) (hi : i < l.length) : ∃ bk off, a = some ⟨bk, off, none⟩ ∧ w.cell? ⟨bk, off + i * 1, none⟩ = some (str l[i]) := by
  obtain ⟨hl, ⟨_, c1, h1, h0⟩ | ⟨bk, off, c1, h1, hat⟩⟩ := h
  · rw [strs_len, h0] at hl
    omega
  · cases h1
    exact ⟨bk, off, rfl, by rw [Nat.mul_one]; exact hat.cell (by simp [strs, hi])⟩
theorem str_in {w0 : World} {a : Option Addr} {n c i : Nat} {l : List (List UInt8)} (h : Sl w0 1 (.slice a n c) n (strs l)) (hi : i < l.length) : ∃ bk off, a = some ⟨bk, off, none⟩ ∧ ∀ (w : World) (L : List (Nat × Obj)), Step [] L w0 w → w.cell? ⟨bk, off + i * 1, none⟩ = some (str l[i]) := by
  obtain ⟨hl, ⟨_, c1, h1, h0⟩ | ⟨bk, off, c1, h1, hat⟩⟩ := h
  · rw [strs_len, h0] at hl
    omega
  · cases h1
    exact ⟨bk, off, rfl, fun w L hs => by rw [Nat.mul_one]; exact (hat.step hs (by simp)).cell (by simp [strs, hi])⟩
theorem OwnSl.sl0 {E sz k : Nat} {v : Value} {xs : List Value} {Lv : List (Nat × Obj)} {S : List Nat} {w0 w : World} (h : OwnSl E sz v k xs Lv) (hs : Step S Lv w0 w) : Sl w sz v k xs := h.sl (L := []) (by rw [List.append_nil]; exact hs)
theorem Step.last3 {S : List Nat} {p : Nat × Obj} {A B C : List (Nat × Obj)} {w w' : World} (h : Step S (p :: (A ++ (B ++ C))) w w') : Step S (C ++ (p :: (A ++ B))) w w' :=
  h.perm (by rw [← List.append_assoc]; exact List.perm_append_comm (l₁ := p :: (A ++ B)))
theorem Step.pick2 {S : List Nat} {p : Nat × Obj} {A B C : List (Nat × Obj)} {w w' : World} (h : Step S (C ++ (p :: (A ++ B))) w w') : Step S (A ++ C) w w' := by
  have h1 := h.perm (List.perm_append_comm (l₂ := p :: (A ++ B)))
  have h2 := h1.tail
  have h3 : Step S (A ++ (B ++ C)) w w' := by rw [← List.append_assoc]; exact h2
  exact Step.dropR (Step.mid A h3 |> fun h => by rw [← List.append_assoc] at h; exact h)
theorem filled_s (v z : Value) (h : v.cells = #[v]) : Filled 1 1 [z] [(0, v)] [v] := by
  simp [Filled, Instr.fill, h]
theorem fill_agg {sz i : Nat} {acc cs : List Value} {ps : List (Nat × Value)} (h : cs.length = sz) (hb : i * sz + sz ≤ acc.length) : Instr.fill (fun i => some (i * sz, sz)) acc.toArray ((i, .agg cs.toArray) :: ps) = Instr.fill (fun i => some (i * sz, sz)) (splice acc (i * sz) cs).toArray ps := by
  have e : ((Value.agg cs.toArray).cells.zipIdx.foldl (fun (a : Array Value) (x : Value × Nat) => a.setIfInBounds (i * sz + x.2) x.1) acc.toArray) = (splice acc (i * sz) cs).toArray := by
    have h1 := fold_splice (i * sz) cs 0 acc (by omega)
    simp only [Value.cells, ← Array.foldl_toList, Array.toList_zipIdx]
    rw [h1]
    rfl
  simp only [Instr.fill]
  rw [if_neg (by simp [Value.cells, h]; exact hb), e]
theorem filledP2 {sz : Nat} {zs c1 c2 : List Value} (h1 : c1.length = sz) (h2 : c2.length = sz) (hz : zs.length = sz) : Filled sz 2 zs [(0, .agg c1.toArray), (1, .agg c2.toArray)] (c1 ++ c2) := by
  have hl : (List.replicate 2 zs).flatten.length = 2 * sz := by simp [hz]; omega
  unfold Filled
  rw [fill_agg h1 (by rw [hl]; omega), fill_agg h2 (by rw [length_splice (by rw [hl]; omega), hl]; omega)]
  have e : splice (splice (List.replicate 2 zs).flatten (0 * sz) c1) (1 * sz) c2 = c1 ++ c2 := by
    have e0 : (List.replicate 2 zs).flatten = [] ++ zs ++ zs := by simp [List.replicate]
    rw [e0, splice_mid (A := []) (by simp) (by rw [h1, hz])]
    have := splice_mid (A := c1) (M := zs) (R := []) (vs := c2) (off := 1 * sz) (by omega) (by rw [h2, hz])
    rw [List.append_nil, List.append_nil] at this
    rw [List.nil_append, this]
  rw [e]
  rfl
theorem OwnSl.of_blk {E sz b cap k : Nat} {big : List Value} (h : big.length = cap * sz) (hk : k ≤ cap) : OwnSl E sz (.slice (some ⟨b, 0, none⟩) k cap) k (big.take (k * sz)) [(b, blk E big)] := by
  have hle : k * sz ≤ cap * sz := Nat.mul_le_mul_right _ hk
  exact ⟨by rw [List.length_take, h]; omega, .inr ⟨b, cap, big.drop (k * sz), rfl, by rw [List.take_append_drop], by rw [List.take_append_drop]; exact h⟩⟩
end Go.Gx
