/- Operations that make or write memory, over owned blocks: new blocks, stores, make, append, copy, conversions of strings and bytes. No program in sight. -/
import Derived.Test.YtepaojbhjgefiaaGreatDoorC1
import Derived.Test.YtepaojbhjgefiaaGreatDoorYMem
set_option linter.unusedVariables false
set_option linter.unusedSimpArgs false
namespace Go.Gx.Gy

def Cell1 (v : Value) : Prop := v.oneCell' = true
def Cells1 (vs : List Value) : Prop := ∀ v ∈ vs, v.oneCell' = true

/-- Values laid over a row from a place on. -/
def splice (cs : List Value) (off : Nat) (vs : List Value) : List Value := cs.take off ++ vs ++ cs.drop (off + vs.length)

def setRow (w : World) (b off : Nat) : List Value → World
 | [] => w
 | v :: vs => setRow (w.setCell ⟨b, off, none⟩ v) b (off + 1) vs

section
variable {P : Program}

variable {ops : Array Oper} {Q : Post} {n : Nat} {rest : List Oper} {f : Slots} {ds : List Deferred} {w w0 : World} {ty : TypeId} {pos : String} {af : Array Edge} {x y : Operand} {T : TypeId} {d : Nat} {S : List Nat} {L : List (Nat × Obj)}

theorem WL.box {v : Value} {cs : List Value} (hx : ev f x = v) (hv : v.cells = cs.toArray) (hd : Nat.blt d n = true) (hs : Step S L w0 w)
  (h : ∀ b w', Step S ((b, blk T cs) :: L) w0 w' → WL P ops Q n rest (upd f d (.pointer (some ⟨b, 0, none⟩))) ds w') : WL P ops Q n (⟨some d, .box T x, ty, pos, af, none⟩ :: rest) f ds w := by
 refine WL.val hd (v := .pointer (some ⟨w.heap.size, 0, none⟩)) (w' := w.alloc (blk T cs)) ?_ (h _ _ (hs.alloc _))
 simp [execOp, hx, Instr.box, newVar, newRow, hv, blk]

/-- The cells of a literal slice. -/
def Filled (sz len : Nat) (zs : List Value) (vs : List (Nat × Value)) (cs : List Value) : Prop :=
 Instr.fill (fun i => some (i * sz, sz)) (List.replicate len zs).flatten.toArray vs = some cs.toArray

/-- A slice that we own: nil, or at the head of a block of its own with room behind it. -/
def OwnSl (E : TypeId) (sz : Nat) (v : Value) (k : Nat) (xs : List Value) (Lv : List (Nat × Obj)) : Prop :=
 xs.length = k * sz ∧ ((v = .slice none 0 0 ∧ k = 0 ∧ Lv = []) ∨ ∃ b cap more, v = .slice (some ⟨b, 0, none⟩) k cap ∧ Lv = [(b, blk E (xs ++ more))] ∧ (xs ++ more).length = cap * sz)

theorem OwnSl.nil (E : TypeId) (sz : Nat) : OwnSl E sz (.slice none 0 0) 0 [] [] := ⟨by simp, .inl ⟨rfl, rfl, rfl⟩⟩
theorem OwnSl.mk {E : TypeId} {sz b k : Nat} {xs : List Value} (h : xs.length = k * sz) : OwnSl E sz (.slice (some ⟨b, 0, none⟩) k k) k xs [(b, blk E xs)] :=
 ⟨h, .inr ⟨b, k, [], rfl, by simp, by simpa using h⟩⟩
theorem OwnSl.form {E : TypeId} {sz : Nat} {v : Value} {k : Nat} {xs : List Value} {Lv : List (Nat × Obj)} (h : OwnSl E sz v k xs Lv) : ∃ a c, v = .slice a k c := by
 obtain ⟨hl, ⟨rfl, rfl, rfl⟩ | ⟨b, cap, more, rfl, rfl, hc⟩⟩ := h
 ·exact ⟨_, _, rfl⟩
 ·exact ⟨_, _, rfl⟩

/-- The second argument's type: a slice or a string. -/
def SrcT (P : Program) (T : TypeId) : Prop := (∃ e, P.underlying T = some (.slice e)) ∨ P.underlying T = some .string

end

section conds
variable {P : Program} {Q : Post} {n : Nat} {f : Slots} {ds : List Deferred} {w : World}
end conds

/-! ### Regions that draw their order and leave the world alone but for draws and new blocks -/
section quiet
variable {P : Program} {ops : Array Oper} {n : Nat} {rest : List Oper} {f : Slots} {ds : List Deferred} {w w0 : World} {o : Op} {ty : TypeId} {pos : String} {af : Array Edge} {S : List Nat} {L : List (Nat × Obj)} {Q : Slots → Prop}

structure QL (P : Program) (ops : Array Oper) (S : List Nat) (L : List (Nat × Obj)) (w0 : World) (Q : Slots → Prop) (n : Nat) (l : List Oper) (f : Slots) (ds : List Deferred) : Prop where
 out : ∀ a, Rep n f ds a → wpQuiet P ops (fun w => Step S L w0 w) (fun a' => ∃ f', Rep n f' ds a' ∧ Q f') l a

end quiet

section more
variable {S : List Nat} {L : List (Nat × Obj)} {w w' : World} {b b1 b2 b3 o : Nat} {T : TypeId} {cs : List Value} {v : Value} {o1 o2 o3 : Obj}
theorem Step.c0 (hs : Step S ((b, blk T cs) :: L) w w') (ho : cs[o]? = some v) : w'.cell? ⟨b, o, none⟩ = some v := by rw [cell_blk hs.hd, ho]
theorem Step.c1 (hs : Step S ((b1, o1) :: (b, blk T cs) :: L) w w') (ho : cs[o]? = some v) : w'.cell? ⟨b, o, none⟩ = some v := hs.tail.c0 ho
end more

section stores
variable {P : Program} {ops : Array Oper} {Q : Post} {n : Nat} {rest : List Oper} {f : Slots} {ds : List Deferred} {w w0 : World} {ty : TypeId} {pos : String} {af : Array Edge} {x y : Operand} {T : TypeId} {S : List Nat} {L : List (Nat × Obj)}
section
variable {p1 p2 p3 p4 : Nat × Obj} {agg : Bool} {bytes : Nat} {zs cs : List Value} {b o : Nat} {T' : TypeId} {v : Value} (hT : Ty P T agg 1 bytes zs) (hx : ev f x = .pointer (some ⟨b, o, none⟩)) (hy : ev f y = v) (hv : v.oneCell' = true)
include hT hx hy hv
end
section
variable {p1 p2 p3 p4 : Nat × Obj} {agg : Bool} {k bytes : Nat} {zs cs vs : List Value} {b : Nat} {T' : TypeId} (hT : Ty P T agg k bytes zs) (hx : ev f x = .pointer (some ⟨b, 0, none⟩)) (hy : ev f y = .agg vs.toArray) (hl : vs.length = k) (hv : Cells1 vs)
include hT hx hy hl hv
end
end stores
end Go.Gx.Gy
