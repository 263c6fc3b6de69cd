/- Plain words for chapter 5: names, entries; their cells. No program in sight. -/
import Derived.Test.YtepaojbhjgefiaaDoorEff
namespace Go.Gx
set_option linter.unusedVariables false
set_option linter.unusedSimpArgs false

def badCh (c : UInt8) : Bool := decide (c = 0 ∨ c = 47)
def isName (s : List UInt8) : Bool := decide (1 ≤ s.length ∧ s.length ≤ 64 ∧ s ≠ [46] ∧ s ≠ [46, 46]) && !s.any badCh

structure Ent where
  name : List UInt8
  kind : Int
  dig : List UInt8
  deriving DecidableEq

def Ent.cells (x : Ent) : List Value := str x.name :: .int .i64 x.kind :: u8s x.dig
def Ent.ok (x : Ent) : Prop := x.dig.length = 32 ∧ -9223372036854775808 ≤ x.kind ∧ x.kind ≤ 9223372036854775807 ∧ x.name.length ≤ 9223372036854775807
def rows (l : List Ent) : List Value := l.flatMap Ent.cells
def Oks (l : List Ent) : Prop := ∀ x ∈ l, x.ok

theorem Ent.cells_len {x : Ent} (h : x.ok) : x.cells.length = 34 := by simp [Ent.cells, u8s, h.1]
theorem rows_len : ∀ {l : List Ent}, Oks l → (rows l).length = l.length * 34
  | [], _ => rfl
  | x :: l, h => by
    have h1 := Ent.cells_len (h x (by simp))
    have h2 := rows_len (l := l) (fun y hy => h y (by simp [hy]))
    simp only [rows, List.flatMap_cons, List.length_append, List.length_cons] at *
    omega
theorem rows_append (a b : List Ent) : rows (a ++ b) = rows a ++ rows b := by simp [rows]
theorem rows_one (x : Ent) : rows [x] = x.cells := by simp [rows]
theorem Oks.take {l : List Ent} (h : Oks l) (k : Nat) : Oks (l.take k) := fun x hx => h x (List.mem_of_mem_take hx)
theorem Oks.drop {l : List Ent} (h : Oks l) (k : Nat) : Oks (l.drop k) := fun x hx => h x (List.mem_of_mem_drop hx)
theorem Oks.append {a b : List Ent} (h : Oks a) (h' : Oks b) : Oks (a ++ b) := fun x hx => by
  rcases List.mem_append.1 hx with hx | hx
  · exact h x hx
  · exact h' x hx
theorem Oks.one {x : Ent} (h : x.ok) : Oks [x] := fun y hy => by simp at hy; subst hy; exact h
theorem Oks.nil : Oks [] := fun y hy => by cases hy
theorem Oks.get {l : List Ent} (h : Oks l) {k : Nat} (hk : k < l.length) : (l[k]).ok := h _ (List.getElem_mem hk)

theorem Ent.cells1 (x : Ent) : Cells1 x.cells := fun v hv => by
  simp only [Ent.cells, List.mem_cons] at hv
  rcases hv with rfl | rfl | hv
  · rfl
  · rfl
  · exact Cells1.u8s _ v hv
theorem rows_cells1 (l : List Ent) : Cells1 (rows l) := fun v hv => by
  have hobt := List.mem_flatMap.1 hv
  obtain ⟨x, _, hx⟩ := hobt
  exact x.cells1 v hx

theorem rows_split {l : List Ent} (h : Oks l) {k : Nat} (hk : k < l.length) : rows l = rows (l.take k) ++ ((l[k]).cells ++ rows (l.drop (k + 1))) := by
  have e : l = l.take k ++ l[k] :: l.drop (k + 1) := by rw [← List.drop_eq_getElem_cons hk, List.take_append_drop]
  have e2 : rows (l.take k ++ l[k] :: l.drop (k + 1)) = rows (l.take k) ++ ((l[k]).cells ++ rows (l.drop (k + 1))) := by rw [rows_append]; rfl
  rw [← e2, ← e]
/-- Entry k's cells, in a row of entries. -/
theorem At.ent {w : World} {b off : Nat} {l : List Ent} (ha : At w b off (rows l)) (h : Oks l) {k : Nat} (hk : k < l.length) : At w b (off + k * 34) (l[k]).cells := by
  rw [rows_split h hk] at ha
  have := ha.right.left
  rw [rows_len (h.take k), List.length_take, Nat.min_eq_left (Nat.le_of_lt hk)] at this
  exact this

/-- A slice of entries. -/
def Es (w : World) (v : Value) (l : List Ent) : Prop := Sl w 34 v l.length (rows l) ∧ Oks l ∧ l.length ≤ 9223372036854775807
theorem Es.step0 {L : List (Nat × Obj)} {w w' : World} {v : Value} {l : List Ent} (h : Es w v l) (hs : Step [] L w w') : Es w' v l := ⟨h.1.step0 hs, h.2⟩
theorem Es.step {S : List Nat} {L : List (Nat × Obj)} {w w' : World} {v : Value} {l : List Ent} (h : Es w v l) (hs : Step S L w w') (hS : Outside v S) : Es w' v l := ⟨h.1.step hs hS, h.2⟩
theorem Es.cases {w : World} {v : Value} {l : List Ent} (h : Es w v l) : (∃ a c, v = .slice a 0 c ∧ l = []) ∨ ∃ b off c, v = .slice (some ⟨b, off, none⟩) l.length c ∧ At w b off (rows l) := by
  obtain ⟨⟨hl, ⟨a, c, rfl, h0⟩ | h⟩, ho, _⟩ := h
  · exact .inl ⟨a, c, by rw [h0], List.eq_nil_of_length_eq_zero h0⟩
  · exact .inr h

/-- What a call of no effect hands back. -/
def Ret0 (v : Value) (w : World) : Ending → World → Prop := fun e w' => e = .returned v ∧ Step [] [] w w'
theorem Step.callE {S : List Nat} {L : List (Nat × Obj)} {w w' w'' : World} (h : Step S L w w') (hc : Step [] [] w' w'') : Step S L w w'' := h.call0 hc

theorem bytesLess_irrefl : ∀ s : List UInt8, Op.bytesLess s s = false
  | [] => rfl
  | a :: s => by simp [Op.bytesLess, bytesLess_irrefl s, UInt8.lt_irrefl]
theorem bytesLess_gt : ∀ a b : List UInt8, (!(Op.bytesLess a b || a == b)) = Op.bytesLess b a
  | [], [] => rfl
  | [], b :: y => by simp [Op.bytesLess]
  | a :: x, [] => by simp [Op.bytesLess]
  | a :: x, b :: y => by
    have ih := bytesLess_gt x y
    by_cases h : a = b
    · subst h
      simp only [Op.bytesLess, UInt8.lt_irrefl, decide_false, Bool.false_or, beq_self_eq_true, Bool.true_and, ← ih]
      simp
    · have h' : ¬ b = a := fun e => h e.symm
      by_cases hlt : a < b
      · have : ¬ b < a := UInt8.lt_asymm hlt
        simp [Op.bytesLess, h, h', hlt, this]
      · have : b < a := by rcases UInt8.lt_or_lt_of_ne h with h1 | h1; exact absurd h1 hlt; exact h1
        simp [Op.bytesLess, h, h', hlt, this]

/-- What is wrong with an entry behind this name. -/
def wrongE (k : Int) (n a : List UInt8) : Int := if (k = 2 ∨ k = 1) ∧ isName n = true ∧ Op.bytesLess a n = true then 0 else 51
/-- The first error of a row of entries. -/
def errE : List UInt8 → List Ent → Int
  | _, [] => 0
  | a, x :: l => if wrongE x.kind x.name a = 0 then errE x.name l else wrongE x.kind x.name a
def checkE (l : List Ent) : Int := if l.length > 1024 then 2 else errE [] l
end Go.Gx
