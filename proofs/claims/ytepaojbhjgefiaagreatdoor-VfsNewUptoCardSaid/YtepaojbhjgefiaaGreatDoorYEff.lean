/- Operations that make or write memory, over owned blocks: new blocks, stores, make, append, copy, conversions of strings and bytes. No program in sight. -/
import Derived.Test.YtepaojbhjgefiaaGreatDoorA1
import Derived.Test.YtepaojbhjgefiaaGreatDoorYMem
namespace Go.Gx.Gy
set_option linter.unusedVariables false
set_option linter.unusedSimpArgs false

def Cell1 (v : Value) : Prop := v.oneCell' = true
def Cells1 (vs : List Value) : Prop := ∀ v ∈ vs, v.oneCell' = true

theorem Cells1.u8s (l : List UInt8) : Cells1 (u8s l) := by
  intro v hv
  have hobt := List.mem_map.1 hv
  obtain ⟨c, _, rfl⟩ := hobt
  rfl
theorem Cells1.append {a b : List Value} (ha : Cells1 a) (hb : Cells1 b) : Cells1 (a ++ b) := fun v hv => by
  rcases List.mem_append.1 hv with h | h
  · exact ha v h
  · exact hb v h
theorem Cells1.drop {a : List Value} (ha : Cells1 a) (k : Nat) : Cells1 (a.drop k) := fun v hv => ha v (List.mem_of_mem_drop hv)
theorem Cells1.of_all {vs : List Value} (h : (vs.all fun v => v.oneCell') = true) : Cells1 vs := fun v hv => List.all_eq_true.1 h v hv
theorem Cells1.take {a : List Value} (ha : Cells1 a) (k : Nat) : Cells1 (a.take k) := fun v hv => ha v (List.mem_of_mem_take hv)

theorem cells_one {v : Value} (h : v.oneCell' = true) : v.cells = #[v] := by cases v <;> first | rfl | cases h

/-- Values laid over a row from a place on. -/
def splice (cs : List Value) (off : Nat) (vs : List Value) : List Value := cs.take off ++ vs ++ cs.drop (off + vs.length)

theorem splice_nil (cs : List Value) (off : Nat) : splice cs off [] = cs := by simp [splice]
theorem splice_cons {cs : List Value} {off : Nat} (v : Value) (vs : List Value) (h : off < cs.length) : splice (cs.set off v) (off + 1) vs = splice cs off (v :: vs) := by
  have h1 : (cs.set off v).take (off + 1) = cs.take off ++ [v] := by
    rw [List.set_eq_take_append_cons_drop, if_pos h]
    rw [List.take_append]
    simp [List.take_take, Nat.min_eq_left (Nat.le_of_lt h)]
  have h2 : (cs.set off v).drop (off + 1 + vs.length) = cs.drop (off + (vs.length + 1)) := by
    rw [List.drop_set, if_pos (by omega)]
    congr 1
    omega
  simp only [splice, h1, h2, List.length_cons, List.append_assoc, List.cons_append, List.nil_append]
theorem splice_end (a b vs : List Value) (h : vs.length ≤ b.length) : splice (a ++ b) a.length vs = a ++ vs ++ b.drop vs.length := by
  simp [splice]

def setRow (w : World) (b off : Nat) : List Value → World
  | [] => w
  | v :: vs => setRow (w.setCell ⟨b, off, none⟩ v) b (off + 1) vs

theorem Step.row {S : List Nat} {L : List (Nat × Obj)} {b : Nat} {T : TypeId} {w0 : World} : ∀ (vs : List Value) (off : Nat) (cs : List Value) (w : World), Step S ((b, blk T cs) :: L) w0 w → off + vs.length ≤ cs.length →
    Step S ((b, blk T (splice cs off vs)) :: L) w0 (setRow w b off vs)
  | [], off, cs, w, h, _ => by rw [splice_nil]; exact h
  | v :: vs, off, cs, w, h, hl => by
    simp only [List.length_cons] at hl
    rw [← splice_cons v vs (by omega)]
    exact Step.row vs (off + 1) _ _ (h.set off v) (by simp; omega)

section
variable {P : Program}

theorem run_store1 {w : World} {b off : Nat} {T : TypeId} {cs : List Value} {v : Value} (h : w.heap[b]? = some (blk T cs)) (ho : off < cs.length) (hv : v.oneCell' = true) : (store ⟨b, off, none⟩ v).run P w = .ok () (w.setCell ⟨b, off, none⟩ v) := by
  rw [run_store P w _ v .plain hv, cell_blk h, List.getElem?_eq_getElem ho, frozen_blk h]
  rfl

theorem run_storeCells : ∀ (vs : List Value) (i off b : Nat) (T : TypeId) (cs : List Value) (w : World), w.heap[b]? = some (blk T cs) → off + i + vs.length ≤ cs.length → Cells1 vs →
    (storeCells ⟨b, off, none⟩ vs i).run P w = .ok () (setRow w b (off + i) vs)
  | [], i, off, b, T, cs, w, _, _, _ => by simp [storeCells, setRow]
  | v :: vs, i, off, b, T, cs, w, h, hl, hc => by
    simp only [List.length_cons] at hl
    simp only [storeCells, Sem.run_bind, add_off, run_store1 h (show off + i < cs.length by omega) (hc v (by simp)), Result.andThen_ok, setRow]
    have ih := run_storeCells vs (i + 1) off b T (cs.set (off + i) v) (w.setCell ⟨b, off + i, none⟩ v) (heap_setCell_blk w _ _ h) (by simp; omega) (fun u hu => hc u (by simp [hu]))
    rw [ih]
    rfl

variable {ops : Array Oper} {Q : Post} {n : Nat} {rest : List Oper} {f : Slots} {ds : List Deferred} {w w0 : World} {ty : TypeId} {pos : String} {af : Array Edge} {x y : Operand} {T : TypeId} {d : Nat} {S : List Nat} {L : List (Nat × Obj)}

theorem run_zero {agg : Bool} {k bytes : Nat} {zs : List Value} (hT : Ty P T agg k bytes zs) (w : World) : ∃ z, (zeroValue T).run P w = .ok z w ∧ z.cells = zs.toArray := by
  have hobt := hT.info
  obtain ⟨i, z, hi, _, _, hz, hc, _⟩ := hobt
  exact ⟨z, by simp [zeroValue, typeInfo, hi, hz], hc⟩

/-- A new variable. -/
theorem WL.alloc {agg : Bool} {k bytes : Nat} {zs : List Value} (hT : Ty P T agg k bytes zs) (hd : Nat.blt d n = true) (hs : Step S L w0 w)
    (h : ∀ b w', Step S ((b, blk T zs) :: L) w0 w' → WL P ops Q n rest (upd f d (.pointer (some ⟨b, 0, none⟩))) ds w') : WL P ops Q n (⟨some d, .alloc T, ty, pos, af, none⟩ :: rest) f ds w := by
  have hobt := run_zero hT w
  obtain ⟨z, hz, hc⟩ := hobt
  refine WL.val hd (v := .pointer (some ⟨w.heap.size, 0, none⟩)) (w' := w.alloc (blk T zs)) ?_ (h _ _ (hs.alloc _))
  simp [execOp, Instr.alloc, hz, newVar, newRow, hc, blk]

theorem WL.box {v : Value} {cs : List Value} (hx : ev f x = v) (hv : v.cells = cs.toArray) (hd : Nat.blt d n = true) (hs : Step S L w0 w)
    (h : ∀ b w', Step S ((b, blk T cs) :: L) w0 w' → WL P ops Q n rest (upd f d (.pointer (some ⟨b, 0, none⟩))) ds w') : WL P ops Q n (⟨some d, .box T x, ty, pos, af, none⟩ :: rest) f ds w := by
  refine WL.val hd (v := .pointer (some ⟨w.heap.size, 0, none⟩)) (w' := w.alloc (blk T cs)) ?_ (h _ _ (hs.alloc _))
  simp [execOp, hx, Instr.box, newVar, newRow, hv, blk]

/-- A store of one cell. -/
theorem WL.store1 {agg : Bool} {bytes : Nat} {zs cs : List Value} {b o : Nat} {T' : TypeId} {v : Value} (hT : Ty P T agg 1 bytes zs) (hx : ev f x = .pointer (some ⟨b, o, none⟩)) (hy : ev f y = v) (hv : v.oneCell' = true)
    (hs : Step S ((b, blk T' cs) :: L) w0 w) (ho : o < cs.length) (h : ∀ w', Step S ((b, blk T' (cs.set o v)) :: L) w0 w' → WL P ops Q n rest f ds w') : WL P ops Q n (⟨none, .store T x y, ty, pos, af, none⟩ :: rest) f ds w := by
  refine WL.skip (w' := w.setCell ⟨b, o, none⟩ v) ?_ (h _ (hs.set o v))
  have hc := cells_one hv
  simp [execOp, hx, hy, Instr.storeAt, Instr.sureAddr, storeVar, hc, run_sizeOf hT, storeCells, add_off, run_store1 hs.hd ho hv]

/-- A store of a struct, an array. -/
theorem WL.storeN {agg : Bool} {k bytes : Nat} {zs cs vs : List Value} {b o : Nat} {T' : TypeId} (hT : Ty P T agg k bytes zs) (hx : ev f x = .pointer (some ⟨b, o, none⟩)) (hy : ev f y = .agg vs.toArray) (hl : vs.length = k) (hv : Cells1 vs)
    (hs : Step S ((b, blk T' cs) :: L) w0 w) (ho : o + k ≤ cs.length) (h : ∀ w', Step S ((b, blk T' (splice cs o vs)) :: L) w0 w' → WL P ops Q n rest f ds w') : WL P ops Q n (⟨none, .store T x y, ty, pos, af, none⟩ :: rest) f ds w := by
  refine WL.skip (w' := setRow w b o vs) ?_ (h _ (Step.row vs o cs w hs (by omega)))
  have hr := run_storeCells (P := P) vs 0 o b T' cs w hs.hd (by omega) hv
  simp only [Nat.add_zero] at hr
  simp [execOp, hx, hy, Instr.storeAt, Instr.sureAddr, storeVar, Value.cells, run_sizeOf hT, hl, hr]

/-- A store over a whole block. -/
theorem WL.storeAll {agg : Bool} {k bytes : Nat} {zs cs vs : List Value} {b : Nat} {T' : TypeId} (hT : Ty P T agg k bytes zs) (hx : ev f x = .pointer (some ⟨b, 0, none⟩)) (hy : ev f y = .agg vs.toArray) (hl : vs.length = k) (hv : Cells1 vs)
    (hs : Step S ((b, blk T' cs) :: L) w0 w) (hc : cs.length = k) (h : ∀ w', Step S ((b, blk T' vs) :: L) w0 w' → WL P ops Q n rest f ds w') : WL P ops Q n (⟨none, .store T x y, ty, pos, af, none⟩ :: rest) f ds w :=
  WL.storeN hT hx hy hl hv hs (by omega) fun w' hs' => h w' (by
    have : splice cs 0 vs = vs := by simp [splice, List.drop_of_length_le (show cs.length ≤ vs.length by omega)]
    rwa [this] at hs')

/-- A struct or an array put together. -/
theorem run_build {parts : Array (Nat × Operand)} {vs : List (Nat × Value)} {v : Value} {d : Option Tmp} (hv : parts.toList.map (fun p => (p.1, ev f p.2)) = vs) (hb : (Instr.build T vs.toArray).run P w = .ok v w) :
    (execOp (ev f) ⟨d, .build T parts, ty, pos, af, none⟩).run P w = .ok (.value v) w := by
  have e : (parts.map fun (p : Nat × Operand) => (p.1, ev f p.2)) = vs.toArray := by rw [← hv]; apply Array.ext'; simp
  simp only [execOp]
  have e' : (parts.map fun x => match x with | (i, x) => (i, ev f x)) = vs.toArray := e
  rw [e']
  simp [hb]

theorem zero_row (zs : List Value) (len : Nat) : ((Array.range (len * zs.length)).map (fun i => zs.toArray[i % zs.toArray.size]!)) = (List.replicate len zs).flatten.toArray := by
  apply Array.ext'
  rw [Array.toList_map, Array.toList_range]
  show _ = (List.replicate len zs).flatten
  apply List.ext_getElem?
  intro j
  have hsz : zs.toArray.size = zs.length := by simp
  rw [hsz]
  by_cases hj : j < len * zs.length
  · have hz : 0 < zs.length := by
      rcases Nat.eq_zero_or_pos zs.length with h | h
      · rw [h] at hj; simp at hj
      · exact h
    have hm := Nat.mod_lt j hz
    rw [List.getElem?_map, List.getElem?_range hj, Option.map_some]
    rw [getElem!_pos zs.toArray _ (by simpa using hm)]
    have : ∀ (len j : Nat), j < len * zs.length → (List.replicate len zs).flatten[j]? = some (zs[j % zs.length]'(Nat.mod_lt _ hz)) := by
      intro len
      induction len with
      | zero => intro j hj; simp at hj
      | succ k ih =>
        intro j hj
        rw [List.replicate_succ, List.flatten_cons]
        by_cases h1 : j < zs.length
        · rw [List.getElem?_append_left h1, List.getElem?_eq_getElem h1]
          simp [Nat.mod_eq_of_lt h1]
        · rw [List.getElem?_append_right (by omega), ih _ (by rw [Nat.succ_mul] at hj; omega)]
          simp [Nat.mod_eq_sub_mod (Nat.le_of_not_lt h1)]
    rw [this len j hj]
    simp
  · rw [List.getElem?_eq_none (by simpa using hj), List.getElem?_eq_none]
    simp only [List.length_flatten, List.map_replicate, List.sum_replicate_nat]
    omega

/-- The cells of a literal slice. -/
def Filled (sz len : Nat) (zs : List Value) (vs : List (Nat × Value)) (cs : List Value) : Prop :=
  Instr.fill (fun i => some (i * sz, sz)) (List.replicate len zs).flatten.toArray vs = some cs.toArray

theorem WL.buildSlice {agg : Bool} {sz bytes len : Nat} {zs cs : List Value} {E : TypeId} {parts : Array (Nat × Operand)} {vs : List (Nat × Value)} (ht : P.underlying T = some (.slice E)) (hE : Ty P E agg sz bytes zs) (hz : zs.length = sz)
    (hlen : len * sz ≤ 16777216) (hv : parts.toList.map (fun p => (p.1, ev f p.2)) = vs) (hf : Filled sz len zs vs cs) (hd : Nat.blt d n = true) (hs : Step S L w0 w)
    (h : ∀ b w', Step S ((b, blk E cs) :: L) w0 w' → WL P ops Q n rest (upd f d (.slice (some ⟨b, 0, none⟩) len len)) ds w') : WL P ops Q n (⟨some d, .buildSlice T len parts, ty, pos, af, none⟩ :: rest) f ds w := by
  have e : (parts.map fun x => match x with | (i, x) => (i, ev f x)) = vs.toArray := by rw [← hv]; apply Array.ext'; simp
  refine WL.val hd (v := .slice (some ⟨w.heap.size, 0, none⟩) len len) (w' := w.alloc (blk E cs)) ?_ (h _ _ (hs.alloc _))
  have hobt := run_zero hE w
  obtain ⟨z, hzr, hc⟩ := hobt
  unfold Filled at hf
  have hbig : ¬ len * sz > 2 ^ 24 := by omega
  by_cases h0 : len * sz = 0
  · have hfl : (List.replicate len zs).flatten = [] := by
      apply List.eq_nil_of_length_eq_zero
      simp only [List.length_flatten, List.map_replicate, List.sum_replicate_nat, hz, h0]
    rw [hfl] at hf
    have hr0 : Array.map (fun (x : Nat) => (default : Value)) (Array.range 0) = #[] := by rw [Array.range_zero']; simp
    simp [execOp, e, Instr.buildSlice, run_underlying ht, run_sizeOf hE, h0, hr0, hf, newRow, blk]
  · have hrow := zero_row zs len
    rw [hz] at hrow
    have h1 : ¬ (len = 0 ∨ sz = 0) := fun h => h0 (by rcases h with h | h <;> simp [h])
    simp only [execOp, e, Instr.buildSlice, Sem.run_bind, run_underlying ht, Result.andThen_ok, run_sizeOf hE, if_neg hbig, if_neg h0, hzr, Sem.run_pure, hc, hrow, hf, newRow, run_newObj, blk]
    rfl

/-- make([]T, k) -/
theorem WL.makeSlice {agg : Bool} {sz bytes k : Nat} {zs : List Value} {E : TypeId} (ht : P.underlying T = some (.slice E)) (hE : Ty P E agg sz bytes zs) (hz : zs.length = sz) (hb : bytes * k ≤ 281474976710656) (hb0 : 0 < bytes)
    (hx : ev f x = .int .i64 k) (hy : ev f y = .int .i64 k) (hd : Nat.blt d n = true) (hs : Step S L w0 w)
    (h : ∀ b w', Step S ((b, blk E (List.replicate k zs).flatten) :: L) w0 w' → WL P ops Q n rest (upd f d (.slice (some ⟨b, 0, none⟩) k k)) ds w') : WL P ops Q n (⟨some d, .makeSlice T x y, ty, pos, af, none⟩ :: rest) f ds w := by
  refine WL.val hd (v := .slice (some ⟨w.heap.size, 0, none⟩) k k) (w' := w.alloc (blk E (List.replicate k zs).flatten)) ?_ (h _ _ (hs.alloc _))
  have hobt := hE.info
  obtain ⟨i, z0, hi, hsz, hby, hz0, hc0, _⟩ := hobt
  have hk : k ≤ 281474976710656 := Nat.le_trans (by have := Nat.mul_le_mul_right k hb0; omega) hb
  have hw : IntKind.i64.wrap (k : Int) = k := wrap_i64 (by omega)
  have hti : (typeInfo E).run P w = .ok i w := by simp [typeInfo, hi]
  have hobt := run_zero hE w
  obtain ⟨z, hzr, hc⟩ := hobt
  have hnl : (decide ((k : Int) < 0) || decide ((i.bytes : Int) * (k : Int) > 2 ^ 48)) = false := by
    have h1 : ¬ ((k : Int) < 0) := by omega
    have h2 : ¬ ((i.bytes : Int) * (k : Int) > 2 ^ 48) := by
      rw [hby]
      have : ((bytes * k : Nat) : Int) ≤ ((281474976710656 : Nat) : Int) := Int.ofNat_le.2 hb
      rw [Int.natCast_mul] at this
      have e48 : (2 : Int) ^ 48 = 281474976710656 := by decide
      rw [e48]
      omega
    rw [decide_eq_false h1, decide_eq_false h2]
    rfl
  simp only [execOp, hx, hy, Instr.makeSlice, Sem.run_bind, run_underlying ht, Result.andThen_ok, asInt, asIntOf, Sem.run_pure, hti, hw]
  rw [if_neg (by rw [hnl]; simp)]
  by_cases h0 : k * sz = 0
  · have hfl : (List.replicate k zs).flatten = [] := by
      apply List.eq_nil_of_length_eq_zero
      simp only [List.length_flatten, List.map_replicate, List.sum_replicate_nat, hz, h0]
    have hr0 : Array.map (fun (x : Nat) => (default : Value)) (Array.range 0) = #[] := by rw [Array.range_zero']; simp
    simp [run_sizeOf hE, h0, newRow, blk, hfl, hr0]
  · have hrow := zero_row zs k
    rw [hz] at hrow
    simp only [Sem.run_bind, run_askRoom, Result.andThen_ok, run_sizeOf hE, Int.toNat_natCast, if_neg h0, hzr, hc, Sem.run_pure, hrow, newRow, run_newObj, blk]
    rfl

/-- A slice that we own: nil, or at the head of a block of its own with room behind it. -/
def OwnSl (E : TypeId) (sz : Nat) (v : Value) (k : Nat) (xs : List Value) (Lv : List (Nat × Obj)) : Prop :=
  xs.length = k * sz ∧ ((v = .slice none 0 0 ∧ k = 0 ∧ Lv = []) ∨ ∃ b cap more, v = .slice (some ⟨b, 0, none⟩) k cap ∧ Lv = [(b, blk E (xs ++ more))] ∧ (xs ++ more).length = cap * sz)

theorem OwnSl.nil (E : TypeId) (sz : Nat) : OwnSl E sz (.slice none 0 0) 0 [] [] := ⟨by simp, .inl ⟨rfl, rfl, rfl⟩⟩
theorem OwnSl.mk {E : TypeId} {sz b k : Nat} {xs : List Value} (h : xs.length = k * sz) : OwnSl E sz (.slice (some ⟨b, 0, none⟩) k k) k xs [(b, blk E xs)] :=
  ⟨h, .inr ⟨b, k, [], rfl, by simp, by simpa using h⟩⟩
theorem OwnSl.sl {E : TypeId} {sz : Nat} {v : Value} {k : Nat} {xs : List Value} {Lv : List (Nat × Obj)} (h : OwnSl E sz v k xs Lv) (hs : Step S (Lv ++ L) w0 w) : Sl w sz v k xs := by
  obtain ⟨hl, ⟨rfl, rfl, rfl⟩ | ⟨b, cap, more, rfl, rfl, hc⟩⟩ := h
  · exact ⟨hl, .inl ⟨none, 0, rfl, rfl⟩⟩
  · exact .mk hl (At.of_blk hs.hd).left
theorem OwnSl.form {E : TypeId} {sz : Nat} {v : Value} {k : Nat} {xs : List Value} {Lv : List (Nat × Obj)} (h : OwnSl E sz v k xs Lv) : ∃ a c, v = .slice a k c := by
  obtain ⟨hl, ⟨rfl, rfl, rfl⟩ | ⟨b, cap, more, rfl, rfl, hc⟩⟩ := h
  · exact ⟨_, _, rfl⟩
  · exact ⟨_, _, rfl⟩

theorem run_firstCells {sz k : Nat} {u : Value} {ys : List Value} (h : Sl w sz u k ys) : (Builtin.firstCells sz k u).run P w = .ok ys.toArray w := by
  obtain ⟨hl, ⟨a, c, rfl, rfl⟩ | ⟨b, off, c, rfl, h⟩⟩ := h
  · have : ys = [] := by simpa using hl
    subst this
    cases a <;> simp [Builtin.firstCells, loadCells] <;> rfl
  · simp only [Builtin.firstCells, ← hl]
    exact run_loadCells_at h
theorem run_lenOf {sz k : Nat} {u : Value} {ys : List Value} (h : Sl w sz u k ys) : (Builtin.lenOf u).run P w = .ok k w := by
  obtain ⟨hl, ⟨a, c, rfl, rfl⟩ | ⟨b, off, c, rfl, h⟩⟩ := h <;> rfl

theorem run_firstCells_drew {sz k : Nat} {u : Value} {ys : List Value} (h : Sl w sz u k ys) : (Builtin.firstCells sz k u).run P w.drew = .ok ys.toArray w.drew :=
  run_firstCells (w := w.drew) (by
    obtain ⟨hl, h | ⟨b, off, c, rfl, h⟩⟩ := h
    · exact ⟨hl, .inl h⟩
    · exact ⟨hl, .inr ⟨b, off, c, rfl, h⟩⟩)

/-- The second argument's type: a slice or a string. -/
def SrcT (P : Program) (T : TypeId) : Prop := (∃ e, P.underlying T = some (.slice e)) ∨ P.underlying T = some .string

theorem run_append_nil0 {agg : Bool} {sz bytes : Nat} {zs : List Value} {E T' : TypeId} {u : Value} (ht : P.underlying T = some (.slice E)) (hz' : SrcT P T') (hE : Ty P E agg sz bytes zs) (hul : (Builtin.lenOf u).run P w = .ok 0 w) (hu : (Builtin.firstCells sz 0 u).run P w = .ok #[] w) :
    (Builtin.append_ #[T, T'] ty #[.slice none 0 0, u]).run P w = .ok (.slice none 0 0) w := by
  rcases hz' with ⟨e, hz'⟩ | hz' <;> simp [Builtin.append_, run_underlying ht, run_underlying hz', run_sizeOf hE, hul, hu]

theorem run_append_in {agg : Bool} {sz bytes k m cap b : Nat} {zs ys : List Value} {E T' : TypeId} {u : Value} (ht : P.underlying T = some (.slice E)) (hz' : SrcT P T') (hE : Ty P E agg sz bytes zs) (hul : (Builtin.lenOf u).run P w = .ok m w) (hu : (Builtin.firstCells sz m u).run P w = .ok ys.toArray w) (hfit : k + m ≤ cap) :
    (Builtin.append_ #[T, T'] ty #[.slice (some ⟨b, 0, none⟩) k cap, u]).run P w = ((storeCells ⟨b, k * sz, none⟩ ys 0).run P w).andThen fun _ w' => .ok (.slice (some ⟨b, 0, none⟩) (k + m) cap) w' := by
  rcases hz' with ⟨e, hz'⟩ | hz' <;> simp [Builtin.append_, run_underlying ht, run_underlying hz', run_sizeOf hE, hul, hu, hfit, add_off]

theorem run_append_new {agg : Bool} {sz bytes k m cap : Nat} {zs xs ys : List Value} {E T' : TypeId} {a : Option Addr} {u : Value} (ht : P.underlying T = some (.slice E)) (hz' : SrcT P T') (hE : Ty P E agg sz bytes zs) (hb0 : 0 < bytes) (hul : (Builtin.lenOf u).run P w = .ok m w) (hud : (Builtin.firstCells sz m u).run P w.drew = .ok ys.toArray w.drew)
    (hold : (Builtin.firstCells sz k (.slice a k cap)).run P w.drew = .ok xs.toArray w.drew) (hfit : cap < k + m) (hroom : (k + m) * bytes ≤ 140737488355328) :
    (Builtin.append_ #[T, T'] ty #[.slice a k cap, u]).run P w = .ok (.slice (some ⟨w.heap.size, 0, none⟩) (k + m) (grownCap w (k + m) cap E)) (w.drew.alloc (blk E (xs ++ ys ++ (List.replicate (grownCap w (k + m) cap E - (k + m)) zs).flatten))) := by
  have hobt := hE.info
  obtain ⟨i, z0, hi, hsz, hby, hz0, hc0, _⟩ := hobt
  have hn : ¬ (k + m ≤ cap) := by omega
  have h63' : ¬ (9223372036854775807 < ((k : Int) + (m : Int))) := by
    have : (k + m) * 1 ≤ (k + m) * bytes := Nat.mul_le_mul_left _ hb0
    omega
  have h48' : ¬ (281474976710656 < Builtin.nextslicecap (k + m) cap * i.bytes) := by
    rw [hby]
    have := growslice_fits (old := cap) (bytes := bytes) (need := k + m) (by omega) hroom
    omega
  have hzc : ∀ j, Builtin.zeroCells z0.cells j = ((List.replicate j zs).flatten).toArray := fun j => by
    rw [hc0]
    have := zero_row zs j
    simpa [Builtin.zeroCells] using this
  have hblk : ∀ l : List Value, Obj.cells l.toArray E = blk E l := fun l => rfl
  subst hsz
  rcases hz' with ⟨e, hz'⟩ | hz' <;>
    simp [Builtin.append_, run_underlying ht, run_underlying hz', sizeOf, typeInfo, zeroValue, hi, hz0, hul, hud, hn, h63', h48', Question.forced, hold, newRow, grownCap, hzc, hblk]

/-- What append yields, of our own slice: in its room, or in a new block. -/
theorem run_append {agg : Bool} {sz bytes k m : Nat} {zs xs ys : List Value} {E T' : TypeId} {v u : Value} {Lv : List (Nat × Obj)} (ht : P.underlying T = some (.slice E)) (hz' : SrcT P T') (hE : Ty P E agg sz bytes zs) (hzl : zs.length = sz) (hb0 : 0 < bytes)
    (hv : OwnSl E sz v k xs Lv) (hs : Step S (Lv ++ L) w0 w) (hul : (Builtin.lenOf u).run P w = .ok m w) (hu : (Builtin.firstCells sz m u).run P w = .ok ys.toArray w) (hud : (Builtin.firstCells sz m u).run P w.drew = .ok ys.toArray w.drew) (hly : ys.length = m * sz) (hc1 : Cells1 ys) (hroom : (k + m) * bytes ≤ 140737488355328) :
    ∃ v' Lv' w', (Builtin.append_ #[T, T'] ty #[v, u]).run P w = .ok v' w' ∧ OwnSl E sz v' (k + m) (xs ++ ys) Lv' ∧ Step S (Lv' ++ L) w0 w' := by
  have hsl := hv.sl hs
  obtain ⟨hl, hcase⟩ := hv
  obtain ⟨a, cap, rfl⟩ : ∃ a cap, v = .slice a k cap := by
    rcases hcase with ⟨rfl, rfl, rfl⟩ | ⟨b, cap, more, rfl, rfl, hcap⟩ <;> exact ⟨_, _, rfl⟩
  by_cases hfit : k + m ≤ cap
  · rcases hcase with ⟨h1, rfl, rfl⟩ | ⟨b, cap', more, h1, rfl, hcap⟩
    · injection h1 with h1 h2 h3
      subst h1; subst h3
      have hm : m = 0 := by omega
      subst hm
      have hys : ys = [] := by simpa using hly
      subst hys
      exact ⟨.slice none 0 0, [], w, run_append_nil0 ht hz' hE hul hu, ⟨by simpa using hl, .inl ⟨by simp, rfl, rfl⟩⟩, hs⟩
    · injection h1 with h1 h2 h3
      subst h1; subst h3
      have hlm : (xs ++ more).length = xs.length + more.length := by simp
      have hle : ys.length ≤ more.length := by
        have : (k + m) * sz ≤ cap * sz := Nat.mul_le_mul_right _ hfit
        rw [Nat.add_mul] at this
        omega
      have hst := run_storeCells (P := P) ys 0 (k * sz) b E (xs ++ more) w hs.hd (by rw [hlm]; omega) hc1
      refine ⟨.slice (some ⟨b, 0, none⟩) (k + m) cap, [(b, blk E (xs ++ ys ++ more.drop ys.length))], setRow w b (k * sz + 0) ys, ?_, ⟨by simp [hl, hly, Nat.add_mul], .inr ⟨b, cap, more.drop ys.length, rfl, rfl, ?_⟩⟩, ?_⟩
      · rw [run_append_in ht hz' hE hul hu hfit, hst]
        rfl
      · simp only [List.length_append, List.length_drop] at hcap ⊢
        omega
      · have := Step.row ys (k * sz) (xs ++ more) w hs (by rw [hlm]; omega)
        rw [← hl, splice_end xs more ys hle] at this
        rw [Nat.add_zero, ← hl]
        exact this
  · have hle : k + m ≤ grownCap w (k + m) cap E := by unfold grownCap Question.cut; exact Nat.le_add_right _ _
    refine ⟨_, [(w.heap.size, _)], _, run_append_new ht hz' hE hb0 hul hud (run_firstCells_drew hsl) (by omega) hroom, ⟨by simp [hl, hly, Nat.add_mul], .inr ⟨_, _, _, rfl, rfl, ?_⟩⟩, hs.dropL.drew.alloc _⟩
    simp only [List.length_append, List.length_flatten, List.map_replicate, List.sum_replicate_nat, hl, hly, hzl, ← Nat.add_mul]
    congr 1
    omega

/-- append(v, u...), v our own. -/
theorem WL.append {agg : Bool} {sz bytes k m : Nat} {zs xs ys : List Value} {E T' : TypeId} {v u : Value} {Lv : List (Nat × Obj)} (ht : P.underlying T = some (.slice E)) (ht' : P.underlying T' = some (.slice E)) (hE : Ty P E agg sz bytes zs) (hzl : zs.length = sz) (hb0 : 0 < bytes)
    (hx : ev f x = v) (hy : ev f y = u) (hv : OwnSl E sz v k xs Lv) (hs : Step S (Lv ++ L) w0 w) (hu : Sl w sz u m ys) (hc1 : Cells1 ys) (hroom : (k + m) * bytes ≤ 140737488355328) (hd : Nat.blt d n = true)
    (h : ∀ v' Lv' w', OwnSl E sz v' (k + m) (xs ++ ys) Lv' → Step S (Lv' ++ L) w0 w' → WL P ops Q n rest (upd f d v') ds w') :
    WL P ops Q n (⟨some d, .call { callee := .builtin .append, args := #[x, y], argTypes := #[T, T'] }, ty, pos, af, none⟩ :: rest) f ds w := by
  have hobt := run_append (ty := ty) ht (.inl ⟨E, ht'⟩) hE hzl hb0 hv hs (run_lenOf hu) (run_firstCells hu) (run_firstCells_drew hu) hu.1 hc1 hroom
  obtain ⟨v', Lv', w', hr, ho, hst⟩ := hobt
  refine WL.val hd ?_ (h v' Lv' w' ho hst)
  simp [execOp, hx, hy, resolve, invoke, builtin, hr]

/-- copy(v, u): into a block that we own. -/
theorem WL.copy {agg : Bool} {sz bytes len cap m b off : Nat} {zs cs ys : List Value} {E T' Tb : TypeId} {u : Value} {dd : Option Nat} (ht : P.underlying T = some (.slice E)) (hE : Ty P E agg sz bytes zs)
    (hx : ev f x = .slice (some ⟨b, off, none⟩) len cap) (hy : ev f y = u) (hs : Step S ((b, blk Tb cs) :: L) w0 w) (hu : Sl w sz u m ys) (hc1 : Cells1 ys) (hlen : off + len * sz ≤ cs.length) (hd : ∀ k, dd = some k → Nat.blt k n = true)
    (h : ∀ w', Step S ((b, blk Tb (splice cs off (ys.take (min m len * sz)))) :: L) w0 w' → (∀ k, dd = some k → WL P ops Q n rest (upd f k (.int .i64 (min m len : Nat))) ds w') ∧ (dd = none → WL P ops Q n rest f ds w')) :
    WL P ops Q n (⟨dd, .call { callee := .builtin .copy, args := #[x, y], argTypes := #[T, T'] }, ty, pos, af, none⟩ :: rest) f ds w := by
  have hly := hu.1
  have htl : (ys.take (min m len * sz)).length = min m len * sz := by
    rw [List.length_take, hly]
    exact Nat.min_eq_left (Nat.mul_le_mul_right _ (Nat.min_le_left _ _))
  have hle : min m len * sz ≤ len * sz := Nat.mul_le_mul_right _ (Nat.min_le_right _ _)
  have hf : (Builtin.firstCells sz (min m len) u).run P w = .ok (ys.take (min m len * sz)).toArray w := by
    obtain ⟨_, ⟨a, c, rfl, rfl⟩ | ⟨b', off', c, rfl, hat⟩⟩ := hu
    · have : ys = [] := by simpa using hly
      subst this
      cases a <;> simp [Builtin.firstCells, loadCells] <;> rfl
    · have := run_loadCells_at (P := P) (hat.take (min m len * sz))
      rw [htl] at this
      simpa [Builtin.firstCells] using this
  have hst := run_storeCells (P := P) (ys.take (min m len * sz)) 0 off b Tb cs w hs.hd (by rw [htl]; omega) (hc1.take _)
  have hrun : (execOp (ev f) ⟨dd, .call { callee := .builtin .copy, args := #[x, y], argTypes := #[T, T'] }, ty, pos, af, none⟩).run P w = .ok (.value (.int .i64 (min m len : Nat))) (setRow w b (off + 0) (ys.take (min m len * sz))) := by
    have hmin : Nat.min m len = min m len := rfl
    simp [execOp, hx, hy, resolve, invoke, builtin, Builtin.copy_, run_underlying ht, run_sizeOf hE, run_lenOf hu, hmin, hf, hst, goInt]
  have hstep := Step.row (ys.take (min m len * sz)) off cs w hs (by rw [htl]; omega)
  have hobt := h _ hstep
  obtain ⟨h1, h2⟩ := hobt
  cases dd with
  | none => exact WL.drop hrun (h2 rfl)
  | some k => exact WL.val (hd k rfl) hrun (h1 k rfl)

theorem push_bytes : ∀ (s acc : List UInt8), (s.map fun c => (c.toNat : Int)).foldl (fun (r : ByteArray) (n : Int) => r.push (UInt8.ofNat n.toNat)) ⟨⟨acc⟩⟩ = ⟨⟨acc ++ s⟩⟩
  | [], acc => by simp
  | c :: s, acc => by
    have : (ByteArray.mk ⟨acc⟩).push (UInt8.ofNat ((c.toNat : Int)).toNat) = ⟨⟨acc ++ [c]⟩⟩ := by
      apply ByteArray.ext
      simp [ByteArray.push]
    simp only [List.map_cons, List.foldl_cons, this]
    rw [push_bytes s (acc ++ [c])]
    simp

/-- string(b) -/
theorem run_toString {E T' : TypeId} {k : Nat} {s : List UInt8} {v : Value} {d : Option Tmp} (ht : P.underlying T = some (.slice E)) (ht' : P.underlying T' = some .string) (hE : P.underlying E = some (.int .u8)) (hx : ev f x = v) (hv : Sl w 1 v k (u8s s)) :
    (execOp (ev f) ⟨d, .convert T T' x, ty, pos, af, none⟩).run P w = .ok (.value (str s)) w := by
  obtain ⟨hl, ⟨a, c, rfl, rfl⟩ | ⟨b, off, c, rfl, hat⟩⟩ := hv
  · have : s = [] := by simpa [u8s] using hl
    subst this
    cases a <;> simp [execOp, hx, convert, run_underlying ht, run_underlying ht', run_underlying hE, Conv.bytesToString, loadCells, str] <;> rfl
  · have hlen : (u8s s).length = k := by simpa using hl
    have hload := run_loadCells_at (P := P) hat
    rw [hlen] at hload
    have hmap : (u8s s) = (s.map fun c => (c.toNat : Int)).map (Value.int .u8) := by simp [u8s]
    rw [hmap] at hload
    have hr := run_bytesToString (P := P) w ⟨b, off, none⟩ k c _ hload
    have he : (ByteArray.empty) = ⟨⟨[]⟩⟩ := rfl
    rw [he, push_bytes, List.nil_append] at hr
    simp [execOp, hx, convert, run_underlying ht, run_underlying ht', run_underlying hE, hr, str]
end

section conds
variable {P : Program} {Q : Post} {n : Nat} {f : Slots} {ds : List Deferred} {w : World}
theorem CW.condP {p : Prop} [Decidable p] {c : Operand} {x y : Code} (hc : ev f c = .bool (decide p)) (ht : p → CW P x Q n f ds w) (hf : ¬ p → CW P y Q n f ds w) : CW P (.cond c x y) Q n f ds w :=
  .cond hc (fun h => ht (of_decide_eq_true h)) (fun h => hf (of_decide_eq_false h))
end conds

/-! ### Regions that draw their order and leave the world alone but for draws and new blocks -/
section quiet
variable {P : Program} {ops : Array Oper} {n : Nat} {rest : List Oper} {f : Slots} {ds : List Deferred} {w w0 : World} {o : Op} {ty : TypeId} {pos : String} {af : Array Edge} {S : List Nat} {L : List (Nat × Obj)} {Q : Slots → Prop}

structure QL (P : Program) (ops : Array Oper) (S : List Nat) (L : List (Nat × Obj)) (w0 : World) (Q : Slots → Prop) (n : Nat) (l : List Oper) (f : Slots) (ds : List Deferred) : Prop where
  out : ∀ a, Rep n f ds a → wpQuiet P ops (fun w => Step S L w0 w) (fun a' => ∃ f', Rep n f' ds a' ∧ Q f') l a

theorem QL.nil (h : Q f) : QL P ops S L w0 Q n [] f ds := ⟨fun a ha => ⟨f, ha, h⟩⟩
theorem QL.val {d : Nat} {v : Value} (hd : Nat.blt d n = true) (hrun : ∀ w, Step S L w0 w → (execOp (ev f) ⟨some d, o, ty, pos, af, none⟩).run P w = .ok (.value v) w)
    (h : QL P ops S L w0 Q n rest (upd f d v) ds) : QL P ops S L w0 Q n (⟨some d, o, ty, pos, af, none⟩ :: rest) f ds :=
  ⟨fun a ha => wpQuiet_step fun K hK => by
    rw [if_pos (by simp [Region.wanted])]
    refine ⟨v, fun w hw => ?_, hK _ (h.out _ (ha.put hd v))⟩
    unfold Oper.quietAt
    rw [ha.eval, hrun w hw]
    exact ⟨rfl, rfl⟩⟩
theorem QL.enter {d : Nat} {F : FuncId} {args : Array Value} {v : Value} (hd : Nat.blt d n = true)
    (hrun : ∀ w, (execOp (ev f) ⟨some d, o, ty, pos, af, none⟩).run P w = .ok (.enter F args) w) (hc : ∀ w, Step S L w0 w → Calls P F args w fun e w' => e = .returned v ∧ Step [] [] w w')
    (h : QL P ops S L w0 Q n rest (upd f d v) ds) : QL P ops S L w0 Q n (⟨some d, o, ty, pos, af, none⟩ :: rest) f ds :=
  ⟨fun a ha => wpQuiet_step fun K hK => by
    rw [if_pos (by simp [Region.wanted])]
    refine ⟨v, fun w hw => ?_, hK _ (h.out _ (ha.put hd v))⟩
    unfold Oper.quietAt
    rw [ha.eval, hrun w]
    exact ⟨rfl, (hc w hw).mono fun e w' ⟨he, hs⟩ => ⟨he, hw.call0 hs⟩⟩⟩
theorem QL.yes {d : Option Nat} {j dj : Nat} {want : Bool} (hj : (ops[j]?).bind (·.dst) = some dj) (hdj : Nat.blt dj n = true) (hv : f dj = .bool want)
    (h : QL P ops S L w0 Q n (⟨d, o, ty, pos, af, none⟩ :: rest) f ds) : QL P ops S L w0 Q n (⟨d, o, ty, pos, af, some (j, want)⟩ :: rest) f ds :=
  ⟨fun a ha => by
    have hy := yielded_rep (ops := ops) ha hj hdj
    rw [hv] at hy
    have := h.out a ha
    simp only [wpQuiet, Region.wanted, hy, beq_self_eq_true, if_true] at this ⊢
    exact this⟩
theorem QL.no {d : Nat} {j dj : Nat} {want : Bool} (hd : Nat.blt d n = true) (hj : (ops[j]?).bind (·.dst) = some dj) (hdj : Nat.blt dj n = true)
    (hv : f dj = .bool (!want) ∨ f dj = undef)
    (h : QL P ops S L w0 Q n rest (upd f d undef) ds) : QL P ops S L w0 Q n (⟨some d, o, ty, pos, af, some (j, want)⟩ :: rest) f ds :=
  ⟨fun a ha => by
    have hy := yielded_rep (ops := ops) ha hj hdj
    have hne : (yielded ops a.tmps j == some want) = false := by
      rw [hy]
      rcases hv with hv | hv
      · rw [hv]; cases want <;> rfl
      · rw [hv]; rfl
    simp only [wpQuiet, Region.wanted, hne, Bool.false_eq_true, if_false]
    exact h.out _ (ha.put hd undef)⟩

theorem CW.quiet {Q : Post} {id : Nat} {l : List Oper} (hm : P.follows .mixedOrders = true) (hB : Region.lexB .any l.toArray = true) (hs : Step S L w0 w)
    (h : QL P l.toArray S L w0 (fun f' => ∀ w', Step S L w0 w' → Q .normal f' ds w') n l f ds) : CW P (.region id l.toArray true) Q n f ds w :=
  ⟨fun a ha => wp_region_quiet (C := fun w => Step S L w0 w) hm hB hs.drew (by
    have hmono : ∀ (l' : List Oper) (a : Act), wpQuiet P l.toArray (fun w => Step S L w0 w) (fun a' => ∃ f', Rep n f' ds a' ∧ ∀ w', Step S L w0 w' → Q .normal f' ds w') l' a → wpQuiet P l.toArray (fun w => Step S L w0 w) (fun a' => ∀ w', Step S L w0 w' → lift n Q .normal a' w') l' a := by
      intro l'
      induction l' with
      | nil => exact fun a ⟨f', hr, hq⟩ w' hw' => ⟨f', ds, hr, hq w' hw'⟩
      | cons o l' ih =>
        intro a hh
        simp only [wpQuiet] at hh ⊢
        split
        · rename_i hw; rw [if_pos hw] at hh; exact Oper.quiet_mono ih hh
        · rename_i hw; rw [if_neg hw] at hh; exact ih _ hh
    exact hmono _ _ (by simpa using h.out a ha))⟩
end quiet

section more
variable {S : List Nat} {L : List (Nat × Obj)} {w w' : World} {b b1 b2 b3 o : Nat} {T : TypeId} {cs : List Value} {v : Value} {o1 o2 o3 : Obj}
theorem Step.c0 (hs : Step S ((b, blk T cs) :: L) w w') (ho : cs[o]? = some v) : w'.cell? ⟨b, o, none⟩ = some v := by rw [cell_blk hs.hd, ho]
theorem Step.c1 (hs : Step S ((b1, o1) :: (b, blk T cs) :: L) w w') (ho : cs[o]? = some v) : w'.cell? ⟨b, o, none⟩ = some v := hs.tail.c0 ho
theorem Step.c2 (hs : Step S ((b1, o1) :: (b2, o2) :: (b, blk T cs) :: L) w w') (ho : cs[o]? = some v) : w'.cell? ⟨b, o, none⟩ = some v := hs.tail.tail.c0 ho
theorem Step.c3 (hs : Step S ((b1, o1) :: (b2, o2) :: (b3, o3) :: (b, blk T cs) :: L) w w') (ho : cs[o]? = some v) : w'.cell? ⟨b, o, none⟩ = some v := hs.tail.tail.tail.c0 ho
theorem Step.a0 (hs : Step S ((b, blk T cs) :: L) w w') : At w' b 0 cs := At.of_blk hs.hd
theorem Step.a1 (hs : Step S ((b1, o1) :: (b, blk T cs) :: L) w w') : At w' b 0 cs := At.of_blk hs.tail.hd
theorem Step.a2 (hs : Step S ((b1, o1) :: (b2, o2) :: (b, blk T cs) :: L) w w') : At w' b 0 cs := At.of_blk hs.tail.tail.hd
theorem Step.at (L1 : List (Nat × Obj)) {L : List (Nat × Obj)} {p : Nat × Obj} (hs : Step S (L1 ++ p :: L) w w') : w'.heap[p.1]? = some p.2 := hs.get (by simp)
theorem Step.c4 {p1 p2 p3 p4 : Nat × Obj} (hs : Step S (p1 :: p2 :: p3 :: p4 :: (b, blk T cs) :: L) w w') (ho : cs[o]? = some v) : w'.cell? ⟨b, o, none⟩ = some v := hs.tail.tail.tail.tail.c0 ho
theorem Step.c5 {p1 p2 p3 p4 p5 : Nat × Obj} (hs : Step S (p1 :: p2 :: p3 :: p4 :: p5 :: (b, blk T cs) :: L) w w') (ho : cs[o]? = some v) : w'.cell? ⟨b, o, none⟩ = some v := hs.tail.tail.tail.tail.tail.c0 ho
theorem Step.a3 {p1 p2 p3 : Nat × Obj} (hs : Step S (p1 :: p2 :: p3 :: (b, blk T cs) :: L) w w') : At w' b 0 cs := At.of_blk hs.tail.tail.tail.hd
theorem Step.a4 {p1 p2 p3 p4 : Nat × Obj} (hs : Step S (p1 :: p2 :: p3 :: p4 :: (b, blk T cs) :: L) w w') : At w' b 0 cs := At.of_blk hs.tail.tail.tail.tail.hd
theorem Step.a5 {p1 p2 p3 p4 p5 : Nat × Obj} (hs : Step S (p1 :: p2 :: p3 :: p4 :: p5 :: (b, blk T cs) :: L) w w') : At w' b 0 cs := At.of_blk hs.tail.tail.tail.tail.tail.hd
end more

section stores
variable {P : Program} {ops : Array Oper} {Q : Post} {n : Nat} {rest : List Oper} {f : Slots} {ds : List Deferred} {w w0 : World} {ty : TypeId} {pos : String} {af : Array Edge} {x y : Operand} {T : TypeId} {S : List Nat} {L : List (Nat × Obj)}
theorem WL.store1_at (L1 : List (Nat × Obj)) {agg : Bool} {bytes : Nat} {zs cs : List Value} {b o : Nat} {T' : TypeId} {v : Value} (hT : Ty P T agg 1 bytes zs) (hx : ev f x = .pointer (some ⟨b, o, none⟩)) (hy : ev f y = v) (hv : v.oneCell' = true)
    (hs : Step S (L1 ++ (b, blk T' cs) :: L) w0 w) (ho : o < cs.length) (h : ∀ w', Step S (L1 ++ (b, blk T' (cs.set o v)) :: L) w0 w' → WL P ops Q n rest f ds w') : WL P ops Q n (⟨none, .store T x y, ty, pos, af, none⟩ :: rest) f ds w :=
  WL.store1 hT hx hy hv (hs.front L1) ho fun w' hs' => h w' (hs'.perm List.perm_middle.symm)
section
variable {p1 p2 p3 p4 : Nat × Obj} {agg : Bool} {bytes : Nat} {zs cs : List Value} {b o : Nat} {T' : TypeId} {v : Value} (hT : Ty P T agg 1 bytes zs) (hx : ev f x = .pointer (some ⟨b, o, none⟩)) (hy : ev f y = v) (hv : v.oneCell' = true)
include hT hx hy hv
theorem WL.store1_1 (hs : Step S (p1 :: (b, blk T' cs) :: L) w0 w) (ho : o < cs.length) (h : ∀ w', Step S (p1 :: (b, blk T' (cs.set o v)) :: L) w0 w' → WL P ops Q n rest f ds w') : WL P ops Q n (⟨none, .store T x y, ty, pos, af, none⟩ :: rest) f ds w :=
  WL.store1_at [p1] hT hx hy hv hs ho h
theorem WL.store1_2 (hs : Step S (p1 :: p2 :: (b, blk T' cs) :: L) w0 w) (ho : o < cs.length) (h : ∀ w', Step S (p1 :: p2 :: (b, blk T' (cs.set o v)) :: L) w0 w' → WL P ops Q n rest f ds w') : WL P ops Q n (⟨none, .store T x y, ty, pos, af, none⟩ :: rest) f ds w :=
  WL.store1_at [p1, p2] hT hx hy hv hs ho h
theorem WL.store1_3 (hs : Step S (p1 :: p2 :: p3 :: (b, blk T' cs) :: L) w0 w) (ho : o < cs.length) (h : ∀ w', Step S (p1 :: p2 :: p3 :: (b, blk T' (cs.set o v)) :: L) w0 w' → WL P ops Q n rest f ds w') : WL P ops Q n (⟨none, .store T x y, ty, pos, af, none⟩ :: rest) f ds w :=
  WL.store1_at [p1, p2, p3] hT hx hy hv hs ho h
end
section
variable {p1 p2 p3 p4 : Nat × Obj} {agg : Bool} {k bytes : Nat} {zs cs vs : List Value} {b : Nat} {T' : TypeId} (hT : Ty P T agg k bytes zs) (hx : ev f x = .pointer (some ⟨b, 0, none⟩)) (hy : ev f y = .agg vs.toArray) (hl : vs.length = k) (hv : Cells1 vs)
include hT hx hy hl hv
end
end stores
end Go.Gx.Gy
