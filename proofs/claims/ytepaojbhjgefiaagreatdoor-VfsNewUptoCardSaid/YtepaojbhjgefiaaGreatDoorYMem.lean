/- Memory as a list of owned blocks beside what is only read; what one operation does. No program in sight. -/
import Derived.Test.YtepaojbhjgefiaaGreatDoorA1
namespace Go.Gx.Gy
set_option linter.unusedVariables false
set_option linter.unusedSimpArgs false

/-- A block of cells, not frozen; and one that a string's bytes were copied into (the mark lies behind its end). -/
def blk (T : TypeId) (cs : List Value) : Obj := .cells cs.toArray T (0, 0)
def blkM (T : TypeId) (cs : List Value) : Obj := .cells cs.toArray T (cs.length, cs.length + 1)

abbrev dr (w : World) : Nat := w.drawn
/-- Outside the blocks S nothing that was there has turned. -/
structure Chg (S : List Nat) (w w' : World) : Prop where
  os : w'.os = w.os
  tape : w'.tape = w.tape
  output : w'.output = w.output
  size : w.heap.size ≤ w'.heap.size
  block : ∀ k, k < w.heap.size → k ∉ S → w'.heap[k]? = w.heap[k]?
  drawn : dr w ≤ dr w'

theorem Chg.refl (S : List Nat) (w : World) : Chg S w w := ⟨rfl, rfl, rfl, Nat.le_refl _, fun _ _ _ => rfl, Nat.le_refl _⟩
theorem Chg.trans {S S' : List Nat} {w w' w'' : World} (h : Chg S w w') (h' : Chg S' w' w'') (hs : ∀ k ∈ S', k ∈ S ∨ w.heap.size ≤ k) : Chg S w w'' :=
  ⟨h'.os.trans h.os, h'.tape.trans h.tape, h'.output.trans h.output, Nat.le_trans h.size h'.size, fun k hk hn => by
    rw [h'.block k (Nat.lt_of_lt_of_le hk h.size) (fun hk' => by rcases hs k hk' with h1 | h1; exact hn h1; omega), h.block k hk hn], Nat.le_trans h.drawn h'.drawn⟩

/-- From w on only S's blocks were written, new ones were laid; now these blocks are ours (of S, or new), and hold this. -/
structure Step (S : List Nat) (L : List (Nat × Obj)) (w w' : World) : Prop where
  chg : Chg S w w'
  nodup : (L.map (·.1)).Nodup
  has : ∀ p ∈ L, w'.heap[p.1]? = some p.2
  new : ∀ p ∈ L, p.1 ∈ S ∨ w.heap.size ≤ p.1

theorem lt_of_get {w : World} {b : Nat} {o : Obj} (h : w.heap[b]? = some o) : b < w.heap.size := by
  rcases Nat.lt_or_ge b w.heap.size with h' | h'
  · exact h'
  · rw [Array.getElem?_eq_none h'] at h; cases h

theorem Step.refl (w : World) : Step [] [] w w := ⟨Chg.refl _ _, by simp, by simp, by simp⟩
theorem Step.start {L : List (Nat × Obj)} {w : World} (hn : (L.map (·.1)).Nodup) (hh : ∀ p ∈ L, w.heap[p.1]? = some p.2) : Step (L.map (·.1)) L w w :=
  ⟨Chg.refl _ _, hn, hh, fun p hp => .inl (List.mem_map_of_mem hp)⟩

section
variable {S : List Nat} {L L' L1 L2 : List (Nat × Obj)} {w w' w'' : World}

theorem Step.perm (h : Step S L w w') (hp : L.Perm L') : Step S L' w w' :=
  ⟨h.chg, (hp.map _).nodup_iff.1 h.nodup, fun p hm => h.has p (hp.mem_iff.2 hm), fun p hm => h.new p (hp.mem_iff.2 hm)⟩

theorem Step.dropL (h : Step S (L1 ++ L2) w w') : Step S L2 w w' :=
  ⟨h.chg, by have := h.nodup; rw [List.map_append, List.nodup_append] at this; exact this.2.1, fun p hm => h.has p (by simp [hm]), fun p hm => h.new p (by simp [hm])⟩
theorem Step.dropR (h : Step S (L1 ++ L2) w w') : Step S L1 w w' :=
  ⟨h.chg, by have := h.nodup; rw [List.map_append, List.nodup_append] at this; exact this.1, fun p hm => h.has p (by simp [hm]), fun p hm => h.new p (by simp [hm])⟩
theorem Step.tail {p : Nat × Obj} (h : Step S (p :: L) w w') : Step S L w w' := Step.dropL (L1 := [p]) h
theorem Step.clear (h : Step S L w w') : Step S [] w w' := ⟨h.chg, by simp, by simp, by simp⟩
/-- A block into the front. -/
theorem Step.front (L1 : List (Nat × Obj)) {p : Nat × Obj} (h : Step S (L1 ++ p :: L2) w w') : Step S (p :: (L1 ++ L2)) w w' := h.perm List.perm_middle
theorem Step.swap {p q : Nat × Obj} (h : Step S (p :: q :: L) w w') : Step S (q :: p :: L) w w' := h.perm (List.Perm.swap _ _ _)
theorem Step.append_comm (h : Step S (L1 ++ L2) w w') : Step S (L2 ++ L1) w w' := h.perm List.perm_append_comm

/-- A call that owned L1 and left L1'. -/
theorem Step.call (h : Step S (L1 ++ L) w w') (hc : Step (L1.map (·.1)) L' w' w'') : Step S (L' ++ L) w w'' := by
  have hn := h.nodup
  rw [List.map_append, List.nodup_append] at hn
  obtain ⟨hn1, hn2, hn3⟩ := hn
  refine ⟨h.chg.trans hc.chg ?_, ?_, ?_, ?_⟩
  · intro k hk
    have hobt := List.mem_map.1 hk
    obtain ⟨p, hp, rfl⟩ := hobt
    exact h.new p (by simp [hp])
  · rw [List.map_append, List.nodup_append]
    refine ⟨hc.nodup, hn2, fun a ha b hb hab => ?_⟩
    subst hab
    have hobt := List.mem_map.1 ha
    obtain ⟨p, hp, rfl⟩ := hobt
    have hobt := List.mem_map.1 hb
    obtain ⟨q, hq, hqp⟩ := hobt
    rcases hc.new p hp with h1 | h1
    · exact hn3 _ h1 _ hb rfl
    · have := lt_of_get (h.has q (by simp [hq]))
      omega
  · intro p hp
    rcases List.mem_append.1 hp with hp | hp
    · exact hc.has p hp
    · rw [hc.chg.block p.1 (lt_of_get (h.has p (by simp [hp]))) (fun hk => hn3 _ hk _ (List.mem_map_of_mem hp) rfl)]
      exact h.has p (by simp [hp])
  · intro p hp
    rcases List.mem_append.1 hp with hp | hp
    · rcases hc.new p hp with h1 | h1
      · have hobt := List.mem_map.1 h1
        obtain ⟨q, hq, hqp⟩ := hobt
        rw [← hqp]
        exact h.new q (by simp [hq])
      · exact .inr (Nat.le_trans h.chg.size h1)
    · exact h.new p (by simp [hp])
/-- A call that owned nothing of what was there. -/
theorem Step.call0 (h : Step S L w w') (hc : Step [] L' w' w'') : Step S (L' ++ L) w w'' := Step.call (L1 := []) h hc

theorem Step.drewN (h : Step S L w w') (n : Nat) : Step S L w (w'.drewN n) := ⟨⟨h.chg.os, h.chg.tape, h.chg.output, h.chg.size, h.chg.block, Nat.le_trans h.chg.drawn (by first | exact Nat.le_add_right _ _ | exact Nat.le_refl _)⟩, h.nodup, h.has, h.new⟩
theorem Step.drew (h : Step S L w w') : Step S L w w'.drew := h.drewN 1

theorem heap_alloc_new (w : World) (o : Obj) : (w.alloc o).heap[w.heap.size]? = some o := by
  show (w.heap.push o)[w.heap.size]? = some o
  simp
theorem heap_alloc_old (w : World) (o : Obj) {k : Nat} (h : k < w.heap.size) : (w.alloc o).heap[k]? = w.heap[k]? := by
  show (w.heap.push o)[k]? = _
  rw [Array.getElem?_push, if_neg (by omega)]

theorem Step.alloc (h : Step S L w w') (o : Obj) : Step S ((w'.heap.size, o) :: L) w (w'.alloc o) := by
  have hc : Step [] [(w'.heap.size, o)] w' (w'.alloc o) := by
    refine ⟨⟨rfl, rfl, rfl, by simp, fun k hk _ => heap_alloc_old _ _ hk, Nat.le_refl _⟩, by simp, ?_, ?_⟩
    · intro p hp; simp at hp; subst hp; exact heap_alloc_new _ _
    · intro p hp; simp at hp; subst hp; exact .inr (Nat.le_refl _)
  exact h.call0 hc

theorem heap_setCell_other (w : World) (a : Addr) (u : Value) {k : Nat} (h : k ≠ a.block) : (w.setCell a u).heap[k]? = w.heap[k]? := by
  simp only [World.setCell, Array.getElem?_modify]
  rw [if_neg (by omega)]

theorem heap_setCell_blk (w : World) {b : Nat} {T : TypeId} {cs : List Value} (o : Nat) (v : Value) (h : w.heap[b]? = some (blk T cs)) : (w.setCell ⟨b, o, none⟩ v).heap[b]? = some (blk T (cs.set o v)) := by
  simp only [World.setCell, Array.getElem?_modify, if_true, h, blk, Option.map_some]
  simp

theorem Step.set {b : Nat} {T : TypeId} {cs : List Value} (h : Step S ((b, blk T cs) :: L) w w') (o : Nat) (v : Value) : Step S ((b, blk T (cs.set o v)) :: L) w (w'.setCell ⟨b, o, none⟩ v) := by
  have hb := h.has (b, blk T cs) (by simp)
  have hc : Step ([(b, blk T cs)].map (·.1)) [(b, blk T (cs.set o v))] w' (w'.setCell ⟨b, o, none⟩ v) := by
    refine ⟨⟨rfl, rfl, rfl, by simp, fun k hk hn => heap_setCell_other _ _ _ (by simpa using hn), Nat.le_refl _⟩, by simp, ?_, by simp⟩
    intro p hp; simp at hp; subst hp; exact heap_setCell_blk _ _ _ hb
  exact Step.call (L1 := [(b, blk T cs)]) h hc

/-- What lies outside S is as it was. -/
theorem Step.old {b : Nat} {o : Obj} (h : Step S L w w') (hb : w.heap[b]? = some o) (hS : b ∉ S) : w'.heap[b]? = some o := by
  rw [h.chg.block b (lt_of_get hb) hS, hb]
theorem Step.get {b : Nat} {o : Obj} (h : Step S L w w') (hb : (b, o) ∈ L) : w'.heap[b]? = some o := h.has _ hb
theorem Step.hd {b : Nat} {o : Obj} (h : Step S ((b, o) :: L) w w') : w'.heap[b]? = some o := h.has (b, o) (by simp)
end

theorem cell_blk {w : World} {b : Nat} {T : TypeId} {cs : List Value} (h : w.heap[b]? = some (blk T cs)) (o : Nat) : w.cell? ⟨b, o, none⟩ = cs[o]? := by
  simp [World.cell?, h, blk]
theorem frozen_blk {w : World} {b : Nat} {T : TypeId} {cs : List Value} (h : w.heap[b]? = some (blk T cs)) (o : Nat) : w.frozen? ⟨b, o, none⟩ = false := by
  simp [World.frozen?, h, blk]

/-- Cells in a row, from this place on. -/
def At (w : World) (b off : Nat) (cs : List Value) : Prop := ∀ j v, cs[j]? = some v → w.cell? ⟨b, off + j, none⟩ = some v

theorem At.nil {w : World} {b off : Nat} : At w b off [] := by intro j v h; simp at h
theorem At.of_blk {w : World} {b : Nat} {T : TypeId} {cs : List Value} (h : w.heap[b]? = some (blk T cs)) : At w b 0 cs := fun j v hj => by rw [cell_blk h, Nat.zero_add]; exact hj
theorem At.drop {w : World} {b off : Nat} {cs : List Value} (h : At w b off cs) (k : Nat) : At w b (off + k) (cs.drop k) := fun j v hj => by
  rw [List.getElem?_drop] at hj
  have := h _ _ hj
  rwa [← Nat.add_assoc] at this
theorem At.take {w : World} {b off : Nat} {cs : List Value} (h : At w b off cs) (k : Nat) : At w b off (cs.take k) := fun j v hj => by
  rw [List.getElem?_take] at hj
  split at hj
  · exact h _ _ hj
  · cases hj
theorem At.left {w : World} {b off : Nat} {cs ds : List Value} (h : At w b off (cs ++ ds)) : At w b off cs := by
  have := h.take cs.length
  simpa using this
theorem At.right {w : World} {b off : Nat} {cs ds : List Value} (h : At w b off (cs ++ ds)) : At w b (off + cs.length) ds := by
  have := h.drop cs.length
  simpa using this
theorem At.cell {w : World} {b off : Nat} {cs : List Value} (h : At w b off cs) {j : Nat} {v : Value} (hj : cs[j]? = some v) : w.cell? ⟨b, off + j, none⟩ = some v := h j v hj
theorem At.lt {w : World} {b off : Nat} {cs : List Value} (h : At w b off cs) (hne : cs ≠ []) : b < w.heap.size := by
  cases cs with
  | nil => exact absurd rfl hne
  | cons c cs =>
    have := h 0 c rfl
    unfold World.cell? at this
    split at this
    · rename_i hb; exact lt_of_get hb
    · cases this
theorem cell_of_heap {w w' : World} {b : Nat} (h : w'.heap[b]? = w.heap[b]?) (o : Nat) : w'.cell? ⟨b, o, none⟩ = w.cell? ⟨b, o, none⟩ := by simp [World.cell?, h]
theorem At.step {S : List Nat} {L : List (Nat × Obj)} {w w' : World} {b off : Nat} {cs : List Value} (h : At w b off cs) (hs : Step S L w w') (hS : b ∉ S) : At w' b off cs := fun j v hj => by
  have h1 := h j v hj
  rw [cell_of_heap (hs.chg.block b (h.lt (fun e => by subst e; simp at hj)) hS)]
  exact h1

/-- A slice value of n elements of sz cells each, which are these. -/
def Sl (w : World) (sz : Nat) (v : Value) (n : Nat) (cs : List Value) : Prop :=
  cs.length = n * sz ∧ ((∃ a c, v = .slice a n c ∧ n = 0) ∨ ∃ b off c, v = .slice (some ⟨b, off, none⟩) n c ∧ At w b off cs)

/-- The slice's block, if it has one, is none of these. -/
def Outside (v : Value) (S : List Nat) : Prop := match v with | .slice (some a) _ _ => a.block ∉ S | _ => True

theorem Sl.nil (w : World) (sz c : Nat) : Sl w sz (.slice none 0 c) 0 [] := ⟨by simp, .inl ⟨none, c, rfl, rfl⟩⟩
theorem Sl.mk {w : World} {sz b off n c : Nat} {cs : List Value} (hl : cs.length = n * sz) (h : At w b off cs) : Sl w sz (.slice (some ⟨b, off, none⟩) n c) n cs := ⟨hl, .inr ⟨b, off, c, rfl, h⟩⟩
theorem Sl.step {S : List Nat} {L : List (Nat × Obj)} {w w' : World} {sz n : Nat} {v : Value} {cs : List Value} (h : Sl w sz v n cs) (hs : Step S L w w') (hS : Outside v S) : Sl w' sz v n cs := by
  obtain ⟨hl, h | ⟨b, off, c, rfl, h⟩⟩ := h
  · exact ⟨hl, .inl h⟩
  · exact ⟨hl, .inr ⟨b, off, c, rfl, h.step hs hS⟩⟩
theorem outside_nil (v : Value) : Outside v [] := by unfold Outside; split <;> simp
theorem Sl.step0 {L : List (Nat × Obj)} {w w' : World} {sz n : Nat} {v : Value} {cs : List Value} (h : Sl w sz v n cs) (hs : Step [] L w w') : Sl w' sz v n cs := h.step hs (outside_nil _)

/-- The slice has room for what it holds. -/
def Room (v : Value) : Prop := match v with | .slice _ n c => n ≤ c | _ => True

end Go.Gx.Gy
