/- Memory as a list of owned blocks beside what is only read; what one operation does. No program in sight. -/
import Derived.Test.YtepaojbhjgefiaaGreatDoorC1
set_option linter.unusedVariables false
set_option linter.unusedSimpArgs false
namespace Go.Gx.Gy

/-- A block of cells, not frozen; and one that a string's bytes were copied into (the mark lies behind its end). -/
def blk (T : TypeId) (cs : List Value) : Obj := .cells cs.toArray T (0, 0)
def blkM (T : TypeId) (cs : List Value) : Obj := .cells cs.toArray T (cs.length, cs.length + 1)

abbrev dr (w : World) : Nat := w.drawn
/-- Outside the blocks S nothing that was there has turned. -/
structure Chg (S : List Nat) (w w' : World) : Prop where
 os : w'.os = w.os
 tape : w'.tape = w.tape
 output : w'.output = w.output
 size : w.heap.size ≤ w'.heap.size
 block : ∀ k, k < w.heap.size → k ∉ S → w'.heap[k]? = w.heap[k]?
 drawn : dr w ≤ dr w'

theorem Chg.refl (S : List Nat) (w : World) : Chg S w w := ⟨rfl, rfl, rfl, Nat.le_refl _, fun _ _ _ => rfl, Nat.le_refl _⟩
theorem Chg.trans {S S' : List Nat} {w w' w'' : World} (h : Chg S w w') (h' : Chg S' w' w'') (hs : ∀ k ∈ S', k ∈ S ∨ w.heap.size ≤ k) : Chg S w w'' :=
 ⟨h'.os.trans h.os, h'.tape.trans h.tape, h'.output.trans h.output, Nat.le_trans h.size h'.size, fun k hk hn => by
  rw [h'.block k (Nat.lt_of_lt_of_le hk h.size) (fun hk' => by rcases hs k hk' with h1 | h1; exact hn h1; omega), h.block k hk hn], Nat.le_trans h.drawn h'.drawn⟩

/-- From w on only S's blocks were written, new ones were laid; now these blocks are ours (of S, or new), and hold this. -/
structure Step (S : List Nat) (L : List (Nat × Obj)) (w w' : World) : Prop where
 chg : Chg S w w'
 nodup : (L.map (·.1)).Nodup
 has : ∀ p ∈ L, w'.heap[p.1]? = some p.2
 new : ∀ p ∈ L, p.1 ∈ S ∨ w.heap.size ≤ p.1

theorem lt_of_get {w : World} {b : Nat} {o : Obj} (h : w.heap[b]? = some o) : b < w.heap.size := by
 rcases Nat.lt_or_ge b w.heap.size with h' | h'
 ·exact h'
 ·rw [Array.getElem?_eq_none h'] at h; cases h

theorem Step.refl (w : World) : Step [] [] w w := ⟨Chg.refl _ _, by simp, by simp, by simp⟩
section
variable {S : List Nat} {L L' L1 L2 : List (Nat × Obj)} {w w' w'' : World}

theorem Step.dropL (h : Step S (L1 ++ L2) w w') : Step S L2 w w' :=
 ⟨h.chg, by have := h.nodup; rw [List.map_append, List.nodup_append] at this; exact this.2.1, fun p hm => h.has p (by simp [hm]), fun p hm => h.new p (by simp [hm])⟩
theorem Step.dropR (h : Step S (L1 ++ L2) w w') : Step S L1 w w' :=
 ⟨h.chg, by have := h.nodup; rw [List.map_append, List.nodup_append] at this; exact this.1, fun p hm => h.has p (by simp [hm]), fun p hm => h.new p (by simp [hm])⟩
theorem Step.tail {p : Nat × Obj} (h : Step S (p :: L) w w') : Step S L w w' := Step.dropL (L1 := [p]) h
theorem Step.clear (h : Step S L w w') : Step S [] w w' := ⟨h.chg, by simp, by simp, by simp⟩
/-- A call that owned L1 and left L1'. -/
theorem Step.call (h : Step S (L1 ++ L) w w') (hc : Step (L1.map (·.1)) L' w' w'') : Step S (L' ++ L) w w'' := by
 have hn := h.nodup
 rw [List.map_append, List.nodup_append] at hn
 obtain ⟨hn1, hn2, hn3⟩ := hn
 refine ⟨h.chg.trans hc.chg ?_, ?_, ?_, ?_⟩
 ·intro k hk
  have hobt := List.mem_map.1 hk
  obtain ⟨p, hp, rfl⟩ := hobt
  exact h.new p (by simp [hp])
 ·rw [List.map_append, List.nodup_append]
  refine ⟨hc.nodup, hn2, fun a ha b hb hab => ?_⟩
  subst hab
  have hobt := List.mem_map.1 ha
  obtain ⟨p, hp, rfl⟩ := hobt
  have hobt := List.mem_map.1 hb
  obtain ⟨q, hq, hqp⟩ := hobt
  rcases hc.new p hp with h1 | h1
  ·exact hn3 _ h1 _ hb rfl
  ·have := lt_of_get (h.has q (by simp [hq]))
   omega
 ·intro p hp
  rcases List.mem_append.1 hp with hp | hp
  ·exact hc.has p hp
  ·rw [hc.chg.block p.1 (lt_of_get (h.has p (by simp [hp]))) (fun hk => hn3 _ hk _ (List.mem_map_of_mem hp) rfl)]
   exact h.has p (by simp [hp])
 ·intro p hp
  rcases List.mem_append.1 hp with hp | hp
  ·rcases hc.new p hp with h1 | h1
   ·have hobt := List.mem_map.1 h1
    obtain ⟨q, hq, hqp⟩ := hobt
    rw [← hqp]
    exact h.new q (by simp [hq])
   ·exact .inr (Nat.le_trans h.chg.size h1)
  ·exact h.new p (by simp [hp])
/-- A call that owned nothing of what was there. -/
theorem Step.call0 (h : Step S L w w') (hc : Step [] L' w' w'') : Step S (L' ++ L) w w'' := Step.call (L1 := []) h hc

theorem heap_alloc_new (w : World) (o : Obj) : (w.alloc o).heap[w.heap.size]? = some o := by
 show (w.heap.push o)[w.heap.size]? = some o
 simp
theorem heap_alloc_old (w : World) (o : Obj) {k : Nat} (h : k < w.heap.size) : (w.alloc o).heap[k]? = w.heap[k]? := by
 show (w.heap.push o)[k]? = _
 rw [Array.getElem?_push, if_neg (by omega)]

theorem Step.alloc (h : Step S L w w') (o : Obj) : Step S ((w'.heap.size, o) :: L) w (w'.alloc o) := by
 have hc : Step [] [(w'.heap.size, o)] w' (w'.alloc o) := by
  refine ⟨⟨rfl, rfl, rfl, by simp, fun k hk _ => heap_alloc_old _ _ hk, Nat.le_refl _⟩, by simp, ?_, ?_⟩
  ·intro p hp; simp at hp; subst hp; exact heap_alloc_new _ _
  ·intro p hp; simp at hp; subst hp; exact .inr (Nat.le_refl _)
 exact h.call0 hc

theorem Step.hd {b : Nat} {o : Obj} (h : Step S ((b, o) :: L) w w') : w'.heap[b]? = some o := h.has (b, o) (by simp)
end

theorem cell_blk {w : World} {b : Nat} {T : TypeId} {cs : List Value} (h : w.heap[b]? = some (blk T cs)) (o : Nat) : w.cell? ⟨b, o, none⟩ = cs[o]? := by
 simp [World.cell?, h, blk]
/-- Cells in a row, from this place on. -/
def At (w : World) (b off : Nat) (cs : List Value) : Prop := ∀ j v, cs[j]? = some v → w.cell? ⟨b, off + j, none⟩ = some v

theorem cell_of_heap {w w' : World} {b : Nat} (h : w'.heap[b]? = w.heap[b]?) (o : Nat) : w'.cell? ⟨b, o, none⟩ = w.cell? ⟨b, o, none⟩ := by simp [World.cell?, h]
/-- A slice value of n elements of sz cells each, which are these. -/
def Sl (w : World) (sz : Nat) (v : Value) (n : Nat) (cs : List Value) : Prop :=
 cs.length = n * sz ∧ ((∃ a c, v = .slice a n c ∧ n = 0) ∨ ∃ b off c, v = .slice (some ⟨b, off, none⟩) n c ∧ At w b off cs)

/-- The slice's block, if it has one, is none of these. -/
def Outside (v : Value) (S : List Nat) : Prop := match v with | .slice (some a) _ _ => a.block ∉ S | _ => True

/-- The slice has room for what it holds. -/
def Room (v : Value) : Prop := match v with | .slice _ n c => n ≤ c | _ => True

end Go.Gx.Gy
