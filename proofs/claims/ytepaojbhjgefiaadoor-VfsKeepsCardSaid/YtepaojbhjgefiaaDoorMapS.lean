/- Maps with texts for keys; ranges over them. No function in sight. -/
import Derived.Test.YtepaojbhjgefiaaDoorRune1
import Derived.Maps.RangeRun
import Derived.MapKept
import Derived.ChangeMaps4
namespace Go.Gx
set_option linter.unusedVariables false
set_option linter.unusedSimpArgs false
set_option maxRecDepth 100000
abbrev SEnt := List UInt8 × Value × Nat
def entS (p : SEnt) : MapEntry := { key := str p.1, val := p.2.1, born := p.2.2 }
def entsS (M : List SEnt) : List MapEntry := M.map entS
def findS (d : List UInt8) : List SEnt → Nat → Option (Nat × Value)
  | [], _ => none
  | p :: M, i => if d = p.1 then some (i, p.2.1) else findS d M (i + 1)
def mapS (M : List SEnt) (clock : Nat) : Obj := .map (entsS M).toArray clock
theorem str_beq (a b : List UInt8) : ((⟨⟨a⟩⟩ : ByteArray) == ⟨⟨b⟩⟩) = decide (a = b) := by
  by_cases h : a = b
  · subst h
    rw [decide_eq_true rfl]
    exact (MapKept.bytes_beq _ _).2 rfl
  · rw [decide_eq_false h, Bool.eq_false_iff]
    intro e
    have e2 := (MapKept.bytes_beq _ _).1 e
    exact h (by injection e2 with e2; injection e2)
theorem run_findNowS {d : List UInt8} : ∀ (M : List SEnt) (i : Nat), Instr.findNow .string (str d) (entsS M) i = some (findS d M i)
  | [], i => rfl
  | p :: M, i => by
    have ih := run_findNowS (d := d) M (i + 1)
    have h1 : Instr.sameNow .string (str d) (str p.1) = some (decide (d = p.1)) := by
      show some (_ == _) = _
      rw [str_beq]
    unfold entsS at ih ⊢
    rw [List.map_cons, Instr.findNow]
    simp only [entS, h1, findS]
    by_cases h : d = p.1
    · simp [h]
    · simp only [h, decide_false, if_false]
      exact ih
section
variable {P : Program} {f : Slots} {w : World} {dd : Option Tmp} {ty : TypeId} {pos : String} {af : Array Edge} {x y : Operand} {T K E : TypeId} {M : List SEnt} {d : List UInt8} {r clock : Nat} {z : Value}
theorem run_findKeyS (hK : P.underlying K = some .string) : (Instr.findKey K (str d) (entsS M)).run P w = .ok (findS d M 0) w := by
  rw [Instr.findKey]
  simp only [Sem.run_bind, run_underlying hK, Result.andThen_ok, run_findNowS]
  rfl
theorem run_keyOkS (hK : P.underlying K = some .string) (em : Bool) : (Instr.checkKey em 10000 K (str d)).run P w = .ok () w := by
  unfold Instr.checkKey
  simp only [Sem.run_bind, run_underlying hK, Result.andThen_ok, str]
  rfl
theorem run_lookupS2 (ht : P.underlying T = some (.map K E)) (hK : P.underlying K = some .string) (hz : (zeroValue E).run P w = .ok z w) (hx : ev f x = .map (some r)) (hy : ev f y = str d) (hb : w.heap[r]? = some (mapS M clock)) :
    (execOp (ev f) ⟨dd, .lookup T x y true, ty, pos, af, none⟩).run P w = .ok (.value (.tuple #[((findS d M 0).map (·.2)).getD z, .bool (findS d M 0).isSome])) w := by
  have h1 := run_findKeyS (M := M) (d := d) (w := w) hK
  have h2 := run_keyOkS (d := d) (w := w) hK (entsS M).toArray.isEmpty
  have hg : (getObj r).run P w = .ok (.map (entsS M).toArray clock) w := by simp [getObj, Sem.run, hb, mapS]
  simp only [execOp, hx, hy, Instr.lookup, Sem.run_bind, run_underlying ht, Result.andThen_ok, hg, Sem.run_pure, h2, h1]
  cases hf : findS d M 0 with
  | none => simp [hz]
  | some p => simp
theorem run_lookupS1 (ht : P.underlying T = some (.map K E)) (hK : P.underlying K = some .string) (hz : (zeroValue E).run P w = .ok z w) (hx : ev f x = .map (some r)) (hy : ev f y = str d) (hb : w.heap[r]? = some (mapS M clock)) :
    (execOp (ev f) ⟨dd, .lookup T x y false, ty, pos, af, none⟩).run P w = .ok (.value (((findS d M 0).map (·.2)).getD z)) w := by
  have h1 := run_findKeyS (M := M) (d := d) (w := w) hK
  have h2 := run_keyOkS (d := d) (w := w) hK (entsS M).toArray.isEmpty
  have hg : (getObj r).run P w = .ok (.map (entsS M).toArray clock) w := by simp [getObj, Sem.run, hb, mapS]
  simp only [execOp, hx, hy, Instr.lookup, Sem.run_bind, run_underlying ht, Result.andThen_ok, hg, Sem.run_pure, h2, h1]
  cases hf : findS d M 0 with
  | none => simp [hz]
  | some p => simp
theorem run_lenS (ht : P.underlying T = some (.map K E)) (hx : ev f x = .map (some r)) (hb : w.heap[r]? = some (mapS M clock)) :
    (execOp (ev f) ⟨dd, .call { callee := .builtin .len, args := #[x], argTypes := #[T] }, ty, pos, af, none⟩).run P w = .ok (.value (.int .i64 (M.length : Nat))) w := by
  have hg := MapKept.run_getObj_map (P := P) hb
  simp [execOp, resolve, invoke, builtin, hx, Builtin.len_, run_underlying ht, hg, goInt, entsS]
end
def updS (d : List UInt8) (v : Value) : List SEnt → List SEnt
  | [] => []
  | p :: M => if d = p.1 then (p.1, v, p.2.2) :: M else p :: updS d v M
theorem findS_shift {d : List UInt8} : ∀ {M : List SEnt} {i : Nat}, findS d M (i + 1) = (findS d M i).map fun p => (p.1 + 1, p.2)
  | [], _ => rfl
  | p :: M, i => by
    unfold findS
    by_cases h : d = p.1
    · simp [h]
    · rw [if_neg h, if_neg h]; exact findS_shift
theorem entsS_modify {d : List UInt8} {v u : Value} : ∀ {M : List SEnt} {j : Nat}, findS d M 0 = some (j, u) → (entsS M).modify j (fun e => { e with key := str d, val := v }) = entsS (updS d v M) ∧ ((entsS M)[j]?).map (·.key) = some (str d)
  | [], j, h => by simp [findS] at h
  | p :: M, j, h => by
    unfold findS at h
    by_cases hp : d = p.1
    · rw [if_pos hp] at h
      injection h with h
      injection h with h1 h2
      subst h1
      simp [entsS, entS, updS, hp]
    · rw [if_neg hp, findS_shift] at h
      cases hf : findS d M 0 with
      | none => rw [hf] at h; cases h
      | some q =>
        obtain ⟨j', u'⟩ := q
        rw [hf] at h
        simp only [Option.map_some, Option.some.injEq, Prod.mk.injEq] at h
        obtain ⟨rfl, rfl⟩ := h
        have ih := entsS_modify (v := v) hf
        simp only [entsS, updS, hp, if_false, List.map_cons, List.modify_succ_cons, List.getElem?_cons_succ]
        exact ⟨congrArg (_ :: ·) ih.1, ih.2⟩
def putMS (d : List UInt8) (v : Value) (clock : Nat) (M : List SEnt) : List SEnt := if (findS d M 0).isSome then updS d v M else M ++ [(d, v, clock)]
def putCS (d : List UInt8) (clock : Nat) (M : List SEnt) : Nat := if (findS d M 0).isSome then clock else clock + 1
section
variable {P : Program} {ops : Array Oper} {n : Nat} {rest : List Oper} {f : Slots} {ds : List Deferred} {w w0 : World} {S : List Nat} {L : List (Nat × Obj)} {Q : Post} {ty : TypeId} {pos : String} {af : Array Edge} {x y k : Operand} {T K E : TypeId} {M : List SEnt} {d : List UInt8} {r clock : Nat} {v : Value}
theorem run_putS (ht : P.underlying T = some (.map K E)) (hK : P.underlying K = some .string) (hb : w.heap[r]? = some (mapS M clock)) :
    (Instr.mapUpdate T (.map (some r)) (str d) v).run P w = .ok () { w with heap := w.heap.setIfInBounds r (mapS (putMS d v clock M) (putCS d clock M)) } := by
  have h1 := run_findKeyS (M := M) (d := d) (w := w) hK
  have h2 := run_keyOkS (d := d) (w := w) hK false
  have hg := MapKept.run_getObj_map (P := P) hb
  simp only [Instr.mapUpdate, Sem.run_bind, run_underlying ht, Result.andThen_ok, hg, h2, h1]
  cases hf : findS d M 0 with
  | none =>
    simp only [MapKept.run_setObj_map _ hb]
    simp [putMS, putCS, hf, mapS, entsS, entS]
  | some p =>
    obtain ⟨j, u⟩ := p
    have hobt := entsS_modify (v := v) hf
    obtain ⟨hm, hk⟩ := hobt
    have hk' : ((entsS M).toArray[j]?.map (·.key)).getD (str d) = str d := by
      rw [List.getElem?_toArray, hk]; rfl
    have hsb : Instr.sameBits 10000 (str d) (str d) = true := by
      show ((⟨⟨d⟩⟩ : ByteArray) == ⟨⟨d⟩⟩) = true
      rw [str_beq]
      simp
    have hs : (Instr.keyThatStays (((entsS M).toArray[j]?.map (·.key)).getD (str d)) (str d)).run P w = .ok (str d) w := by
      rw [hk', Instr.keyThatStays, if_pos hsb]; rfl
    simp only [Sem.run_bind, hs, Result.andThen_ok, MapKept.run_setObj_map _ hb]
    have e : (entsS M).toArray.modify j (fun e => { e with key := str d, val := v }) = (entsS (updS d v M)).toArray := by
      rw [← hm]
      apply Array.ext'
      simp
    simp [putMS, putCS, hf, mapS, e]
theorem Step.setOS {b : Nat} {o : Obj} (h : Step S ((b, o) :: L) w0 w) (o' : Obj) : Step S ((b, o') :: L) w0 { w with heap := w.heap.setIfInBounds b o' } := by
  have hb := h.has (b, o) (by simp)
  have hlt := lt_of_get hb
  have hc : Step ([(b, o)].map (·.1)) [(b, o')] w { w with heap := w.heap.setIfInBounds b o' } := by
    refine ⟨⟨rfl, rfl, rfl, by simp, fun k hk hn => ?_, Nat.le_refl _⟩, by simp, ?_, by simp⟩
    · have hne : b ≠ k := fun e => hn (by simp [e])
      simp [Array.getElem?_setIfInBounds, hne]
    · intro p hp
      simp at hp
      subst hp
      simp [hlt]
  exact Step.call (L1 := [(b, o)]) h hc
theorem WL.mapPutS (ht : P.underlying T = some (.map K E)) (hK : P.underlying K = some .string) (hx : ev f x = .map (some r)) (hk : ev f k = str d) (hy : ev f y = v)
    (hs : Step S ((r, mapS M clock) :: L) w0 w) (h : ∀ w', Step S ((r, mapS (putMS d v clock M) (putCS d clock M)) :: L) w0 w' → WL P ops Q n rest f ds w') :
    WL P ops Q n (⟨none, .mapUpdate T x k y, ty, pos, af, none⟩ :: rest) f ds w := by
  refine WL.skip ?_ (h _ (hs.setOS _))
  have h1 := run_putS (v := v) (d := d) ht hK hs.hd
  simp only [execOp, hx, hk, hy, Sem.run_bind, h1, Result.andThen_ok]
  rfl
theorem WL.mapInsS (ht : P.underlying T = some (.map K E)) (hK : P.underlying K = some .string) (hx : ev f x = .map (some r)) (hk : ev f k = str d) (hy : ev f y = v)
    (hs : Step S ((r, mapS M clock) :: L) w0 w) (h : ∀ w', Step S ((r, mapS (putMS d v clock M) (putCS d clock M)) :: L) w0 w' → WL P ops Q n rest f ds w') :
    WL P ops Q n (⟨none, .insert T x k y, ty, pos, af, none⟩ :: rest) f ds w := by
  refine WL.skip ?_ (h _ (hs.setOS _))
  have h1 := run_putS (v := v) (d := d) ht hK hs.hd
  simp only [execOp, hx, hk, hy, Sem.run_bind, h1, Result.andThen_ok]
  rfl
theorem WL.makeMapS {d : Nat} (hd : Nat.blt d n = true) (hs : Step S L w0 w) (h : ∀ b w', Step S ((b, mapS [] 0) :: L) w0 w' → WL P ops Q n rest (upd f d (.map (some b))) ds w') :
    WL P ops Q n (⟨some d, .makeMap T none, ty, pos, af, none⟩ :: rest) f ds w := by
  refine WL.val hd (v := .map (some w.heap.size)) (w' := w.alloc (mapS [] 0)) ?_ (h _ _ (hs.alloc _))
  simp [execOp, Instr.makeMap, newObj]
  rfl
end
structure BornS (M : List SEnt) (clock : Nat) : Prop where
  lt : ∀ p ∈ M, p.2.2 < clock
  nodup : (M.map (·.2.2)).Nodup
def iterS (m since : Nat) (done : List SEnt) : Obj := .mapIter (some m) since (List.map (fun (p : SEnt) => p.2.2) done).toArray since
section
variable {P : Program} {w : World} {r m clock : Nat} {M done left : List SEnt}
theorem leftOf_memS {M : List SEnt} {seen : Array Nat} {e : MapEntry} : e ∈ (leftOf (entsS M).toArray seen).toList ↔ ∃ p ∈ M, e = entS p ∧ p.2.2 ∉ seen := by
  simp only [leftOf, entsS, Array.toList_filter, List.mem_filter, List.mem_map]
  constructor
  · rintro ⟨⟨p, hp, rfl⟩, h⟩
    exact ⟨p, hp, rfl, by simpa [entS] using h⟩
  · rintro ⟨p, hp, rfl, h⟩
    exact ⟨⟨p, hp, rfl⟩, by simpa [entS] using h⟩
theorem born_partedS (hB : BornS M clock) (hp : (done ++ left).Perm M) {p : SEnt} (hm : p ∈ M) : p.2.2 ∉ (List.map (fun (p : SEnt) => p.2.2) done).toArray ↔ p ∈ left := by
  have hn : ((done ++ left).map (·.2.2)).Nodup := (hp.map _).nodup_iff.2 hB.nodup
  rw [List.map_append, List.nodup_append] at hn
  have hin := hp.mem_iff.2 hm
  rw [List.mem_append] at hin
  constructor
  · intro h
    rcases hin with h1 | h1
    · exact absurd (by simpa using ⟨p.1, p.2.1, h1⟩) h
    · exact h1
  · intro h hd
    have hd' : p.2.2 ∈ done.map (·.2.2) := by simpa using hd
    exact hn.2.2 _ hd' _ (List.mem_map_of_mem h) rfl
theorem run_nextS (ty : TypeId) (hB : BornS M clock) (hr : w.heap[r]? = some (iterS m clock done)) (hm : w.heap[m]? = some (mapS M clock)) (hp : (done ++ left).Perm M) :
    (left = [] ∧ (Instr.next (.pointer (some ⟨r, 0, none⟩)) false ty).run P w = .ok (.tuple #[.bool false]) w) ∨
    ∃ p left' w1, left.Perm (p :: left') ∧ (w1 = w ∨ w1 = w.drew) ∧ (Instr.next (.pointer (some ⟨r, 0, none⟩)) false ty).run P w = .ok (.tuple #[.bool true, str p.1, p.2.1]) { w1 with heap := w1.heap.setIfInBounds r (iterS m clock (done ++ [p])) } := by
  have hold : ∀ x ∈ (entsS M).toArray.toList, x.born < clock := by
    intro x hx
    simp only [entsS, List.mem_map] at hx
    obtain ⟨p, hp, rfl⟩ := hx
    exact hB.lt p hp
  rcases run_next_at (P := P) w ty r m clock clock (List.map (fun (p : SEnt) => p.2.2) done).toArray (entsS M).toArray clock hr hm hold (Nat.le_refl _) with ⟨h0, h⟩ | ⟨e, he, w1, hw, h⟩
  · refine .inl ⟨?_, h⟩
    cases hl : left with
    | nil => rfl
    | cons q l =>
      have hq : q ∈ M := hp.mem_iff.1 (by rw [hl]; simp)
      have h1 := (born_partedS hB hp hq).2 (by rw [hl]; simp)
      have h2 : entS q ∈ (leftOf (entsS M).toArray (List.map (fun (p : SEnt) => p.2.2) done).toArray).toList := leftOf_memS.2 ⟨q, hq, rfl, h1⟩
      have h3 : (leftOf (entsS M).toArray (List.map (fun (p : SEnt) => p.2.2) done).toArray).toList = [] := by
        apply List.eq_nil_of_length_eq_zero; simpa using h0
      rw [h3] at h2
      cases h2
  · have hobt := leftOf_memS.1 he
    obtain ⟨p, hpm, rfl, hns⟩ := hobt
    have hl := (born_partedS hB hp hpm).1 hns
    have hobt := List.append_of_mem hl
    obtain ⟨a, b, rfl⟩ := hobt
    refine .inr ⟨p, a ++ b, w1, List.perm_middle, hw, ?_⟩
    rw [h]
    simp [ChangeMaps.setBlock, iterS, entS]
theorem run_entryAtS (hB : BornS M clock) {p : SEnt} (hr : w.heap[r]? = some (iterS m clock (done ++ [p]))) (hm : w.heap[m]? = some (mapS M clock)) (hp : p ∈ M) :
    (Instr.entry (.pointer (some ⟨r, 0, none⟩))).run P w = .ok (.tuple #[str p.1, p.2.1]) w := by
  have h := run_entry_at (P := P) w r m clock (List.map (fun (p : SEnt) => p.2.2) done).toArray (entsS M).toArray clock (entS p) (by rw [hr]; simp [iterS, entS]) hm (by simp only [entsS]; exact List.mem_map_of_mem hp) (by simpa [entsS, entS, Function.comp_def] using hB.nodup)
  exact h
end
section
variable {P : Program} {ops : Array Oper} {n d : Nat} {rest : List Oper} {f : Slots} {ds : List Deferred} {w w0 : World} {S : List Nat} {L : List (Nat × Obj)} {Q : Post} {ty : TypeId} {pos : String} {af : Array Edge} {x : Operand} {T K E : TypeId} {m clock it : Nat} {M done left : List SEnt} {dd : Option Tmp}
theorem WL.rangeS2 (ht : P.underlying T = some (.map K E)) (hx : ev f x = .map (some m)) (hm : w.heap[m]? = some (mapS M clock)) (hd : Nat.blt d n = true) (hs : Step S L w0 w)
    (h : ∀ b w', Step S ((b, iterS m clock []) :: L) w0 w' → WL P ops Q n rest (upd f d (.pointer (some ⟨b, 0, none⟩))) ds w') : WL P ops Q n (⟨some d, .range T x, ty, pos, af, none⟩ :: rest) f ds w := by
  refine WL.val hd (v := .pointer (some ⟨w.heap.size, 0, none⟩)) (w' := w.alloc (iterS m clock [])) ?_ (h _ _ (hs.alloc _))
  have hg := MapKept.run_getObj_map (P := P) hm
  simp [execOp, hx, Instr.range, run_underlying ht, hg, iterS]
theorem WL.nextS2 (hx : ev f x = .pointer (some ⟨it, 0, none⟩)) (hd : Nat.blt d n = true) (hs : Step S ((it, iterS m clock done) :: L) w0 w) (hm : w.heap[m]? = some (mapS M clock)) (hB : BornS M clock) (hp : (done ++ left).Perm M) (hne : left ≠ [])
    (h : ∀ p left' w', left.Perm (p :: left') → ((done ++ [p]) ++ left').Perm M → Step S ((it, iterS m clock (done ++ [p])) :: L) w0 w' → WL P ops Q n rest (upd f d (.tuple #[.bool true, str p.1, p.2.1])) ds w') :
    WL P ops Q n (⟨some d, .next x false, ty, pos, af, none⟩ :: rest) f ds w := by
  rcases run_nextS (P := P) ty hB hs.hd hm hp with ⟨h0, _⟩ | ⟨p, left', w1, hl, hw, hrun⟩
  · exact absurd h0 hne
  · have hs1 : Step S ((it, iterS m clock done) :: L) w0 w1 := by rcases hw with rfl | rfl; exact hs; exact hs.drew
    have hp' : ((done ++ [p]) ++ left').Perm M := by
      rw [List.append_assoc]
      exact (hl.symm.append_left done).trans hp
    refine WL.val hd ?_ (h p left' _ hl hp' (hs1.setOS _))
    simp only [execOp, hx, Sem.run_bind, hrun, Result.andThen_ok]
    rfl
theorem run_nextSEnd (hx : ev f x = .pointer (some ⟨it, 0, none⟩)) (hr : w.heap[it]? = some (iterS m clock done)) (hm : w.heap[m]? = some (mapS M clock)) (hB : BornS M clock) (hp : (done ++ []).Perm M) :
    (execOp (ev f) ⟨dd, .next x false, ty, pos, af, none⟩).run P w = .ok (.value (.tuple #[.bool false])) w := by
  rcases run_nextS (P := P) ty hB hr hm hp with ⟨h0, h⟩ | ⟨p, left', w1, hl, hw, hrun⟩
  · simp only [execOp, hx, Sem.run_bind, h, Result.andThen_ok]
    rfl
  · simp at hl
theorem run_entryS (hx : ev f x = .pointer (some ⟨it, 0, none⟩)) {p : SEnt} (hr : w.heap[it]? = some (iterS m clock (done ++ [p]))) (hm : w.heap[m]? = some (mapS M clock)) (hB : BornS M clock) (hp : p ∈ M) :
    (execOp (ev f) ⟨dd, .entry x, ty, pos, af, none⟩).run P w = .ok (.value (.tuple #[str p.1, p.2.1])) w := by
  have h := run_entryAtS (P := P) hB hr hm hp
  simp only [execOp, hx, Sem.run_bind, h, Result.andThen_ok]
  rfl
end
end Go.Gx
