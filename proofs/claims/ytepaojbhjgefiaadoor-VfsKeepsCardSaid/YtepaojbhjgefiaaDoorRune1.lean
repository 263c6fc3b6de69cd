/- Ranging over a string; what a decoded rune says of the bytes; scopes. No program in sight. -/
import Derived.Test.YtepaojbhjgefiaaDoorEff
import Derived.Scope
namespace Go.Gx
set_option linter.unusedVariables false
set_option linter.unusedSimpArgs false

/-- Byte k, 0 behind the end. -/
def bAt (l : List UInt8) (k : Nat) : Nat := (l.getD k 0).toNat
theorem get_bAt (l : List UInt8) (k : Nat) : ((ByteArray.mk ⟨l⟩).get! k).toNat = bAt l k := by
  unfold bAt
  show ((⟨l⟩ : Array UInt8)[k]!).toNat = _
  rw [Array.getElem!_eq_getD]
  simp [Array.getD_eq_getD_getElem?, List.getD_eq_getElem?_getD]
  rfl

theorem dec_ascii {l : List UInt8} {i : Nat} (h : bAt l i < 128) : Utf8.decode ⟨⟨l⟩⟩ i = (bAt l i, 1) := by
  unfold Utf8.decode
  simp only [get_bAt, Nat.add_zero]
  rw [if_pos h]
theorem dec_wide {l : List UInt8} {i : Nat} (hi : i < l.length) (h : 128 ≤ bAt l i) : 128 ≤ (Utf8.decode ⟨⟨l⟩⟩ i).1 ∧ (Utf8.decode ⟨⟨l⟩⟩ i).1 ≤ 1114111 ∧ 1 ≤ (Utf8.decode ⟨⟨l⟩⟩ i).2 ∧ i + (Utf8.decode ⟨⟨l⟩⟩ i).2 ≤ l.length ∧ ∀ k, k < (Utf8.decode ⟨⟨l⟩⟩ i).2 → 128 ≤ bAt l (i + k) := by
  have hsz : (ByteArray.mk ⟨l⟩).size = l.length := rfl
  have one : ∀ k, k < 1 → 128 ≤ bAt l (i + k) := fun k hk => by obtain rfl : k = 0 := (by omega); exact h
  have hb := (l.getD i 0).toNat_lt
  have hb1 := (l.getD (i + 1) 0).toNat_lt
  have hb2 := (l.getD (i + 2) 0).toNat_lt
  have hb3 := (l.getD (i + 3) 0).toNat_lt
  unfold Utf8.decode
  simp only [get_bAt, hsz, Nat.add_zero, Utf8.runeError, Utf8.valid]
  unfold bAt at *
  rw [if_neg (by omega)]
  split
  · rename_i h1
    simp only [Bool.and_eq_true, beq_iff_eq, decide_eq_true_eq] at h1
    split
    · refine ⟨by omega, by omega, by omega, by omega, fun k hk => ?_⟩
      rcases (by omega : k = 0 ∨ k = 1) with rfl | rfl
      · exact h
      · omega
    · exact ⟨by decide, by decide, by decide, by omega, one⟩
  split
  · rename_i h1
    simp only [Bool.and_eq_true, beq_iff_eq, decide_eq_true_eq] at h1
    split
    · rename_i h2
      simp only [Bool.and_eq_true, decide_eq_true_eq] at h2
      refine ⟨by omega, by omega, by omega, by omega, fun k hk => ?_⟩
      rcases (by omega : k = 0 ∨ k = 1 ∨ k = 2) with rfl | rfl | rfl
      · exact h
      · omega
      · omega
    · exact ⟨by decide, by decide, by decide, by omega, one⟩
  split
  · rename_i h1
    simp only [Bool.and_eq_true, beq_iff_eq, decide_eq_true_eq] at h1
    split
    · rename_i h2
      simp only [Bool.and_eq_true, Bool.or_eq_true, decide_eq_true_eq] at h2
      refine ⟨by omega, by omega, by omega, by omega, fun k hk => ?_⟩
      rcases (by omega : k = 0 ∨ k = 1 ∨ k = 2 ∨ k = 3) with rfl | rfl | rfl | rfl
      · exact h
      · omega
      · omega
      · omega
    · exact ⟨by decide, by decide, by decide, by omega, one⟩
  · exact ⟨by decide, by decide, by decide, by omega, one⟩

section
variable {P : Program} {ops : Array Oper} {Q : Post} {n : Nat} {rest : List Oper} {f : Slots} {ds : List Deferred} {w w0 : World} {ty : TypeId} {pos : String} {af : Array Edge} {S : List Nat} {L : List (Nat × Obj)} {x : Operand} {T : TypeId}

def putO (w : World) (b : Nat) (o : Obj) : World := { w with heap := w.heap.setIfInBounds b o }

theorem WL.rangeS {d : Nat} {s : List UInt8} (ht : P.underlying T = some .string) (hx : ev f x = str s) (hd : Nat.blt d n = true) (hs : Step S L w0 w)
    (h : ∀ b w', Step S ((b, .stringIter ⟨⟨s⟩⟩ 0) :: L) w0 w' → WL P ops Q n rest (upd f d (.pointer (some ⟨b, 0, none⟩))) ds w') : WL P ops Q n (⟨some d, .range T x, ty, pos, af, none⟩ :: rest) f ds w := by
  refine WL.val hd (v := .pointer (some ⟨w.heap.size, 0, none⟩)) (w' := w.alloc (.stringIter ⟨⟨s⟩⟩ 0)) ?_ (h _ _ (hs.alloc _))
  simp [execOp, hx, str, Instr.range, run_underlying ht]

theorem WL.nextEnd {d b p : Nat} {s : List UInt8} (hx : ev f x = .pointer (some ⟨b, 0, none⟩)) (hd : Nat.blt d n = true) (hs : Step S ((b, .stringIter ⟨⟨s⟩⟩ p) :: L) w0 w) (hp : s.length ≤ p)
    (h : WL P ops Q n rest (upd f d (.tuple #[.bool false])) ds w) : WL P ops Q n (⟨some d, .next x true, ty, pos, af, none⟩ :: rest) f ds w := by
  refine WL.val hd (v := .tuple #[.bool false]) (w' := w) ?_ h
  have hg : (getObj b).run P w = .ok (.stringIter ⟨⟨s⟩⟩ p) w := by simp [getObj, Sem.run, hs.hd]
  have hsz : ¬ p < (ByteArray.mk ⟨s⟩).size := by show ¬ p < s.length; omega
  simp [execOp, hx, Instr.next, hg, hsz]

theorem Step.setObj {b : Nat} {o : Obj} (h : Step S ((b, o) :: L) w0 w) (o' : Obj) : Step S ((b, o') :: L) w0 (putO w b o') := by
  have hb := h.hd
  have hc : Step ([(b, o)].map (·.1)) [(b, o')] w (putO w b o') := by
    have hlt := lt_of_get hb
    refine ⟨⟨rfl, rfl, rfl, by simp [putO], fun k hk hn => ?_, Nat.le_refl _⟩, by simp, ?_, by simp⟩
    · have : k ≠ b := by simpa using hn
      show (w.heap.setIfInBounds b o')[k]? = _
      rw [Array.getElem?_setIfInBounds_ne (by omega)]
    · intro p hp
      simp at hp
      subst hp
      show (w.heap.setIfInBounds b o')[b]? = _
      simp [hlt]
  exact Step.call (L1 := [(b, o)]) h hc

theorem WL.nextS {d b p : Nat} {s : List UInt8} {c wd : Nat} (hx : ev f x = .pointer (some ⟨b, 0, none⟩)) (hd : Nat.blt d n = true) (hs : Step S ((b, .stringIter ⟨⟨s⟩⟩ p) :: L) w0 w) (hp : p < s.length) (hdec : Utf8.decode ⟨⟨s⟩⟩ p = (c, wd))
    (h : ∀ w', Step S ((b, .stringIter ⟨⟨s⟩⟩ (p + wd)) :: L) w0 w' → WL P ops Q n rest (upd f d (.tuple #[.bool true, .int .i64 p, .int .i32 c])) ds w') : WL P ops Q n (⟨some d, .next x true, ty, pos, af, none⟩ :: rest) f ds w := by
  refine WL.val hd (v := .tuple #[.bool true, .int .i64 p, .int .i32 c]) (w' := putO w b (.stringIter ⟨⟨s⟩⟩ (p + wd))) ?_ (h _ (hs.setObj _))
  have hg : (getObj b).run P w = .ok (.stringIter ⟨⟨s⟩⟩ p) w := by simp [getObj, Sem.run, hs.hd]
  have hst : (setObj b (.stringIter ⟨⟨s⟩⟩ (p + wd))).run P w = .ok () (putO w b (.stringIter ⟨⟨s⟩⟩ (p + wd))) := by simp [setObj, Sem.run, hs.hd, putO]
  have hsz : p < (ByteArray.mk ⟨s⟩).size := hp
  simp [execOp, hx, Instr.next, hg, hsz, hdec, hst, goInt]

theorem CW.scope {c : Code} (h : CW P c (fun e f ds w => match e with | .goto _ => False | e => Q e f ds w) n f ds w) : CW P (.scope c) Q n f ds w :=
  ⟨fun a ha => wp_scope_straight (Code.wp_mono (fun e a w ⟨f, ds, hr, hq⟩ => by
    cases e with
    | goto l => exact hq.elim
    | normal => exact ⟨f, ds, hr, hq⟩
    | exit id => exact ⟨f, ds, hr, hq⟩
    | ret => exact ⟨f, ds, hr, hq⟩
    | panic ch => exact ⟨f, ds, hr, hq⟩
    | outgrown => exact ⟨f, ds, hr, hq⟩) (h.out a ha))⟩
end
end Go.Gx
