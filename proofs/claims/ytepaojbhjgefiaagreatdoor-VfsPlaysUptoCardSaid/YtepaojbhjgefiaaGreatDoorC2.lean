/- Plain words for chapter 5: names, entries; their cells. No program in sight. Ranging over a string; what a decoded rune says of the bytes; scopes. No program in sight. Words and laws of no program, for any seat: what a call leaves, slices, bytes, order of texts. Regions that draw their order and hold operations with effects: quiet ones may be taken first, then each that is ready. No program in sight. Panics, deferred calls, recover: over slots. No program in sight. Regions that draw their order: quiet operations (also quiet calls) ahead of a tail in one forced order. No program in sight. The road is the kit's StillTail, at a class of worlds. Maps with texts for keys; ranges over them. No function in sight. -/
import Derived.Test.YtepaojbhjgefiaaGreatDoorC1
import Derived.Scope
import Derived.Orders
import Derived.Recover
import Derived.StillTail
import Derived.Maps.RangeRun
import Derived.MapKept
import Derived.ChangeMaps4
set_option linter.unusedVariables false
set_option linter.unusedSimpArgs false
/-! NSpec -/
namespace Go.Gx

def badCh (c : UInt8) : Bool := decide (c = 0 ∨ c = 47)
def isName (s : List UInt8) : Bool := decide (1 ≤ s.length ∧ s.length ≤ 64 ∧ s ≠ [46] ∧ s ≠ [46, 46]) && !s.any badCh

structure Ent where
 name : List UInt8
 kind : Int
 dig : List UInt8
 deriving DecidableEq

def Ent.cells (x : Ent) : List Value := str x.name :: .int .i64 x.kind :: u8s x.dig
def Ent.ok (x : Ent) : Prop := x.dig.length = 32 ∧ -9223372036854775808 ≤ x.kind ∧ x.kind ≤ 9223372036854775807 ∧ x.name.length ≤ 9223372036854775807
def rows (l : List Ent) : List Value := l.flatMap Ent.cells
def Oks (l : List Ent) : Prop := ∀ x ∈ l, x.ok

/-- A slice of entries. -/
def Es (w : World) (v : Value) (l : List Ent) : Prop := Sl w 34 v l.length (rows l) ∧ Oks l ∧ l.length ≤ 9223372036854775807
/-- What a call of no effect hands back. -/
def Ret0 (v : Value) (w : World) : Ending → World → Prop := fun e w' => e = .returned v ∧ Step [] [] w w'
theorem Step.callE {S : List Nat} {L : List (Nat × Obj)} {w w' w'' : World} (h : Step S L w w') (hc : Step [] [] w' w'') : Step S L w w'' := h.call0 hc

theorem bytesLess_irrefl : ∀ s : List UInt8, Op.bytesLess s s = false
 | [] => rfl
 | a :: s => by simp [Op.bytesLess, bytesLess_irrefl s, UInt8.lt_irrefl]
theorem bytesLess_gt : ∀ a b : List UInt8, (!(Op.bytesLess a b || a == b)) = Op.bytesLess b a
 | [], [] => rfl
 | [], b :: y => by simp [Op.bytesLess]
 | a :: x, [] => by simp [Op.bytesLess]
 | a :: x, b :: y => by
  have ih := bytesLess_gt x y
  by_cases h : a = b
  ·subst h
   simp only [Op.bytesLess, UInt8.lt_irrefl, decide_false, Bool.false_or, beq_self_eq_true, Bool.true_and, ← ih]
   simp
  ·have h' : ¬ b = a := fun e => h e.symm
   by_cases hlt : a < b
   ·have : ¬ b < a := UInt8.lt_asymm hlt
    simp [Op.bytesLess, h, h', hlt, this]
   ·have : b < a := by rcases UInt8.lt_or_lt_of_ne h with h1 | h1; exact absurd h1 hlt; exact h1
    simp [Op.bytesLess, h, h', hlt, this]

/-- What is wrong with an entry behind this name. -/
def wrongE (k : Int) (n a : List UInt8) : Int := if (k = 2 ∨ k = 1) ∧ isName n = true ∧ Op.bytesLess a n = true then 0 else 51
/-- The first error of a row of entries. -/
def errE : List UInt8 → List Ent → Int
 | _, [] => 0
 | a, x :: l => if wrongE x.kind x.name a = 0 then errE x.name l else wrongE x.kind x.name a
def checkE (l : List Ent) : Int := if l.length > 1024 then 2 else errE [] l
end Go.Gx
/-! Rune1 -/
namespace Go.Gx

/-- Byte k, 0 behind the end. -/
def bAt (l : List UInt8) (k : Nat) : Nat := (l.getD k 0).toNat
theorem get_bAt (l : List UInt8) (k : Nat) : ((ByteArray.mk ⟨l⟩).get! k).toNat = bAt l k := by
 unfold bAt
 show ((⟨l⟩ : Array UInt8)[k]!).toNat = _
 rw [Array.getElem!_eq_getD]
 simp [Array.getD_eq_getD_getElem?, List.getD_eq_getElem?_getD]
 rfl

theorem dec_ascii {l : List UInt8} {i : Nat} (h : bAt l i < 128) : Utf8.decode ⟨⟨l⟩⟩ i = (bAt l i, 1) := by
 unfold Utf8.decode
 simp only [get_bAt, Nat.add_zero]
 rw [if_pos h]
theorem dec_wide {l : List UInt8} {i : Nat} (hi : i < l.length) (h : 128 ≤ bAt l i) : 128 ≤ (Utf8.decode ⟨⟨l⟩⟩ i).1 ∧ (Utf8.decode ⟨⟨l⟩⟩ i).1 ≤ 1114111 ∧ 1 ≤ (Utf8.decode ⟨⟨l⟩⟩ i).2 ∧ i + (Utf8.decode ⟨⟨l⟩⟩ i).2 ≤ l.length ∧ ∀ k, k < (Utf8.decode ⟨⟨l⟩⟩ i).2 → 128 ≤ bAt l (i + k) := by
 have hsz : (ByteArray.mk ⟨l⟩).size = l.length := rfl
 have one : ∀ k, k < 1 → 128 ≤ bAt l (i + k) := fun k hk => by obtain rfl : k = 0 := (by omega); exact h
 have hb := (l.getD i 0).toNat_lt
 have hb1 := (l.getD (i + 1) 0).toNat_lt
 have hb2 := (l.getD (i + 2) 0).toNat_lt
 have hb3 := (l.getD (i + 3) 0).toNat_lt
 unfold Utf8.decode
 simp only [get_bAt, hsz, Nat.add_zero, Utf8.runeError, Utf8.valid]
 unfold bAt at *
 rw [if_neg (by omega)]
 split
 ·rename_i h1
  simp only [Bool.and_eq_true, beq_iff_eq, decide_eq_true_eq] at h1
  split
  ·refine ⟨by omega, by omega, by omega, by omega, fun k hk => ?_⟩
   rcases (by omega : k = 0 ∨ k = 1) with rfl | rfl
   ·exact h
   ·omega
  ·exact ⟨by decide, by decide, by decide, by omega, one⟩
 split
 ·rename_i h1
  simp only [Bool.and_eq_true, beq_iff_eq, decide_eq_true_eq] at h1
  split
  ·rename_i h2
   simp only [Bool.and_eq_true, decide_eq_true_eq] at h2
   refine ⟨by omega, by omega, by omega, by omega, fun k hk => ?_⟩
   rcases (by omega : k = 0 ∨ k = 1 ∨ k = 2) with rfl | rfl | rfl
   ·exact h
   ·omega
   ·omega
  ·exact ⟨by decide, by decide, by decide, by omega, one⟩
 split
 ·rename_i h1
  simp only [Bool.and_eq_true, beq_iff_eq, decide_eq_true_eq] at h1
  split
  ·rename_i h2
   simp only [Bool.and_eq_true, Bool.or_eq_true, decide_eq_true_eq] at h2
   refine ⟨by omega, by omega, by omega, by omega, fun k hk => ?_⟩
   rcases (by omega : k = 0 ∨ k = 1 ∨ k = 2 ∨ k = 3) with rfl | rfl | rfl | rfl
   ·exact h
   ·omega
   ·omega
   ·omega
  ·exact ⟨by decide, by decide, by decide, by omega, one⟩
 ·exact ⟨by decide, by decide, by decide, by omega, one⟩

section
variable {P : Program} {ops : Array Oper} {Q : Post} {n : Nat} {rest : List Oper} {f : Slots} {ds : List Deferred} {w w0 : World} {ty : TypeId} {pos : String} {af : Array Edge} {S : List Nat} {L : List (Nat × Obj)} {x : Operand} {T : TypeId}

def putO (w : World) (b : Nat) (o : Obj) : World := { w with heap := w.heap.setIfInBounds b o }

theorem WL.rangeS {d : Nat} {s : List UInt8} (ht : P.underlying T = some .string) (hx : ev f x = str s) (hd : Nat.blt d n = true) (hs : Step S L w0 w)
  (h : ∀ b w', Step S ((b, .stringIter ⟨⟨s⟩⟩ 0) :: L) w0 w' → WL P ops Q n rest (upd f d (.pointer (some ⟨b, 0, none⟩))) ds w') : WL P ops Q n (⟨some d, .range T x, ty, pos, af, none⟩ :: rest) f ds w := by
 refine wV hd (v := .pointer (some ⟨w.heap.size, 0, none⟩)) (w' := w.alloc (.stringIter ⟨⟨s⟩⟩ 0)) ?_ (h _ _ (hs.alloc _))
 simp [execOp, hx, str, Instr.range, run_underlying ht]

theorem WL.nextEnd {d b p : Nat} {s : List UInt8} (hx : ev f x = .pointer (some ⟨b, 0, none⟩)) (hd : Nat.blt d n = true) (hs : Step S ((b, .stringIter ⟨⟨s⟩⟩ p) :: L) w0 w) (hp : s.length ≤ p)
  (h : WL P ops Q n rest (upd f d (.tuple #[.bool false])) ds w) : WL P ops Q n (⟨some d, .next x true, ty, pos, af, none⟩ :: rest) f ds w := by
 refine wV hd (v := .tuple #[.bool false]) (w' := w) ?_ h
 have hg : (getObj b).run P w = .ok (.stringIter ⟨⟨s⟩⟩ p) w := by simp [getObj, Sem.run, hs.hd]
 have hsz : ¬ p < (ByteArray.mk ⟨s⟩).size := by show ¬ p < s.length; omega
 simp [execOp, hx, Instr.next, hg, hsz]

theorem Step.setObj {b : Nat} {o : Obj} (h : Step S ((b, o) :: L) w0 w) (o' : Obj) : Step S ((b, o') :: L) w0 (putO w b o') := by
 have hb := h.hd
 have hc : Step ([(b, o)].map (·.1)) [(b, o')] w (putO w b o') := by
  have hlt := lt_of_get hb
  refine ⟨⟨rfl, rfl, rfl, by simp [putO], fun k hk hn => ?_, Nat.le_refl _⟩, by simp, ?_, by simp⟩
  ·have : k ≠ b := by simpa using hn
   show (w.heap.setIfInBounds b o')[k]? = _
   rw [Array.getElem?_setIfInBounds_ne (by omega)]
  ·intro p hp
   simp at hp
   subst hp
   show (w.heap.setIfInBounds b o')[b]? = _
   simp [hlt]
 exact Step.call (L1 := [(b, o)]) h hc

theorem WL.nextS {d b p : Nat} {s : List UInt8} {c wd : Nat} (hx : ev f x = .pointer (some ⟨b, 0, none⟩)) (hd : Nat.blt d n = true) (hs : Step S ((b, .stringIter ⟨⟨s⟩⟩ p) :: L) w0 w) (hp : p < s.length) (hdec : Utf8.decode ⟨⟨s⟩⟩ p = (c, wd))
  (h : ∀ w', Step S ((b, .stringIter ⟨⟨s⟩⟩ (p + wd)) :: L) w0 w' → WL P ops Q n rest (upd f d (.tuple #[.bool true, .int .i64 p, .int .i32 c])) ds w') : WL P ops Q n (⟨some d, .next x true, ty, pos, af, none⟩ :: rest) f ds w := by
 refine wV hd (v := .tuple #[.bool true, .int .i64 p, .int .i32 c]) (w' := putO w b (.stringIter ⟨⟨s⟩⟩ (p + wd))) ?_ (h _ (hs.setObj _))
 have hg : (getObj b).run P w = .ok (.stringIter ⟨⟨s⟩⟩ p) w := by simp [getObj, Sem.run, hs.hd]
 have hst : (setObj b (.stringIter ⟨⟨s⟩⟩ (p + wd))).run P w = .ok () (putO w b (.stringIter ⟨⟨s⟩⟩ (p + wd))) := by simp [setObj, Sem.run, hs.hd, putO]
 have hsz : p < (ByteArray.mk ⟨s⟩).size := hp
 simp [execOp, hx, Instr.next, hg, hsz, hdec, hst, goInt]

theorem CW.scope {c : Code} (h : CW P c (fun e f ds w => match e with | .goto _ => False | e => Q e f ds w) n f ds w) : CW P (.scope c) Q n f ds w :=
 ⟨fun a ha => wp_scope_straight (Code.wp_mono (fun e a w ⟨f, ds, hr, hq⟩ => by
  cases e with
  | goto l => exact hq.elim
  | normal => exact ⟨f, ds, hr, hq⟩
  | exit id => exact ⟨f, ds, hr, hq⟩
  | ret => exact ⟨f, ds, hr, hq⟩
  | panic ch => exact ⟨f, ds, hr, hq⟩
  | outgrown => exact ⟨f, ds, hr, hq⟩) (h.out a ha))⟩
end
end Go.Gx
/-! Base -/
namespace Go.Gx

theorem Step.own {S : List Nat} {L1 L : List (Nat × Obj)} {w0 w : World} (h : Step S (L1 ++ L) w0 w) : Step (L1.map (·.1)) L1 w w :=
 Step.start h.dropR.nodup h.dropR.has
theorem Step.own0 {S : List Nat} {L1 : List (Nat × Obj)} {w0 w : World} (h : Step S L1 w0 w) : Step (L1.map (·.1)) L1 w w := Step.start h.nodup h.has
theorem OwnSl.one {E sz k : Nat} {v : Value} {xs : List Value} {Lv : List (Nat × Obj)} (h : OwnSl E sz v k xs Lv) : v.oneCell' = true := by
 have hobt := h.form
 obtain ⟨a, c, rfl⟩ := hobt
 rfl
theorem u8s_len (a : List UInt8) : (u8s a).length = a.length := by simp [u8s]
theorem Sl.own1 {S : List Nat} {L : List (Nat × Obj)} {w0 w : World} {b T n c : Nat} {cs : List Value} (hs : Step S ((b, blk T cs) :: L) w0 w) {sz : Nat} (hl : cs.length = n * sz) : Sl w sz (.slice (some ⟨b, 0, none⟩) n c) n cs :=
 .mk hl (At.of_blk hs.hd)
section
variable {P : Program} {f : Slots} {w : World} {d : Option Tmp} {ty : TypeId} {pos : String} {af : Array Edge} {x y : Operand} {T T' : TypeId} {k k' : IntKind}
end
theorem Step.cast {S : List Nat} {b : Nat} {T : TypeId} {cs cs' : List Value} {L : List (Nat × Obj)} {w0 w : World} (h : Step S ((b, blk T cs) :: L) w0 w) (e : cs = cs') : Step S ((b, blk T cs') :: L) w0 w := e ▸ h
theorem fold_splice (off : Nat) : ∀ (vs : List Value) (k : Nat) (cs : List Value), off + k + vs.length ≤ cs.length → (vs.zipIdx k).foldl (fun (a : Array Value) (x : Value × Nat) => a.setIfInBounds (off + x.2) x.1) cs.toArray = (splice cs (off + k) vs).toArray
 | [], k, cs, _ => by rw [splice_nil]; rfl
 | v :: vs, k, cs, h => by
  simp only [List.length_cons] at h
  rw [List.zipIdx_cons, List.foldl_cons, List.setIfInBounds_toArray, fold_splice off vs (k + 1) _ (by rw [List.length_set]; omega), ← Nat.add_assoc, splice_cons v vs (by omega)]
theorem filled1 {sz : Nat} {zs cs : List Value} (h : cs.length = sz) (hz : zs.length = sz) : Filled sz 1 zs [(0, .agg cs.toArray)] cs := by
 have e : ((Value.agg cs.toArray).cells.zipIdx.foldl (fun (a : Array Value) (x : Value × Nat) => a.setIfInBounds (0 * sz + x.2) x.1) (List.replicate 1 zs).flatten.toArray) = cs.toArray := by
  have h1 := fold_splice 0 cs 0 zs (by omega)
  have h2 : splice zs 0 cs = cs := by simp [splice, List.drop_of_length_le (show zs.length ≤ cs.length by omega)]
  simp only [Value.cells, Nat.zero_mul, List.replicate_one, List.flatten_cons, List.flatten_nil, List.append_nil, ← Array.foldl_toList, Array.toList_zipIdx]
  rw [h1, h2]
 unfold Filled
 simp only [Instr.fill]
 rw [if_neg (by simp [Value.cells, h, hz]), e]
theorem run_sliceSlE {P : Program} {f : Slots} {w : World} {d : Option Tmp} {ty : TypeId} {pos : String} {af : Array Edge} {x : Operand} {T E : TypeId} {len cap : Nat} {agg : Bool} {n bytes : Nat} {zs : List Value} {bk off lo hi m : Nat} {xl xh xm : Option Operand} {v : Value} (ht : P.underlying T = some (.slice E)) (hE : Ty P E agg n bytes zs) (hx : ev f x = .slice (some ⟨bk, off, none⟩) len cap)
  (hl : LoOk (xl.map (ev f)) lo) (hh : HiOk (xh.map (ev f)) hi len) (hm : HiOk (xm.map (ev f)) m cap) (hs : xm.isSome = true → xh.isSome = true)
  (h1 : lo ≤ hi) (h2 : hi ≤ m) (h3 : m ≤ cap) (hv : cutSl n bk off lo hi m = v) :
  (execOp (ev f) ⟨d, .slice T x xl xh xm, ty, pos, af, none⟩).run P w = .ok (.value v) w := by
 rw [← hv]
 exact run_sliceSl ht hE hx hl hh hm hs h1 h2 h3
theorem Sl.form {w : World} {sz n : Nat} {v : Value} {cs : List Value} (h : Sl w sz v n cs) : ∃ a c, v = .slice a n c := by
 obtain ⟨_, ⟨_, c, rfl, h0⟩ | ⟨b, off, c, rfl, _⟩⟩ := h
 ·exact ⟨_, _, by rw [h0]⟩
 ·exact ⟨_, _, rfl⟩
def rnd (a : Int) (n : Nat) : Nat := (a % (n : Int)).toNat
theorem Sl.cut {w : World} {sz b off n lo hi m : Nat} {cs : List Value} (hat : At w b off cs) (hl : cs.length = n * sz) (h1 : lo ≤ hi) (h2 : hi ≤ n) (h3 : hi ≤ m) : Sl w sz (cutSl sz b off lo hi m) (hi - lo) ((cs.take (hi * sz)).drop (lo * sz)) := by
 have hle : hi * sz ≤ n * sz := Nat.mul_le_mul_right _ h2
 have hll : lo * sz ≤ hi * sz := Nat.mul_le_mul_right _ h1
 unfold cutSl
 refine .mk ?_ ?_
 ·rw [List.length_drop, List.length_take, hl, Nat.min_eq_left hle, Nat.sub_mul]
 ·split
  ·have : hi = lo := by omega
   subst this
   rw [List.drop_take]
   simp
   exact At.nil
  ·exact (hat.take (hi * sz)).drop (lo * sz)
theorem bytesLess_trans : ∀ {a b c : List UInt8}, Op.bytesLess a b = true → Op.bytesLess b c = true → Op.bytesLess a c = true
 | [], b :: y, c :: z, _, _ => rfl
 | a :: x, b :: y, c :: z, h1, h2 => by
  simp only [Op.bytesLess, Bool.or_eq_true, decide_eq_true_eq, Bool.and_eq_true, beq_iff_eq] at h1 h2 ⊢
  rcases h1 with h1 | ⟨rfl, h1⟩
  ·rcases h2 with h2 | ⟨rfl, h2⟩
   ·exact .inl (UInt8.lt_trans h1 h2)
   ·exact .inl h1
  ·rcases h2 with h2 | ⟨rfl, h2⟩
   ·exact .inl h2
   ·exact .inr ⟨rfl, bytesLess_trans h1 h2⟩
 | [], [], _, h, _ => by cases h
 | [], _ :: _, [], _, h => by cases h
 | _ :: _, [], _, h, _ => by cases h
 | _ :: _, _ :: _, [], _, h => by cases h
theorem splice_mid {A M R vs : List Value} {off : Nat} (ho : off = A.length) (h : vs.length = M.length) : splice (A ++ M ++ R) off vs = A ++ vs ++ R := by
 subst ho
 simp [splice, List.append_assoc, h]
theorem OwnSl.some1 {E sz k : Nat} {v : Value} {xs : List Value} {Lv : List (Nat × Obj)} (h : OwnSl E sz v k xs Lv) (hk : 0 < k) : ∃ b cap more, v = .slice (some ⟨b, 0, none⟩) k cap ∧ Lv = [(b, blk E (xs ++ more))] ∧ (xs ++ more).length = cap * sz := by
 obtain ⟨hl, ⟨h1, h0, _⟩ | h⟩ := h
 ·omega
 ·exact h
theorem bytesLess_tri {a b : List UInt8} (h : Op.bytesLess a b = false) (hne : a ≠ b) : Op.bytesLess b a = true := by
 rw [← bytesLess_gt a b, h]
 simpa using hne
def strs (l : List (List UInt8)) : List Value := l.map str
theorem strs_len (l : List (List UInt8)) : (strs l).length = l.length := by simp [strs]
theorem str_in {w0 : World} {a : Option Addr} {n c i : Nat} {l : List (List UInt8)} (h : Sl w0 1 (.slice a n c) n (strs l)) (hi : i < l.length) : ∃ bk off, a = some ⟨bk, off, none⟩ ∧ ∀ (w : World) (L : List (Nat × Obj)), Step [] L w0 w → w.cell? ⟨bk, off + i * 1, none⟩ = some (str l[i]) := by
 obtain ⟨hl, ⟨_, c1, h1, h0⟩ | ⟨bk, off, c1, h1, hat⟩⟩ := h
 ·rw [strs_len, h0] at hl
  omega
 ·cases h1
  exact ⟨bk, off, rfl, fun w L hs => by rw [Nat.mul_one]; exact (hat.step hs (by simp)).cell (by simp [strs, hi])⟩
theorem filled_s (v z : Value) (h : v.cells = #[v]) : Filled 1 1 [z] [(0, v)] [v] := by
 simp [Filled, Instr.fill, h]
end Go.Gx
/-! Any -/
namespace Go.Gx

section any
variable {P : Program} {ops : Array Oper} {Q : Exit → Act → World → Prop} {md : Region.Mode} {A C : World → Prop}

/-- As 'wpAny', and A holds at each stage, and as long as operation s has not run, C. -/
def wpAnyI (P : Program) (md : Region.Mode) (ops : Array Oper) (Q : Exit → Act → World → Prop) (s : Nat) (A C : World → Prop) : Nat → Array Bool → Act → World → Prop
 | 0, listed, a, w => (A w ∧ (listed.getD s false = false → C w)) ∧ Region.ready md ops listed = [] ∧ Q .normal a w
 | fuel + 1, listed, a, w => (A w ∧ (listed.getD s false = false → C w)) ∧ (Region.ready md ops listed = [] → Q .normal a w) ∧
  ∀ i ∈ Region.ready md ops listed, wpOp P ops Q i (wpAnyI P md ops Q s A C fuel (listed.setIfInBounds i true)) a w

theorem wpAnyI.relax {s s' : Nat} {C' : World → Prop} : ∀ {fuel : Nat} {listed : Array Bool} {a : Act} {w : World}, listed.getD s false = true → wpAnyI P md ops Q s' A C' fuel listed a w → wpAnyI P md ops Q s A C fuel listed a w
 | 0, _, _, _, hu, h => ⟨⟨h.1.1, fun h0 => (by rw [hu] at h0; cases h0)⟩, h.2.1, h.2.2⟩
 | _ + 1, _, _, _, hu, h => ⟨⟨h.1.1, fun h0 => (by rw [hu] at h0; cases h0)⟩, h.2.1, fun i hi => wpOp_mono (fun _ _ h' => wpAnyI.relax (getD_set_true hu) h') (h.2.2 i hi)⟩

theorem wpAnyI.any {s : Nat} : ∀ {fuel : Nat} {listed : Array Bool} {a : Act} {w : World}, wpAnyI P md ops Q s A C fuel listed a w → wpAny P md ops Q fuel listed a w
 | 0, _, _, _, h => h.2
 | _ + 1, _, _, _, h => ⟨h.2.1, fun i hi => wpOp_mono (fun _ _ h' => wpAnyI.any h') (h.2.2 i hi)⟩

def YieldsC (P : Program) (ops : Array Oper) (C : World → Prop) (o : Oper) (v : Value) (a : Act) : Prop :=
 (Region.wanted o (yielded ops a.tmps) = true ∧ ∀ w, C w → (execOp a.eval o).run P w = .ok (.value v) w) ∨
 (Region.wanted o (yielded ops a.tmps) = false ∧ v = undef)

theorem YieldsC.wpOp {i : Nat} {o : Oper} {v : Value} {a : Act} (hi : ops[i]? = some o) (hy : YieldsC P ops C o v a)
  {K : Act → World → Prop} {w : World} (hC : C w) (h : K (a.put o.dst v) w) : wpOp P ops Q i K a w := by
 unfold Go.wpOp
 simp only [hi]
 rcases hy with ⟨hw, hv⟩ | ⟨hw, rfl⟩
 ·simp only [hw, if_true, Oper.wp, hv w hC, Oper.upon]; exact .inl h
 ·simp only [hw, Bool.false_eq_true, if_false]; exact h

theorem YieldsC.of_same {o : Oper} {v : Value} {a a' : Act} (hy : YieldsC P ops C o v a) (he : execOp a'.eval o = execOp a.eval o)
  (hw : Region.wanted o (yielded ops a'.tmps) = Region.wanted o (yielded ops a.tmps)) : YieldsC P ops C o v a' := by
 unfold YieldsC at *
 rw [he, hw]
 exact hy

theorem wpOp_putC {j : Nat} {oi oj : Oper} {v : Value} (hj : ops[j]? = some oj) (hap : oi.apart ops oj = true)
  (hsi : ∀ cs b, oi.op ≠ .select cs b) (hsj : ∀ cs b, oj.op ≠ .select cs b)
  (hQ : ∀ c a w, Q (.panic c) (a.put oi.dst v) w → Q (.panic c) a w) {K : Act → World → Prop} {a : Act} {w : World}
  (hy : YieldsC P ops C oi v a) (h : wpOp P ops Q j K (a.put oi.dst v) w) :
  wpOp P ops Q j (fun a' w' => YieldsC P ops C oi v a' ∧ K (a'.put oi.dst v) w') a w := by
 have hobt := Oper.apart_spec hap
 obtain ⟨h1, h2, h3⟩ := hobt
 have keep : ∀ (a : Act), YieldsC P ops C oi v a → ∀ u, YieldsC P ops C oi v (a.put oj.dst u) := fun a hy u =>
  hy.of_same (execOp_put oi hsi a oj.dst u h3) (wanted_put oi a oj.dst u h3)
 have keepD : ∀ d, YieldsC P ops C oi v { a with defers := d :: a.defers } := fun d => hy.of_same rfl rfl
 unfold wpOp at *
 simp only [hj] at *
 rw [wanted_put oj a oi.dst v h1] at h
 split
 ·rename_i hw
  simp only [hw, if_true] at h
  rcases h with h | ⟨hasks, hlets⟩
  case inr => exact .inr ⟨by unfold Oper.asks at *; rw [execOp_put oj hsj a oi.dst v h1] at hasks; exact hasks, hlets⟩
  refine .inl ?_
  unfold Oper.wp at *
  rw [execOp_put oj hsj a oi.dst v h1] at h
  generalize (execOp a.eval oj).run P w = r at *
  cases r with
  | ok n w' =>
   cases n <;> simp only [Oper.upon] at h ⊢
   case value u => exact ⟨keep a hy u, by rw [← Act.put_comm a v u h2]; exact h⟩
   case skip => exact ⟨keep a hy _, by rw [← Act.put_comm a v undef h2]; exact h⟩
   case defer d =>
    refine ⟨keep _ (keepD d) _, ?_⟩
    rw [← Act.put_comm _ v undef h2, ← Act.put_defers]
    exact h
   case enter f args =>
    refine Calls.mono h fun e w'' he => ?_
    cases e with
    | returned u => exact ⟨keep a hy u, by rw [← Act.put_comm a v u h2]; exact he⟩
    | panicked c => exact hQ _ _ _ he
    | outgrown => exact he
   case row row args => exact Rows.mono h fun u w'' he => ⟨keep a hy u, by rw [← Act.put_comm a v u h2]; exact he⟩
  | halt x w' =>
   cases x <;> simp only [Oper.upon] at h ⊢
   case panic u => exact hQ _ _ _ h
 ·rename_i hw
  simp only [hw] at h
  exact ⟨keep a hy _, by rw [← Act.put_comm a v undef h2]; exact h⟩

/-- Operation s (if there is one) comes behind i. -/
def endsBehind (md : Region.Mode) (ops : Array Oper) (i s : Nat) : Bool := match ops[s]? with
 | some os => os.after.any fun e => Region.binds md e && e.on == i
 | none => true

theorem wpAnyI_first {s i : Nat} {oi : Oper} {v : Value} {D : World → Prop} (J : Array Bool → Prop) (hi : ops[i]? = some oi) (hsel : ∀ (j : Nat) (o : Oper) cs b, ops[j]? = some o → o.op ≠ .select cs b)
  (hJ : ∀ listed j, J listed → i ∈ Region.ready md ops listed → j ∈ Region.ready md ops listed → j ≠ i → J (listed.setIfInBounds j true))
  (hD : ∀ listed w, J listed → A w ∧ ((listed.setIfInBounds i true).getD s false = false → C w) → D w ∧ (listed.getD s false = false → C w))
  (hQ : ∀ c a w, Q (.panic c) (a.put oi.dst v) w → Q (.panic c) a w) :
  ∀ (fuel : Nat) (listed : Array Bool) (a : Act) (w : World), J listed →
   (∀ j oj, ops[j]? = some oj → j ≠ i → listed.getD j true = false → (∀ e ∈ oj.after, Region.binds md e = true → e.on ≠ i) → oi.apart ops oj = true) →
   i ∈ Region.ready md ops listed → YieldsC P ops D oi v a →
   wpAnyI P md ops Q s A C fuel (listed.setIfInBounds i true) (a.put oi.dst v) w → wpAnyI P md ops Q s A C (fuel + 1) listed a w := by
 intro fuel
 induction fuel with
 | zero =>
  intro listed a w hu _ hr hy H
  have hC := hD listed w hu H.1
  refine ⟨⟨H.1.1, hC.2⟩, fun h => (by rw [h] at hr; cases hr), fun j hj => ?_⟩
  by_cases hji : j = i
  ·subst hji; exact hy.wpOp hi hC.1 H
  ·have := ready_mono hj hji
   rw [H.2.1] at this
   cases this
 | succ fuel ih =>
  intro listed a w hu hfree hr hy H
  have hC := hD listed w hu H.1
  refine ⟨⟨H.1.1, hC.2⟩, fun h => (by rw [h] at hr; cases hr), fun j hj => ?_⟩
  by_cases hji : j = i
  ·subst hji; exact hy.wpOp hi hC.1 H
  ·have h1 := H.2.2 j (ready_mono hj hji)
   have hobt := mem_ready.1 hj
   obtain ⟨hjun, oj, hoj, hall⟩ := hobt
   have hnot : ∀ e ∈ oj.after, Region.binds md e = true → e.on ≠ i := fun e he hb heq => by
    have h1 := hall e he hb
    have h0 := (mem_ready.1 hr).1
    rw [heq] at h1
    rcases Nat.lt_or_ge i listed.size with h' | h'
    ·simp [h'] at h0 h1; rw [h0] at h1; cases h1
    ·simp [Array.getElem?_eq_none h'] at h1
   have h2 := wpOp_putC hoj (hfree j oj hoj hji hjun hnot) (fun cs b => hsel i oi cs b hi) (fun cs b => hsel j oj cs b hoj) hQ hy h1
   have hfree' : ∀ k ok, ops[k]? = some ok → k ≠ i → (listed.setIfInBounds j true).getD k true = false →
     (∀ e ∈ ok.after, Region.binds md e = true → e.on ≠ i) → oi.apart ops ok = true := fun k ok hk hki hun hno => by
    refine hfree k ok hk hki ?_ hno
    by_cases hjk : j = k
    ·subst hjk; exact hjun
    ·rw [getD_set_ne true hjk] at hun; exact hun
   refine wpOp_mono (fun a' w' h3 => ih (listed.setIfInBounds j true) a' w' (hJ listed j hu hr hj hji) hfree' (ready_mono hr (Ne.symm hji)) h3.1 ?_) h2
   rw [Array.setIfInBounds_comm _ _ hji]
   exact h3.2

/-- What yields as long as s has not run, where s comes behind it. -/
theorem wpAnyI_firstC {s i : Nat} {oi : Oper} {v : Value} (hi : ops[i]? = some oi) (hsel : ∀ (j : Nat) (o : Oper) cs b, ops[j]? = some o → o.op ≠ .select cs b)
  (hs : endsBehind md ops i s = true) (his : i ≠ s) (hQ : ∀ c a w, Q (.panic c) (a.put oi.dst v) w → Q (.panic c) a w) {fuel : Nat} {listed : Array Bool} {a : Act} {w : World} (hu : listed.getD s false = false)
  (hf : ∀ j oj, ops[j]? = some oj → j ≠ i → listed.getD j true = false → (∀ e ∈ oj.after, Region.binds md e = true → e.on ≠ i) → oi.apart ops oj = true)
  (hr : i ∈ Region.ready md ops listed) (hy : YieldsC P ops C oi v a) (h : wpAnyI P md ops Q s A C fuel (listed.setIfInBounds i true) (a.put oi.dst v) w) : wpAnyI P md ops Q s A C (fuel + 1) listed a w :=
 wpAnyI_first (D := C) (fun listed => listed.getD s false = false) hi hsel (fun listed j hJ hri hrj hji => by
  have hjs : j ≠ s := fun e => by
   subst e
   have hobt := mem_ready.1 hrj
   obtain ⟨_, oj, hoj, hall⟩ := hobt
   simp only [endsBehind, hoj] at hs
   have hobt := Array.any_eq_true'.1 hs
   obtain ⟨e, he, hb⟩ := hobt
   simp only [Bool.and_eq_true, beq_iff_eq] at hb
   have h1 := hall e he hb.1
   have h0 := (mem_ready.1 hri).1
   rw [hb.2] at h1
   rcases Nat.lt_or_ge i listed.size with h' | h'
   ·simp [h'] at h0 h1; rw [h0] at h1; cases h1
   ·simp [Array.getElem?_eq_none h'] at h1
  show (listed.setIfInBounds j true).getD s false = false
  rw [getD_set_ne false hjs]; exact hJ) (fun listed w hJ h => by
  have := h.2 (by rw [getD_set_ne false his]; exact hJ)
  exact ⟨this, fun _ => this⟩) hQ fuel listed a w hu hf hr hy h

/-- What yields at each stage. -/
theorem wpAnyI_firstA {s i : Nat} {oi : Oper} {v : Value} (hi : ops[i]? = some oi) (hsel : ∀ (j : Nat) (o : Oper) cs b, ops[j]? = some o → o.op ≠ .select cs b)
  (his : i ≠ s) (hQ : ∀ c a w, Q (.panic c) (a.put oi.dst v) w → Q (.panic c) a w) {fuel : Nat} {listed : Array Bool} {a : Act} {w : World}
  (hf : ∀ j oj, ops[j]? = some oj → j ≠ i → listed.getD j true = false → (∀ e ∈ oj.after, Region.binds md e = true → e.on ≠ i) → oi.apart ops oj = true)
  (hr : i ∈ Region.ready md ops listed) (hy : YieldsC P ops A oi v a) (h : wpAnyI P md ops Q s A C fuel (listed.setIfInBounds i true) (a.put oi.dst v) w) : wpAnyI P md ops Q s A C (fuel + 1) listed a w :=
 wpAnyI_first (D := A) (fun _ => True) hi hsel (fun _ _ _ _ _ _ => trivial) (fun listed w _ h => ⟨h.1, fun h0 => h.2 (by rw [getD_set_ne false his]; exact h0)⟩) hQ fuel listed a w trivial hf hr hy h
end any

/-! ### The same over slots -/
def lst (n : Nat) (done : List Nat) : Array Bool := done.foldr (fun i l => l.setIfInBounds i true) (Array.replicate n false)

section al
variable {P : Program} {ops : Array Oper} {n : Nat} {f : Slots} {ds : List Deferred} {w : World} {A C : World → Prop} {s : Nat} {Qn : Slots → World → Prop} {Qp : List PanicEntry → World → Prop}

def anyPost (n : Nat) (ds : List Deferred) (Qn : Slots → World → Prop) (Qp : List PanicEntry → World → Prop) : Exit → Act → World → Prop
 | .normal, a, w => ∃ f, Rep n f ds a ∧ Qn f w
 | .panic c, a, w => a.tmps.size = n ∧ a.defers = ds ∧ Qp c w
 | _, _, _ => False

structure AL (P : Program) (ops : Array Oper) (s : Nat) (A C : World → Prop) (Qn : Slots → World → Prop) (Qp : List PanicEntry → World → Prop) (n : Nat) (ds : List Deferred) (fuel : Nat) (done : List Nat) (f : Slots) (w : World) : Prop where
 out : ∀ a, Rep n f ds a → wpAnyI P .any ops (anyPost n ds Qn Qp) s A C fuel (lst ops.size done) a w

def quietAt (ops : Array Oper) (s : Nat) (done : List Nat) (i : Nat) : Bool := endsBehind .any ops i s && i != s && !(lst ops.size done).getD s false && Region.noSelect ops && Region.free .any ops (lst ops.size done) i && (Region.ready .any ops (lst ops.size done)).contains i

/-- Nothing is asked behind s: the same check without it. -/
def quietA (ops : Array Oper) (s : Nat) (done : List Nat) (i : Nat) : Bool := i != s && Region.noSelect ops && Region.free .any ops (lst ops.size done) i && (Region.ready .any ops (lst ops.size done)).contains i

theorem AL.panicKept {o : Option Tmp} {v : Value} : ∀ (c : List PanicEntry) (a : Act) (w : World), anyPost n ds Qn Qp (.panic c) (a.put o v) w → anyPost n ds Qn Qp (.panic c) a w := by
 rintro c a' w' ⟨h1, h2, h3⟩
 refine ⟨?_, ?_, h3⟩
 ·rw [← h1]; cases o <;> simp [Act.put]
 ·rw [← h2]; cases o <;> rfl

theorem AL.first {fuel : Nat} {done : List Nat} (i : Nat) {oi : Oper} {v : Value} {f' : Slots} (hi : ops[i]? = some oi) (hq : quietAt ops s done i = true)
  (hrep : ∀ a, Rep n f ds a → Rep n f' ds (a.put oi.dst v)) (hy : ∀ a, Rep n f ds a → YieldsC P ops C oi v a)
  (h : AL P ops s A C Qn Qp n ds fuel (i :: done) f' w) : AL P ops s A C Qn Qp n ds (fuel + 1) done f w := by
 simp only [quietAt, Bool.and_eq_true, bne_iff_ne, Bool.not_eq_true'] at hq
 obtain ⟨⟨⟨⟨⟨hq1, hq2⟩, hq3⟩, hq4⟩, hq5⟩, hq6⟩ := hq
 exact ⟨fun a ha => wpAnyI_firstC hi (Region.noSelect_spec hq4) hq1 hq2 AL.panicKept hq3 (Region.free_spec hi hq5) (by simpa using hq6) (hy a ha) (h.out _ (hrep a ha))⟩
theorem AL.firstA {fuel : Nat} {done : List Nat} (i : Nat) {oi : Oper} {v : Value} {f' : Slots} (hi : ops[i]? = some oi) (hq : quietA ops s done i = true)
  (hrep : ∀ a, Rep n f ds a → Rep n f' ds (a.put oi.dst v)) (hy : ∀ a, Rep n f ds a → YieldsC P ops A oi v a)
  (h : AL P ops s A C Qn Qp n ds fuel (i :: done) f' w) : AL P ops s A C Qn Qp n ds (fuel + 1) done f w := by
 simp only [quietA, Bool.and_eq_true, bne_iff_ne] at hq
 obtain ⟨⟨⟨hq2, hq4⟩, hq5⟩, hq6⟩ := hq
 exact ⟨fun a ha => wpAnyI_firstA hi (Region.noSelect_spec hq4) hq2 AL.panicKept (Region.free_spec hi hq5) (by simpa using hq6) (hy a ha) (h.out _ (hrep a ha))⟩

section
variable {o : Op} {ty : TypeId} {pos : String} {af : Array Edge} {fuel : Nat} {done : List Nat}

theorem AL.val (i : Nat) {d : Nat} {v : Value} (hi : ops[i]? = some ⟨some d, o, ty, pos, af, none⟩) (hq : quietAt ops s done i = true) (hd : Nat.blt d n = true)
  (hrun : ∀ w, C w → (execOp (ev f) ⟨some d, o, ty, pos, af, none⟩).run P w = .ok (.value v) w)
  (h : AL P ops s A C Qn Qp n ds fuel (i :: done) (upd f d v) w) : AL P ops s A C Qn Qp n ds (fuel + 1) done f w :=
 .first i hi hq (fun a ha => ha.put hd v) (fun a ha => .inl ⟨by simp [Region.wanted], fun w hw => by rw [ha.eval]; exact hrun w hw⟩) h

theorem AL.valA (i : Nat) {d : Nat} {v : Value} (hi : ops[i]? = some ⟨some d, o, ty, pos, af, none⟩) (hq : quietA ops s done i = true) (hd : Nat.blt d n = true)
  (hrun : ∀ w, A w → (execOp (ev f) ⟨some d, o, ty, pos, af, none⟩).run P w = .ok (.value v) w)
  (h : AL P ops s A C Qn Qp n ds fuel (i :: done) (upd f d v) w) : AL P ops s A C Qn Qp n ds (fuel + 1) done f w :=
 .firstA i hi hq (fun a ha => ha.put hd v) (fun a ha => .inl ⟨by simp [Region.wanted], fun w hw => by rw [ha.eval]; exact hrun w hw⟩) h

/-- What stands behind an operation with effects. -/
def alPost (P : Program) (ops : Array Oper) (s : Nat) (A C : World → Prop) (Qn : Slots → World → Prop) (Qp : List PanicEntry → World → Prop) (n : Nat) (ds : List Deferred) (fuel : Nat) (done : List Nat) : Post
 | .normal, f, ds', w => ds' = ds ∧ AL P ops s A C Qn Qp n ds fuel done f w
 | .panic c, f, ds', w => ds' = ds ∧ Qp c w
 | _, _, _, _ => False

theorem wpOp_of_WL {i : Nat} {o : Oper} (hi : ops[i]? = some o) (h : WL P ops (alPost P ops s A C Qn Qp n ds fuel (i :: done)) n [o] f ds w) {a : Act} (ha : Rep n f ds a) :
  wpOp P ops (anyPost n ds Qn Qp) i (wpAnyI P .any ops (anyPost n ds Qn Qp) s A C fuel ((lst ops.size done).setIfInBounds i true)) a w := by
 have h1 := h.out a ha
 have e : (lst ops.size done).setIfInBounds i true = lst ops.size (i :: done) := rfl
 rw [e]
 have hn : ∀ a' w', lift n (alPost P ops s A C Qn Qp n ds fuel (i :: done)) .normal a' w' → wpAnyI P .any ops (anyPost n ds Qn Qp) s A C fuel (lst ops.size (i :: done)) a' w' := by
  rintro a' w' ⟨f', ds', hr, rfl, hA⟩
  exact hA.out a' hr
 unfold wpOp
 simp only [hi]
 simp only [wpList] at h1
 split
 ·rename_i hw
  simp only [hw, if_true] at h1
  rcases h1 with h1 | ⟨_, a0, w0, f0, ds0, _, hF⟩
  ·refine .inl ?_
   unfold Oper.wp at h1 ⊢
   generalize (execOp a.eval o).run P w = r at h1 ⊢
   cases r with
   | ok x w' =>
    cases x <;> simp only [Oper.upon] at h1 ⊢
    case value => exact hn _ _ h1
    case skip => exact hn _ _ h1
    case defer => exact hn _ _ h1
    case enter =>
     refine h1.mono fun e w' hR => ?_
     cases e with
     | returned v => exact hn _ _ hR
     | panicked ch => obtain ⟨f0, ds0, hr, rfl, hp⟩ := hR; exact ⟨hr.size, hr.defers, hp⟩
     | outgrown => obtain ⟨a1, w1, f0, ds0, _, hF⟩ := hR; exact hF.elim
    case row => exact h1.mono fun v w' hR => hn _ _ hR
   | halt x w' =>
    cases x <;> simp only [Oper.upon] at h1 ⊢
    obtain ⟨f0, ds0, hr, rfl, hp⟩ := h1
    exact ⟨hr.size, hr.defers, hp⟩
  ·exact hF.elim
 ·rename_i hw
  simp only [hw] at h1
  exact hn _ _ h1

theorem AL.fork (rs : List Nat) (hr : (Region.ready .any ops (lst ops.size done)) = rs) (hne : rs.isEmpty = false) (hA : A w) (hC : C w)
  (h : ∀ i ∈ rs, ∃ o, ops[i]? = some o ∧ WL P ops (alPost P ops s A C Qn Qp n ds fuel (i :: done)) n [o] f ds w) : AL P ops s A C Qn Qp n ds (fuel + 1) done f w :=
 ⟨fun a ha => ⟨⟨hA, fun _ => hC⟩, fun h0 => (by rw [hr] at h0; rw [h0] at hne; cases hne), fun i hi => by
  have hobt := h i (by rw [← hr]; exact hi)
  obtain ⟨o, ho, hw⟩ := hobt
  exact wpOp_of_WL ho hw ha⟩⟩

theorem AL.one (i : Nat) {o : Oper} (hr : (Region.ready .any ops (lst ops.size done)) = [i]) (hi : ops[i]? = some o) (hA : A w) (hC : C w)
  (h : WL P ops (alPost P ops s A C Qn Qp n ds fuel (i :: done)) n [o] f ds w) : AL P ops s A C Qn Qp n ds (fuel + 1) done f w :=
 .fork [i] hr rfl hA hC (fun k hk => by simp at hk; subst hk; exact ⟨o, hi, h⟩)
theorem AL.two (i j : Nat) {o o' : Oper} (hr : (Region.ready .any ops (lst ops.size done)) = [i, j]) (hi : ops[i]? = some o) (hj : ops[j]? = some o') (hA : A w) (hC : C w)
  (h : WL P ops (alPost P ops s A C Qn Qp n ds fuel (i :: done)) n [o] f ds w) (h' : WL P ops (alPost P ops s A C Qn Qp n ds fuel (j :: done)) n [o'] f ds w) : AL P ops s A C Qn Qp n ds (fuel + 1) done f w :=
 .fork [i, j] hr rfl hA hC (fun k hk => by
  simp at hk
  rcases hk with rfl | rfl
  ·exact ⟨o, hi, h⟩
  ·exact ⟨o', hj, h'⟩)
theorem AL.end (hr : (Region.ready .any ops (lst ops.size done)).isEmpty = true) (hA : A w) (hC : C w) (h : Qn f w) : AL P ops s A C Qn Qp n ds 0 done f w :=
 ⟨fun a ha => ⟨⟨hA, fun _ => hC⟩, by simpa using hr, f, ha, h⟩⟩
/-- Behind operation s nothing is asked of the world any more. -/
theorem AL.relax (hu : (lst ops.size done).getD s false = true) (h : AL P ops 1000000 A (fun _ => True) Qn Qp n ds fuel done f w) : AL P ops s A C Qn Qp n ds fuel done f w :=
 ⟨fun a ha => (h.out a ha).relax hu⟩
end

theorem CW.any {Q : Post} {id : Nat} {l : List Oper} (s k : Nat) (hm : P.follows .mixedOrders = true) (hk : l.length = k)
  (h : AL P l.toArray s A C (fun f w => Q .normal f ds w) (fun c w => ∀ f, Q (.panic c) f ds w) n ds k [] f w.drew) : CW P (.region id l.toArray true) Q n f ds w :=
 ⟨fun a ha => by
  refine Code.wp_mono ?_ (wp_region_any (Q := anyPost n ds (fun f w => Q .normal f ds w) (fun c w => ∀ f, Q (.panic c) f ds w)) hm ?_)
  ·intro e a' w' hq
   cases e with
   | normal => obtain ⟨f', hr, hq⟩ := hq; exact ⟨f', ds, hr, hq⟩
   | panic c => obtain ⟨h1, h2, hq⟩ := hq; exact ⟨fun t => a'.tmps.getD t undef, ds, ⟨h1, fun t => rfl, h2⟩, hq _⟩
   | exit id => exact hq.elim
   | goto id => exact hq.elim
   | ret => exact hq.elim
   | outgrown => exact hq.elim
  ·have h1 := (h.out a ha).any
   have e : l.toArray.size = k := by simp [hk]
   rw [e] at h1 ⊢
   exact h1⟩
end al
end Go.Gx
/-! Pan -/
namespace Go.Gx

section
variable {P : Program} {ops : Array Oper} {Q : Post} {n : Nat} {rest : List Oper} {f : Slots} {ds : List Deferred} {w w' : World} {o : Op} {ty : TypeId} {pos : String} {af : Array Edge} {d : Option Tmp}

theorem invoke_fn {F : FuncId} (hF : En P F) (cap vas : Array Value) : (invoke (.fn (.func F) cap) vas).run P w = .ok (.enter F (vas ++ cap)) w := by
 have hobt := hF.ok
 obtain ⟨fn, hf, hb, hn⟩ := hobt
 simp only [invoke, callFunc, Sem.run_bind, run_program, Result.andThen_ok, hf, hn, hb, Bool.false_eq_true, if_false, Sem.run_pure]

theorem run_callV {F : FuncId} {fo : Operand} {args : Array Operand} {ats : Array TypeId} {vs cap : List Value} (hF : En P F)
  (hx : ev f fo = .func (.func F) #[] cap.toArray) (hv : args.toList.map (ev f) = vs) :
  (execOp (ev f) ⟨d, .call { callee := .value fo, args, argTypes := ats }, ty, pos, af, none⟩).run P w = .ok (.enter F (vs ++ cap).toArray) w := by
 have e : args.map (ev f) = vs.toArray := by rw [← hv]; apply Array.ext'; simp
 have h := invoke_fn (w := w) hF cap.toArray vs.toArray
 rw [List.append_toArray] at h
 simp [execOp, resolve, hx, Deferred.ofValue, e]
 simpa using h

end

section defers
variable {P : Program} {n : Nat} {w : World} {fn : Func} {R : Ending → World → Prop} {f : Slots}

def finD (P : Program) (n : Nat) (fn : Func) (R : Ending → World → Prop) : Post := fun e f ds w => ∀ a, Rep n f ds a → bodyPostD P fn R e a w

end defers

/-! ### recover -/
section recover
variable {P : Program} {n : Nat} {w : World} {f : Slots} {ds : List Deferred} {cs : List Frame}

abbrev PostS := Exit → Slots → List Deferred → List Frame → World → Prop
def liftS (n : Nat) (Q : PostS) : Exit → Act → List Frame → World → Prop := fun e a cs w => ∃ f ds, Rep n f ds a ∧ Q e f ds cs w
structure CS (P : Program) (c : Code) (Q : PostS) (n : Nat) (f : Slots) (ds : List Deferred) (cs : List Frame) (w : World) : Prop where
 out : ∀ a, Rep n f ds a → c.wpS P (liftS n Q) a cs w

def thenS (K : Slots → List Deferred → List Frame → World → Prop) (Q : PostS) : PostS
 | .normal, f, ds, cs, w => K f ds cs w
 | .exit id, f, ds, cs, w => Q (.exit id) f ds cs w
 | .goto l, f, ds, cs, w => Q (.goto l) f ds cs w
 | .ret, f, ds, cs, w => Q .ret f ds cs w
 | .panic ch, f, ds, cs, w => Q (.panic ch) f ds cs w
 | .outgrown, f, ds, cs, w => Q .outgrown f ds cs w

def finS (P : Program) (n : Nat) (fn : Func) (c0 : Frame) (cs : List Frame) (R : Ending → FrameMode → World → Prop) : PostS := fun e f ds cs' w => ∀ a, Rep n f ds a → bodyPostS P fn c0 cs R e a cs' w

end recover
end Go.Gx
/-! QTail -/
namespace Go.Gx

section qtail
variable {P : Program} {ops : Array Oper} {md : Region.Mode} {C : World → Prop}

def wpAnyH (P : Program) (md : Region.Mode) (ops : Array Oper) (C : World → Prop) (n : Nat) (L : Array Bool → Act → Prop) : Nat → Array Bool → Act → Prop
 | 0, listed, a => L listed a
 | f + 1, listed, a => Region.ready md ops listed ≠ [] ∧ ∀ i ∈ Region.ready md ops listed, i < n ∧ qOp P ops C i (wpAnyH P md ops C n L f (listed.setIfInBounds i true)) a

theorem wpAnyH.out {n g : Nat} {L : Array Bool → Act → Prop} {Q' : Exit → Act → World → Prop} (hL : ∀ listed a w, C w → L listed a → wpAny P md ops Q' g listed a w) :
  ∀ (f : Nat) (listed : Array Bool) (a : Act) (w : World), C w → wpAnyH P md ops C n L f listed a → wpAny P md ops Q' (f + g) listed a w
 | 0, listed, a, w, hw, h => by rw [Nat.zero_add]; exact hL _ _ _ hw h
 | f + 1, listed, a, w, hw, h => by
  rw [show f + 1 + g = (f + g) + 1 by omega]
  exact ⟨fun h0 => absurd h0 h.1, fun i hi => wpOp_of_qOp hw (fun a' w' hw' h' => wpAnyH.out hL f _ a' w' hw' h') (h.2 i hi).2⟩

theorem wpAnyH.first {n i : Nat} {oi : Oper} {v : Value} {L : Array Bool → Act → Prop} (hi : ops[i]? = some oi) (hsel : ∀ (j : Nat) (o : Oper) cs b, ops[j]? = some o → o.op ≠ .select cs b)
  (hs : Region.sinkB md ops n = true) (hc : Region.chainB md ops n = true) (hn : n < ops.size) (hin : i < n)
  (hdone : ∀ listed a, L listed a → ∀ j ∈ Region.ready md ops listed, n ≤ j) :
  ∀ (f : Nat) (listed : Array Bool) (a : Act), HeadInv md ops n listed →
   (∀ j oj, ops[j]? = some oj → j ≠ i → listed.getD j true = false → (∀ e ∈ oj.after, Region.binds md e = true → e.on ≠ i) → oi.apart ops oj = true) →
   i ∈ Region.ready md ops listed → YieldsIn P ops C oi v a →
   wpAnyH P md ops C n L f (listed.setIfInBounds i true) (a.put oi.dst v) → wpAnyH P md ops C n L (f + 1) listed a := by
 intro f
 induction f with
 | zero =>
  intro listed a inv _ hr hy H
  refine ⟨fun h => (by rw [h] at hr; cases hr), fun j hj => ?_⟩
  have hjn : j < n := by
   rcases Nat.lt_or_ge j n with h | h
   ·exact h
   ·exact absurd hj (tail_waits hs hc hn inv _ i rfl hin (mem_ready.1 hr).1 j h)
  refine ⟨hjn, ?_⟩
  by_cases hji : j = i
  ·subst hji; exact hy.qOp hi H
  ·have := hdone _ _ H j (ready_mono hj hji)
   omega
 | succ f ih =>
  intro listed a inv hfree hr hy H
  have hun := (mem_ready.1 hr).1
  refine ⟨fun h => (by rw [h] at hr; cases hr), fun j hj => ?_⟩
  have hjn : j < n := by
   rcases Nat.lt_or_ge j n with h | h
   ·exact h
   ·exact absurd hj (tail_waits hs hc hn inv _ i rfl hin hun j h)
  refine ⟨hjn, ?_⟩
  by_cases hji : j = i
  ·subst hji; exact hy.qOp hi H
  ·have h1 := (H.2 j (ready_mono hj hji)).2
   have hobt := mem_ready.1 hj
   obtain ⟨hjun, oj, hoj, hall⟩ := hobt
   have hnot : ∀ e ∈ oj.after, Region.binds md e = true → e.on ≠ i := fun e he hb heq => by
    have h1 := hall e he hb
    rw [heq, getD_both hun] at h1
    cases h1
   have h2 := qOp_put hoj (hfree j oj hoj hji hjun hnot) (fun cs b => hsel i oi cs b hi) (fun cs b => hsel j oj cs b hoj) hy h1
   have hfree' : ∀ k ok, ops[k]? = some ok → k ≠ i → (listed.setIfInBounds j true).getD k true = false →
     (∀ e ∈ ok.after, Region.binds md e = true → e.on ≠ i) → oi.apart ops ok = true := fun k ok hk hki hun' hno => by
    refine hfree k ok hk hki ?_ hno
    by_cases hjk : j = k
    ·subst hjk; exact hjun
    ·rw [getD_set_ne true hjk] at hun'; exact hun'
   refine qOp_mono (fun a' h3 => ih (listed.setIfInBounds j true) a' (inv.set hj hjn) hfree' (ready_mono hr (Ne.symm hji)) h3.1 ?_) h2
   rw [Array.setIfInBounds_comm _ _ hji]
   exact h3.2

theorem wpAnyH.lex {n g : Nat} {Lq : Act → Prop} (hsel : Region.noSelect ops = true) (hs : Region.sinkB md ops n = true) (hc : Region.chainB md ops n = true) (hn : n < ops.size) :
  ∀ (l : List Oper) (k : Nat) (listed : Array Bool) (a : Act), (∀ j, j < l.length → l[j]? = ops[k + j]?) → k + l.length = n → HeadInv md ops n listed →
  Region.lexHead md ops g l.length k listed = true → wpQuiet P ops C Lq l a →
  wpAnyH P md ops C n (fun listed' a' => Region.seqB md ops g n listed' = true ∧ Lq a') l.length listed a
 | [], k, listed, a, _, hk, _, hB, h => by
  have : k = n := by simpa using hk
  subst this
  exact ⟨by simpa [Region.lexHead] using hB, h⟩
 | o :: l, k, listed, a, hl, hk, inv, hB, h => by
  have h0 : ops[k]? = some o := by simpa using (hl 0 (by simp)).symm
  simp only [List.length_cons, Region.lexHead, Bool.and_eq_true] at hB
  obtain ⟨⟨hr, hf⟩, hB'⟩ := hB
  have hkn : k < n := by simp only [List.length_cons] at hk; omega
  have hr' : k ∈ Region.ready md ops listed := by simpa using hr
  have hst : qOp P ops C k (wpQuiet P ops C Lq l) a := by unfold qOp; simp only [h0]; exact h
  have hobt := yieldsIn_of_qOp h0 hst
  obtain ⟨v, hy, hK⟩ := hobt
  exact wpAnyH.first h0 (Region.noSelect_spec hsel) hs hc hn hkn (fun listed' a' hL => seqB_ready hL.1) l.length listed a inv (Region.free_spec h0 hf) hr' hy
   (wpAnyH.lex hsel hs hc hn l (k + 1) _ _ (fun j hj => by have := hl (j + 1) (by simp; omega); simpa [Nat.add_assoc, Nat.add_comm 1 j] using this) (by simp only [List.length_cons] at hk; omega) (inv.set hr' hkn) hB' hK)

theorem wp_region_quiet_tail {id : Nat} {Q : Exit → Act → World → Prop} {a : Act} {w : World} {l1 l2 : List Oper} (n : Nat) (hm : P.follows .mixedOrders = true) (hl : l1.length = n) (hB : Region.lexTailB .any (l1 ++ l2).toArray n = true)
  (hC : C w.drew) (h : wpQuiet P (l1 ++ l2).toArray C (fun a' => ∀ w', C w' → wpList P (l1 ++ l2).toArray Q l2 a' w') l1 a) : (Code.region id (l1 ++ l2).toArray true).wp P Q a w := by
 simp only [Region.lexTailB, Bool.and_eq_true, decide_eq_true_eq] at hB
 obtain ⟨⟨⟨⟨hsel, hn⟩, hs⟩, hc⟩, hlex⟩ := hB
 have hdl : l2.length = (l1 ++ l2).toArray.size - n := by simp; omega
 have inv0 : HeadInv .any (l1 ++ l2).toArray n (Array.replicate (l1 ++ l2).toArray.size false) :=
  ⟨by simp, fun j oj _ hl => (by rw [getD_replicate_false] at hl; cases hl), fun t _ ht => getD_in (by simpa using ht) (getD_replicate_false _ _)⟩
 have H := wpAnyH.lex (md := .any) (g := (l1 ++ l2).toArray.size - n) hsel hs hc hn l1 0 _ a (fun j hj => by
  simp [List.getElem?_append_left hj]) (by simpa using hl) inv0 (by rw [hl]; exact hlex) h
 refine wp_region_any hm ?_
 have := wpAnyH.out (Q' := Q) (g := (l1 ++ l2).toArray.size - n) (fun listed a' w' hw' hL => by
  have := wpAny_of_seq (md := .any) (Q' := Q) l2 n listed a' w' (fun j => by rw [← hl]; simp [List.getElem?_append_right (Nat.le_add_right l1.length j)]) (by rw [hdl]; exact hL.1) (hL.2 w' hw')
  rwa [hdl] at this) _ _ _ _ hC H
 rw [hl, show n + ((l1 ++ l2).toArray.size - n) = (l1 ++ l2).toArray.size by omega] at this
 exact this
end qtail

section
variable {P : Program} {n : Nat} {f : Slots} {ds : List Deferred} {w w0 : World} {S : List Nat} {L : List (Nat × Obj)}
theorem CW.quietT {Q : Post} {id : Nat} {l1 l2 l : List Oper} (k : Nat) (he : l = l1 ++ l2) (hm : P.follows .mixedOrders = true) (hl : l1.length = k) (hB : Region.lexTailB .any l.toArray k = true) (hs : Step S L w0 w)
  (h : QL P l.toArray S L w0 (fun f' => ∀ w', Step S L w0 w' → WL P l.toArray Q n l2 f' ds w') n l1 f ds) : CW P (.region id l.toArray true) Q n f ds w :=
 ⟨fun a ha => by
  subst he
  refine wp_region_quiet_tail (C := fun w => Step S L w0 w) k hm hl hB hs.drew ?_
  have hmono : ∀ (l' : List Oper) (a : Act), wpQuiet P (l1 ++ l2).toArray (fun w => Step S L w0 w) (fun a' => ∃ f', Rep n f' ds a' ∧ ∀ w', Step S L w0 w' → WL P (l1 ++ l2).toArray Q n l2 f' ds w') l' a → wpQuiet P (l1 ++ l2).toArray (fun w => Step S L w0 w) (fun a' => ∀ w', Step S L w0 w' → wpList P (l1 ++ l2).toArray (lift n Q) l2 a' w') l' a := by
   intro l'
   induction l' with
   | nil => exact fun a ⟨f', hr, hq⟩ w' hw' => (hq w' hw').out a hr
   | cons o l' ih =>
    intro a hh
    simp only [wpQuiet] at hh ⊢
    split
    ·rename_i hw; rw [if_pos hw] at hh; exact Oper.quiet_mono ih hh
    ·rename_i hw; rw [if_neg hw] at hh; exact ih _ hh
  exact hmono _ _ (h.out a ha)⟩
end
end Go.Gx
/-! MapS -/
namespace Go.Gx
set_option maxRecDepth 100000
abbrev SEnt := List UInt8 × Value × Nat
def entS (p : SEnt) : MapEntry := { key := str p.1, val := p.2.1, born := p.2.2 }
def entsS (M : List SEnt) : List MapEntry := M.map entS
def findS (d : List UInt8) : List SEnt → Nat → Option (Nat × Value)
 | [], _ => none
 | p :: M, i => if d = p.1 then some (i, p.2.1) else findS d M (i + 1)
def mapS (M : List SEnt) (clock : Nat) : Obj := .map (entsS M).toArray clock
theorem str_beq (a b : List UInt8) : ((⟨⟨a⟩⟩ : ByteArray) == ⟨⟨b⟩⟩) = decide (a = b) := by
 by_cases h : a = b
 ·subst h
  rw [decide_eq_true rfl]
  exact (MapKept.bytes_beq _ _).2 rfl
 ·rw [decide_eq_false h, Bool.eq_false_iff]
  intro e
  have e2 := (MapKept.bytes_beq _ _).1 e
  exact h (by injection e2 with e2; injection e2)
theorem run_findNowS {d : List UInt8} : ∀ (M : List SEnt) (i : Nat), Instr.findNow .string (str d) (entsS M) i = some (findS d M i)
 | [], i => rfl
 | p :: M, i => by
  have ih := run_findNowS (d := d) M (i + 1)
  have h1 : Instr.sameNow .string (str d) (str p.1) = some (decide (d = p.1)) := by
   show some (_ == _) = _
   rw [str_beq]
  unfold entsS at ih ⊢
  rw [List.map_cons, Instr.findNow]
  simp only [entS, h1, findS]
  by_cases h : d = p.1
  ·simp [h]
  ·simp only [h, decide_false, if_false]
   exact ih
section
variable {P : Program} {f : Slots} {w : World} {dd : Option Tmp} {ty : TypeId} {pos : String} {af : Array Edge} {x y : Operand} {T K E : TypeId} {M : List SEnt} {d : List UInt8} {r clock : Nat} {z : Value}
theorem run_findKeyS (hK : P.underlying K = some .string) : (Instr.findKey K (str d) (entsS M)).run P w = .ok (findS d M 0) w := by
 rw [Instr.findKey]
 simp only [Sem.run_bind, run_underlying hK, Result.andThen_ok, run_findNowS]
 rfl
theorem run_keyOkS (hK : P.underlying K = some .string) (em : Bool) : (Instr.checkKey em 10000 K (str d)).run P w = .ok () w := by
 unfold Instr.checkKey
 simp only [Sem.run_bind, run_underlying hK, Result.andThen_ok, str]
 rfl
theorem run_lookupS2 (ht : P.underlying T = some (.map K E)) (hK : P.underlying K = some .string) (hz : (zeroValue E).run P w = .ok z w) (hx : ev f x = .map (some r)) (hy : ev f y = str d) (hb : w.heap[r]? = some (mapS M clock)) :
  (execOp (ev f) ⟨dd, .lookup T x y true, ty, pos, af, none⟩).run P w = .ok (.value (.tuple #[((findS d M 0).map (·.2)).getD z, .bool (findS d M 0).isSome])) w := by
 have h1 := run_findKeyS (M := M) (d := d) (w := w) hK
 have h2 := run_keyOkS (d := d) (w := w) hK (entsS M).toArray.isEmpty
 have hg : (getObj r).run P w = .ok (.map (entsS M).toArray clock) w := by simp [getObj, Sem.run, hb, mapS]
 simp only [execOp, hx, hy, Instr.lookup, Sem.run_bind, run_underlying ht, Result.andThen_ok, hg, Sem.run_pure, h2, h1]
 cases hf : findS d M 0 with
 | none => simp [hz]
 | some p => simp
theorem run_lookupS1 (ht : P.underlying T = some (.map K E)) (hK : P.underlying K = some .string) (hz : (zeroValue E).run P w = .ok z w) (hx : ev f x = .map (some r)) (hy : ev f y = str d) (hb : w.heap[r]? = some (mapS M clock)) :
  (execOp (ev f) ⟨dd, .lookup T x y false, ty, pos, af, none⟩).run P w = .ok (.value (((findS d M 0).map (·.2)).getD z)) w := by
 have h1 := run_findKeyS (M := M) (d := d) (w := w) hK
 have h2 := run_keyOkS (d := d) (w := w) hK (entsS M).toArray.isEmpty
 have hg : (getObj r).run P w = .ok (.map (entsS M).toArray clock) w := by simp [getObj, Sem.run, hb, mapS]
 simp only [execOp, hx, hy, Instr.lookup, Sem.run_bind, run_underlying ht, Result.andThen_ok, hg, Sem.run_pure, h2, h1]
 cases hf : findS d M 0 with
 | none => simp [hz]
 | some p => simp
theorem run_lenS (ht : P.underlying T = some (.map K E)) (hx : ev f x = .map (some r)) (hb : w.heap[r]? = some (mapS M clock)) :
  (execOp (ev f) ⟨dd, .call { callee := .builtin .len, args := #[x], argTypes := #[T] }, ty, pos, af, none⟩).run P w = .ok (.value (.int .i64 (M.length : Nat))) w := by
 have hg := MapKept.run_getObj_map (P := P) hb
 simp [execOp, resolve, invoke, builtin, hx, Builtin.len_, run_underlying ht, hg, goInt, entsS]
end
def updS (d : List UInt8) (v : Value) : List SEnt → List SEnt
 | [] => []
 | p :: M => if d = p.1 then (p.1, v, p.2.2) :: M else p :: updS d v M
theorem findS_shift {d : List UInt8} : ∀ {M : List SEnt} {i : Nat}, findS d M (i + 1) = (findS d M i).map fun p => (p.1 + 1, p.2)
 | [], _ => rfl
 | p :: M, i => by
  unfold findS
  by_cases h : d = p.1
  ·simp [h]
  ·rw [if_neg h, if_neg h]; exact findS_shift
theorem entsS_modify {d : List UInt8} {v u : Value} : ∀ {M : List SEnt} {j : Nat}, findS d M 0 = some (j, u) → (entsS M).modify j (fun e => { e with key := str d, val := v }) = entsS (updS d v M) ∧ ((entsS M)[j]?).map (·.key) = some (str d)
 | [], j, h => by simp [findS] at h
 | p :: M, j, h => by
  unfold findS at h
  by_cases hp : d = p.1
  ·rw [if_pos hp] at h
   injection h with h
   injection h with h1 h2
   subst h1
   simp [entsS, entS, updS, hp]
  ·rw [if_neg hp, findS_shift] at h
   cases hf : findS d M 0 with
   | none => rw [hf] at h; cases h
   | some q =>
    obtain ⟨j', u'⟩ := q
    rw [hf] at h
    simp only [Option.map_some, Option.some.injEq, Prod.mk.injEq] at h
    obtain ⟨rfl, rfl⟩ := h
    have ih := entsS_modify (v := v) hf
    simp only [entsS, updS, hp, if_false, List.map_cons, List.modify_succ_cons, List.getElem?_cons_succ]
    exact ⟨congrArg (_ :: ·) ih.1, ih.2⟩
def putMS (d : List UInt8) (v : Value) (clock : Nat) (M : List SEnt) : List SEnt := if (findS d M 0).isSome then updS d v M else M ++ [(d, v, clock)]
def putCS (d : List UInt8) (clock : Nat) (M : List SEnt) : Nat := if (findS d M 0).isSome then clock else clock + 1
section
variable {P : Program} {ops : Array Oper} {n : Nat} {rest : List Oper} {f : Slots} {ds : List Deferred} {w w0 : World} {S : List Nat} {L : List (Nat × Obj)} {Q : Post} {ty : TypeId} {pos : String} {af : Array Edge} {x y k : Operand} {T K E : TypeId} {M : List SEnt} {d : List UInt8} {r clock : Nat} {v : Value}
theorem run_putS (ht : P.underlying T = some (.map K E)) (hK : P.underlying K = some .string) (hb : w.heap[r]? = some (mapS M clock)) :
  (Instr.mapUpdate T (.map (some r)) (str d) v).run P w = .ok () { w with heap := w.heap.setIfInBounds r (mapS (putMS d v clock M) (putCS d clock M)) } := by
 have h1 := run_findKeyS (M := M) (d := d) (w := w) hK
 have h2 := run_keyOkS (d := d) (w := w) hK false
 have hg := MapKept.run_getObj_map (P := P) hb
 simp only [Instr.mapUpdate, Sem.run_bind, run_underlying ht, Result.andThen_ok, hg, h2, h1]
 cases hf : findS d M 0 with
 | none =>
  simp only [MapKept.run_setObj_map _ hb]
  simp [putMS, putCS, hf, mapS, entsS, entS]
 | some p =>
  obtain ⟨j, u⟩ := p
  have hobt := entsS_modify (v := v) hf
  obtain ⟨hm, hk⟩ := hobt
  have hk' : ((entsS M).toArray[j]?.map (·.key)).getD (str d) = str d := by
   rw [List.getElem?_toArray, hk]; rfl
  have hsb : Instr.sameBits 10000 (str d) (str d) = true := by
   show ((⟨⟨d⟩⟩ : ByteArray) == ⟨⟨d⟩⟩) = true
   rw [str_beq]
   simp
  have hs : (Instr.keyThatStays (((entsS M).toArray[j]?.map (·.key)).getD (str d)) (str d)).run P w = .ok (str d) w := by
   rw [hk', Instr.keyThatStays, if_pos hsb]; rfl
  simp only [Sem.run_bind, hs, Result.andThen_ok, MapKept.run_setObj_map _ hb]
  have e : (entsS M).toArray.modify j (fun e => { e with key := str d, val := v }) = (entsS (updS d v M)).toArray := by
   rw [← hm]
   apply Array.ext'
   simp
  simp [putMS, putCS, hf, mapS, e]
theorem Step.setOS {b : Nat} {o : Obj} (h : Step S ((b, o) :: L) w0 w) (o' : Obj) : Step S ((b, o') :: L) w0 { w with heap := w.heap.setIfInBounds b o' } := by
 have hb := h.has (b, o) (by simp)
 have hlt := lt_of_get hb
 have hc : Step ([(b, o)].map (·.1)) [(b, o')] w { w with heap := w.heap.setIfInBounds b o' } := by
  refine ⟨⟨rfl, rfl, rfl, by simp, fun k hk hn => ?_, Nat.le_refl _⟩, by simp, ?_, by simp⟩
  ·have hne : b ≠ k := fun e => hn (by simp [e])
   simp [Array.getElem?_setIfInBounds, hne]
  ·intro p hp
   simp at hp
   subst hp
   simp [hlt]
 exact Step.call (L1 := [(b, o)]) h hc
theorem WL.mapPutS (ht : P.underlying T = some (.map K E)) (hK : P.underlying K = some .string) (hx : ev f x = .map (some r)) (hk : ev f k = str d) (hy : ev f y = v)
  (hs : Step S ((r, mapS M clock) :: L) w0 w) (h : ∀ w', Step S ((r, mapS (putMS d v clock M) (putCS d clock M)) :: L) w0 w' → WL P ops Q n rest f ds w') :
  WL P ops Q n (⟨none, .mapUpdate T x k y, ty, pos, af, none⟩ :: rest) f ds w := by
 refine WL.skip ?_ (h _ (hs.setOS _))
 have h1 := run_putS (v := v) (d := d) ht hK hs.hd
 simp only [execOp, hx, hk, hy, Sem.run_bind, h1, Result.andThen_ok]
 rfl
theorem WL.mapInsS (ht : P.underlying T = some (.map K E)) (hK : P.underlying K = some .string) (hx : ev f x = .map (some r)) (hk : ev f k = str d) (hy : ev f y = v)
  (hs : Step S ((r, mapS M clock) :: L) w0 w) (h : ∀ w', Step S ((r, mapS (putMS d v clock M) (putCS d clock M)) :: L) w0 w' → WL P ops Q n rest f ds w') :
  WL P ops Q n (⟨none, .insert T x k y, ty, pos, af, none⟩ :: rest) f ds w := by
 refine WL.skip ?_ (h _ (hs.setOS _))
 have h1 := run_putS (v := v) (d := d) ht hK hs.hd
 simp only [execOp, hx, hk, hy, Sem.run_bind, h1, Result.andThen_ok]
 rfl
theorem WL.makeMapS {d : Nat} (hd : Nat.blt d n = true) (hs : Step S L w0 w) (h : ∀ b w', Step S ((b, mapS [] 0) :: L) w0 w' → WL P ops Q n rest (upd f d (.map (some b))) ds w') :
  WL P ops Q n (⟨some d, .makeMap T none, ty, pos, af, none⟩ :: rest) f ds w := by
 refine wV hd (v := .map (some w.heap.size)) (w' := w.alloc (mapS [] 0)) ?_ (h _ _ (hs.alloc _))
 simp [execOp, Instr.makeMap, newObj]
 rfl
end
structure BornS (M : List SEnt) (clock : Nat) : Prop where
 lt : ∀ p ∈ M, p.2.2 < clock
 nodup : (M.map (·.2.2)).Nodup
def iterS (m since : Nat) (done : List SEnt) : Obj := .mapIter (some m) since (List.map (fun (p : SEnt) => p.2.2) done).toArray since
section
variable {P : Program} {w : World} {r m clock : Nat} {M done left : List SEnt}
theorem leftOf_memS {M : List SEnt} {seen : Array Nat} {e : MapEntry} : e ∈ (leftOf (entsS M).toArray seen).toList ↔ ∃ p ∈ M, e = entS p ∧ p.2.2 ∉ seen := by
 simp only [leftOf, entsS, Array.toList_filter, List.mem_filter, List.mem_map]
 constructor
 ·rintro ⟨⟨p, hp, rfl⟩, h⟩
  exact ⟨p, hp, rfl, by simpa [entS] using h⟩
 ·rintro ⟨p, hp, rfl, h⟩
  exact ⟨⟨p, hp, rfl⟩, by simpa [entS] using h⟩
theorem born_partedS (hB : BornS M clock) (hp : (done ++ left).Perm M) {p : SEnt} (hm : p ∈ M) : p.2.2 ∉ (List.map (fun (p : SEnt) => p.2.2) done).toArray ↔ p ∈ left := by
 have hn : ((done ++ left).map (·.2.2)).Nodup := (hp.map _).nodup_iff.2 hB.nodup
 rw [List.map_append, List.nodup_append] at hn
 have hin := hp.mem_iff.2 hm
 rw [List.mem_append] at hin
 constructor
 ·intro h
  rcases hin with h1 | h1
  ·exact absurd (by simpa using ⟨p.1, p.2.1, h1⟩) h
  ·exact h1
 ·intro h hd
  have hd' : p.2.2 ∈ done.map (·.2.2) := by simpa using hd
  exact hn.2.2 _ hd' _ (List.mem_map_of_mem h) rfl
theorem run_nextS (ty : TypeId) (hB : BornS M clock) (hr : w.heap[r]? = some (iterS m clock done)) (hm : w.heap[m]? = some (mapS M clock)) (hp : (done ++ left).Perm M) :
  (left = [] ∧ (Instr.next (.pointer (some ⟨r, 0, none⟩)) false ty).run P w = .ok (.tuple #[.bool false]) w) ∨
  ∃ p left' w1, left.Perm (p :: left') ∧ (w1 = w ∨ w1 = w.drew) ∧ (Instr.next (.pointer (some ⟨r, 0, none⟩)) false ty).run P w = .ok (.tuple #[.bool true, str p.1, p.2.1]) { w1 with heap := w1.heap.setIfInBounds r (iterS m clock (done ++ [p])) } := by
 have hold : ∀ x ∈ (entsS M).toArray.toList, x.born < clock := by
  intro x hx
  simp only [entsS, List.mem_map] at hx
  obtain ⟨p, hp, rfl⟩ := hx
  exact hB.lt p hp
 rcases run_next_at (P := P) w ty r m clock clock (List.map (fun (p : SEnt) => p.2.2) done).toArray (entsS M).toArray clock hr hm hold (Nat.le_refl _) with ⟨h0, h⟩ | ⟨e, he, w1, hw, h⟩
 ·refine .inl ⟨?_, h⟩
  cases hl : left with
  | nil => rfl
  | cons q l =>
   have hq : q ∈ M := hp.mem_iff.1 (by rw [hl]; simp)
   have h1 := (born_partedS hB hp hq).2 (by rw [hl]; simp)
   have h2 : entS q ∈ (leftOf (entsS M).toArray (List.map (fun (p : SEnt) => p.2.2) done).toArray).toList := leftOf_memS.2 ⟨q, hq, rfl, h1⟩
   have h3 : (leftOf (entsS M).toArray (List.map (fun (p : SEnt) => p.2.2) done).toArray).toList = [] := by
    apply List.eq_nil_of_length_eq_zero; simpa using h0
   rw [h3] at h2
   cases h2
 ·have hobt := leftOf_memS.1 he
  obtain ⟨p, hpm, rfl, hns⟩ := hobt
  have hl := (born_partedS hB hp hpm).1 hns
  have hobt := List.append_of_mem hl
  obtain ⟨a, b, rfl⟩ := hobt
  refine .inr ⟨p, a ++ b, w1, List.perm_middle, hw, ?_⟩
  rw [h]
  simp [ChangeMaps.setBlock, iterS, entS]
theorem run_entryAtS (hB : BornS M clock) {p : SEnt} (hr : w.heap[r]? = some (iterS m clock (done ++ [p]))) (hm : w.heap[m]? = some (mapS M clock)) (hp : p ∈ M) :
  (Instr.entry (.pointer (some ⟨r, 0, none⟩))).run P w = .ok (.tuple #[str p.1, p.2.1]) w := by
 have h := run_entry_at (P := P) w r m clock (List.map (fun (p : SEnt) => p.2.2) done).toArray (entsS M).toArray clock (entS p) (by rw [hr]; simp [iterS, entS]) hm (by simp only [entsS]; exact List.mem_map_of_mem hp) (by simpa [entsS, entS, Function.comp_def] using hB.nodup)
 exact h
end
section
variable {P : Program} {ops : Array Oper} {n d : Nat} {rest : List Oper} {f : Slots} {ds : List Deferred} {w w0 : World} {S : List Nat} {L : List (Nat × Obj)} {Q : Post} {ty : TypeId} {pos : String} {af : Array Edge} {x : Operand} {T K E : TypeId} {m clock it : Nat} {M done left : List SEnt} {dd : Option Tmp}
theorem WL.rangeS2 (ht : P.underlying T = some (.map K E)) (hx : ev f x = .map (some m)) (hm : w.heap[m]? = some (mapS M clock)) (hd : Nat.blt d n = true) (hs : Step S L w0 w)
  (h : ∀ b w', Step S ((b, iterS m clock []) :: L) w0 w' → WL P ops Q n rest (upd f d (.pointer (some ⟨b, 0, none⟩))) ds w') : WL P ops Q n (⟨some d, .range T x, ty, pos, af, none⟩ :: rest) f ds w := by
 refine wV hd (v := .pointer (some ⟨w.heap.size, 0, none⟩)) (w' := w.alloc (iterS m clock [])) ?_ (h _ _ (hs.alloc _))
 have hg := MapKept.run_getObj_map (P := P) hm
 simp [execOp, hx, Instr.range, run_underlying ht, hg, iterS]
theorem WL.nextS2 (hx : ev f x = .pointer (some ⟨it, 0, none⟩)) (hd : Nat.blt d n = true) (hs : Step S ((it, iterS m clock done) :: L) w0 w) (hm : w.heap[m]? = some (mapS M clock)) (hB : BornS M clock) (hp : (done ++ left).Perm M) (hne : left ≠ [])
  (h : ∀ p left' w', left.Perm (p :: left') → ((done ++ [p]) ++ left').Perm M → Step S ((it, iterS m clock (done ++ [p])) :: L) w0 w' → WL P ops Q n rest (upd f d (.tuple #[.bool true, str p.1, p.2.1])) ds w') :
  WL P ops Q n (⟨some d, .next x false, ty, pos, af, none⟩ :: rest) f ds w := by
 rcases run_nextS (P := P) ty hB hs.hd hm hp with ⟨h0, _⟩ | ⟨p, left', w1, hl, hw, hrun⟩
 ·exact absurd h0 hne
 ·have hs1 : Step S ((it, iterS m clock done) :: L) w0 w1 := by rcases hw with rfl | rfl; exact hs; exact hs.drew
  have hp' : ((done ++ [p]) ++ left').Perm M := by
   rw [List.append_assoc]
   exact (hl.symm.append_left done).trans hp
  refine wV hd ?_ (h p left' _ hl hp' (hs1.setOS _))
  simp only [execOp, hx, Sem.run_bind, hrun, Result.andThen_ok]
  rfl
theorem run_nextSEnd (hx : ev f x = .pointer (some ⟨it, 0, none⟩)) (hr : w.heap[it]? = some (iterS m clock done)) (hm : w.heap[m]? = some (mapS M clock)) (hB : BornS M clock) (hp : (done ++ []).Perm M) :
  (execOp (ev f) ⟨dd, .next x false, ty, pos, af, none⟩).run P w = .ok (.value (.tuple #[.bool false])) w := by
 rcases run_nextS (P := P) ty hB hr hm hp with ⟨h0, h⟩ | ⟨p, left', w1, hl, hw, hrun⟩
 ·simp only [execOp, hx, Sem.run_bind, h, Result.andThen_ok]
  rfl
 ·simp at hl
theorem run_entryS (hx : ev f x = .pointer (some ⟨it, 0, none⟩)) {p : SEnt} (hr : w.heap[it]? = some (iterS m clock (done ++ [p]))) (hm : w.heap[m]? = some (mapS M clock)) (hB : BornS M clock) (hp : p ∈ M) :
  (execOp (ev f) ⟨dd, .entry x, ty, pos, af, none⟩).run P w = .ok (.value (.tuple #[str p.1, p.2.1])) w := by
 have h := run_entryAtS (P := P) hB hr hm hp
 simp only [execOp, hx, Sem.run_bind, h, Result.andThen_ok]
 rfl
end
end Go.Gx
