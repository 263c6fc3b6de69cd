/- Regions that draw their order: quiet operations (also quiet calls) ahead of a tail in one forced order. No program in sight. The road is the kit's StillTail, at a class of worlds. Slices of their own, grown in turns. No program in sight. Lists that were handed out, written full and grown in turns: walked. Bytes that were handed out, written full and grown in turns: walked. found, moved: walked. NodeOwn, walked. NodeOwn, walked: the whole. NodeOwnSaid: what is answered is new memory, spare room too, of no argument, and of no answer ahead; the same memory with something else in it is another question: the law returns true, the arguments read as they did; no condition. -/
import Derived.Test.YtkdmkjlchlcebaaEff
import Derived.StillTail
import Derived.Test.YtkdmkjlchlcebaaS1
import Derived.Test.YtkdmkjlchlcebaaNBack
import Derived.Test.YtkdmkjlchlcebaaFrame2
/-! QTail -/
namespace Go.Gx
set_option linter.unusedVariables false
set_option linter.unusedSimpArgs false

section qtail
variable {P : Program} {ops : Array Oper} {md : Region.Mode} {C : World → Prop}

def wpAnyH (P : Program) (md : Region.Mode) (ops : Array Oper) (C : World → Prop) (n : Nat) (L : Array Bool → Act → Prop) : Nat → Array Bool → Act → Prop
  | 0, listed, a => L listed a
  | f + 1, listed, a => Region.ready md ops listed ≠ [] ∧ ∀ i ∈ Region.ready md ops listed, i < n ∧ qOp P ops C i (wpAnyH P md ops C n L f (listed.setIfInBounds i true)) a

theorem wpAnyH.out {n g : Nat} {L : Array Bool → Act → Prop} {Q' : Exit → Act → World → Prop} (hL : ∀ listed a w, C w → L listed a → wpAny P md ops Q' g listed a w) :
    ∀ (f : Nat) (listed : Array Bool) (a : Act) (w : World), C w → wpAnyH P md ops C n L f listed a → wpAny P md ops Q' (f + g) listed a w
  | 0, listed, a, w, hw, h => by rw [Nat.zero_add]; exact hL _ _ _ hw h
  | f + 1, listed, a, w, hw, h => by
    rw [show f + 1 + g = (f + g) + 1 by omega]
    exact ⟨fun h0 => absurd h0 h.1, fun i hi => wpOp_of_qOp hw (fun a' w' hw' h' => wpAnyH.out hL f _ a' w' hw' h') (h.2 i hi).2⟩

theorem wpAnyH.first {n i : Nat} {oi : Oper} {v : Value} {L : Array Bool → Act → Prop} (hi : ops[i]? = some oi) (hsel : ∀ (j : Nat) (o : Oper) cs b, ops[j]? = some o → o.op ≠ .select cs b)
    (hs : Region.sinkB md ops n = true) (hc : Region.chainB md ops n = true) (hn : n < ops.size) (hin : i < n)
    (hdone : ∀ listed a, L listed a → ∀ j ∈ Region.ready md ops listed, n ≤ j) :
    ∀ (f : Nat) (listed : Array Bool) (a : Act), HeadInv md ops n listed →
      (∀ j oj, ops[j]? = some oj → j ≠ i → listed.getD j true = false → (∀ e ∈ oj.after, Region.binds md e = true → e.on ≠ i) → oi.apart ops oj = true) →
      i ∈ Region.ready md ops listed → YieldsIn P ops C oi v a →
      wpAnyH P md ops C n L f (listed.setIfInBounds i true) (a.put oi.dst v) → wpAnyH P md ops C n L (f + 1) listed a := by
  intro f
  induction f with
  | zero =>
    intro listed a inv _ hr hy H
    refine ⟨fun h => (by rw [h] at hr; cases hr), fun j hj => ?_⟩
    have hjn : j < n := by
      rcases Nat.lt_or_ge j n with h | h
      · exact h
      · exact absurd hj (tail_waits hs hc hn inv _ i rfl hin (mem_ready.1 hr).1 j h)
    refine ⟨hjn, ?_⟩
    by_cases hji : j = i
    · subst hji; exact hy.qOp hi H
    · have := hdone _ _ H j (ready_mono hj hji)
      omega
  | succ f ih =>
    intro listed a inv hfree hr hy H
    have hun := (mem_ready.1 hr).1
    refine ⟨fun h => (by rw [h] at hr; cases hr), fun j hj => ?_⟩
    have hjn : j < n := by
      rcases Nat.lt_or_ge j n with h | h
      · exact h
      · exact absurd hj (tail_waits hs hc hn inv _ i rfl hin hun j h)
    refine ⟨hjn, ?_⟩
    by_cases hji : j = i
    · subst hji; exact hy.qOp hi H
    · have h1 := (H.2 j (ready_mono hj hji)).2
      have hobt := mem_ready.1 hj
      obtain ⟨hjun, oj, hoj, hall⟩ := hobt
      have hnot : ∀ e ∈ oj.after, Region.binds md e = true → e.on ≠ i := fun e he hb heq => by
        have h1 := hall e he hb
        rw [heq, getD_both hun] at h1
        cases h1
      have h2 := qOp_put hoj (hfree j oj hoj hji hjun hnot) (fun cs b => hsel i oi cs b hi) (fun cs b => hsel j oj cs b hoj) hy h1
      have hfree' : ∀ k ok, ops[k]? = some ok → k ≠ i → (listed.setIfInBounds j true).getD k true = false →
          (∀ e ∈ ok.after, Region.binds md e = true → e.on ≠ i) → oi.apart ops ok = true := fun k ok hk hki hun' hno => by
        refine hfree k ok hk hki ?_ hno
        by_cases hjk : j = k
        · subst hjk; exact hjun
        · rw [getD_set_ne true hjk] at hun'; exact hun'
      refine qOp_mono (fun a' h3 => ih (listed.setIfInBounds j true) a' (inv.set hj hjn) hfree' (ready_mono hr (Ne.symm hji)) h3.1 ?_) h2
      rw [Array.setIfInBounds_comm _ _ hji]
      exact h3.2

theorem wpAnyH.lex {n g : Nat} {Lq : Act → Prop} (hsel : Region.noSelect ops = true) (hs : Region.sinkB md ops n = true) (hc : Region.chainB md ops n = true) (hn : n < ops.size) :
    ∀ (l : List Oper) (k : Nat) (listed : Array Bool) (a : Act), (∀ j, j < l.length → l[j]? = ops[k + j]?) → k + l.length = n → HeadInv md ops n listed →
    Region.lexHead md ops g l.length k listed = true → wpQuiet P ops C Lq l a →
    wpAnyH P md ops C n (fun listed' a' => Region.seqB md ops g n listed' = true ∧ Lq a') l.length listed a
  | [], k, listed, a, _, hk, _, hB, h => by
    have : k = n := by simpa using hk
    subst this
    exact ⟨by simpa [Region.lexHead] using hB, h⟩
  | o :: l, k, listed, a, hl, hk, inv, hB, h => by
    have h0 : ops[k]? = some o := by simpa using (hl 0 (by simp)).symm
    simp only [List.length_cons, Region.lexHead, Bool.and_eq_true] at hB
    obtain ⟨⟨hr, hf⟩, hB'⟩ := hB
    have hkn : k < n := by simp only [List.length_cons] at hk; omega
    have hr' : k ∈ Region.ready md ops listed := by simpa using hr
    have hst : qOp P ops C k (wpQuiet P ops C Lq l) a := by unfold qOp; simp only [h0]; exact h
    have hobt := yieldsIn_of_qOp h0 hst
    obtain ⟨v, hy, hK⟩ := hobt
    exact wpAnyH.first h0 (Region.noSelect_spec hsel) hs hc hn hkn (fun listed' a' hL => seqB_ready hL.1) l.length listed a inv (Region.free_spec h0 hf) hr' hy
      (wpAnyH.lex hsel hs hc hn l (k + 1) _ _ (fun j hj => by have := hl (j + 1) (by simp; omega); simpa [Nat.add_assoc, Nat.add_comm 1 j] using this) (by simp only [List.length_cons] at hk; omega) (inv.set hr' hkn) hB' hK)

theorem wp_region_quiet_tail {id : Nat} {Q : Exit → Act → World → Prop} {a : Act} {w : World} {l1 l2 : List Oper} (n : Nat) (hm : P.follows .mixedOrders = true) (hl : l1.length = n) (hB : Region.lexTailB .any (l1 ++ l2).toArray n = true)
    (hC : C w.drew) (h : wpQuiet P (l1 ++ l2).toArray C (fun a' => ∀ w', C w' → wpList P (l1 ++ l2).toArray Q l2 a' w') l1 a) : (Code.region id (l1 ++ l2).toArray true).wp P Q a w := by
  simp only [Region.lexTailB, Bool.and_eq_true, decide_eq_true_eq] at hB
  obtain ⟨⟨⟨⟨hsel, hn⟩, hs⟩, hc⟩, hlex⟩ := hB
  have hdl : l2.length = (l1 ++ l2).toArray.size - n := by simp; omega
  have inv0 : HeadInv .any (l1 ++ l2).toArray n (Array.replicate (l1 ++ l2).toArray.size false) :=
    ⟨by simp, fun j oj _ hl => (by rw [getD_replicate_false] at hl; cases hl), fun t _ ht => getD_in (by simpa using ht) (getD_replicate_false _ _)⟩
  have H := wpAnyH.lex (md := .any) (g := (l1 ++ l2).toArray.size - n) hsel hs hc hn l1 0 _ a (fun j hj => by
    simp [List.getElem?_append_left hj]) (by simpa using hl) inv0 (by rw [hl]; exact hlex) h
  refine wp_region_any hm ?_
  have := wpAnyH.out (Q' := Q) (g := (l1 ++ l2).toArray.size - n) (fun listed a' w' hw' hL => by
    have := wpAny_of_seq (md := .any) (Q' := Q) l2 n listed a' w' (fun j => by rw [← hl]; simp [List.getElem?_append_right (Nat.le_add_right l1.length j)]) (by rw [hdl]; exact hL.1) (hL.2 w' hw')
    rwa [hdl] at this) _ _ _ _ hC H
  rw [hl, show n + ((l1 ++ l2).toArray.size - n) = (l1 ++ l2).toArray.size by omega] at this
  exact this
end qtail

section
variable {P : Program} {n : Nat} {f : Slots} {ds : List Deferred} {w w0 : World} {S : List Nat} {L : List (Nat × Obj)}
theorem CW.quietT {Q : Post} {id : Nat} {l1 l2 l : List Oper} (k : Nat) (he : l = l1 ++ l2) (hm : P.follows .mixedOrders = true) (hl : l1.length = k) (hB : Region.lexTailB .any l.toArray k = true) (hs : Step S L w0 w)
    (h : QL P l.toArray S L w0 (fun f' => ∀ w', Step S L w0 w' → WL P l.toArray Q n l2 f' ds w') n l1 f ds) : CW P (.region id l.toArray true) Q n f ds w :=
  ⟨fun a ha => by
    subst he
    refine wp_region_quiet_tail (C := fun w => Step S L w0 w) k hm hl hB hs.drew ?_
    have hmono : ∀ (l' : List Oper) (a : Act), wpQuiet P (l1 ++ l2).toArray (fun w => Step S L w0 w) (fun a' => ∃ f', Rep n f' ds a' ∧ ∀ w', Step S L w0 w' → WL P (l1 ++ l2).toArray Q n l2 f' ds w') l' a → wpQuiet P (l1 ++ l2).toArray (fun w => Step S L w0 w) (fun a' => ∀ w', Step S L w0 w' → wpList P (l1 ++ l2).toArray (lift n Q) l2 a' w') l' a := by
      intro l'
      induction l' with
      | nil => exact fun a ⟨f', hr, hq⟩ w' hw' => (hq w' hw').out a hr
      | cons o l' ih =>
        intro a hh
        simp only [wpQuiet] at hh ⊢
        split
        · rename_i hw; rw [if_pos hw] at hh; exact Oper.quiet_mono ih hh
        · rename_i hw; rw [if_neg hw] at hh; exact ih _ hh
    exact hmono _ _ (h.out a ha)⟩
end
end Go.Gx
/-! Grow1 -/
namespace Go.Gx
set_option linter.unusedVariables false
set_option linter.unusedSimpArgs false
section
variable {P : Program} {ops : Array Oper} {Q : Post} {n : Nat} {rest : List Oper} {f : Slots} {ds : List Deferred} {w w0 : World} {ty : TypeId} {pos : String} {af : Array Edge} {d : Nat} {x y : Operand} {T : TypeId} {S : List Nat} {L : List (Nat × Obj)}
/-- A sequence with what holds between. -/
theorem CW.seqM {Q : Post} {x y : Code} (M : Slots → World → Prop) (h : CW P x (thenC (fun f' ds' w' => ds' = ds ∧ M f' w') Q) n f ds w) (hr : ∀ f' w', M f' w' → CW P y Q n f' ds w') : CW P (.seq x y) Q n f ds w :=
  CW.seq (h.mono fun e f' ds' w' hq => by
    cases e with
    | normal =>
      obtain ⟨rfl, hM⟩ := hq
      exact hr _ _ hM
    | exit id => exact hq
    | goto id => exact hq
    | ret => exact hq
    | panic ch => exact hq
    | outgrown => exact hq)
/-- What append yields, of our own slice: in its room, or in a new block: the old one stands. -/
theorem run_append2 {agg : Bool} {sz bytes k m : Nat} {zs xs ys : List Value} {E T' : TypeId} {v u : Value} {Lv : List (Nat × Obj)} (ht : P.underlying T = some (.slice E)) (hz' : SrcT P T') (hE : Ty P E agg sz bytes zs) (hzl : zs.length = sz) (hb0 : 0 < bytes)
    (hv : OwnSl E sz v k xs Lv) (hs : Step S (Lv ++ L) w0 w) (hul : (Builtin.lenOf u).run P w = .ok m w) (hu : (Builtin.firstCells sz m u).run P w = .ok ys.toArray w) (hud : (Builtin.firstCells sz m u).run P w.drew = .ok ys.toArray w.drew) (hly : ys.length = m * sz) (hc1 : Cells1 ys) (hroom : (k + m) * bytes ≤ 140737488355328) (hm : 0 < m) :
    ∃ v' w', (Builtin.append_ #[T, T'] ty #[v, u]).run P w = .ok v' w' ∧ ((∃ b cap more more', v = .slice (some ⟨b, 0, none⟩) k cap ∧ v' = .slice (some ⟨b, 0, none⟩) (k + m) cap ∧ Lv = [(b, blk E (xs ++ more))] ∧ (xs ++ ys ++ more').length = cap * sz ∧ Step S ((b, blk E (xs ++ ys ++ more')) :: L) w0 w') ∨
      (∃ Lv', OwnSl E sz v' (k + m) (xs ++ ys) Lv' ∧ Step S (Lv' ++ (Lv ++ L)) w0 w')) := by
  have hsl := hv.sl hs
  obtain ⟨hl, hcase⟩ := hv
  obtain ⟨a, cap, rfl⟩ : ∃ a cap, v = .slice a k cap := by
    rcases hcase with ⟨rfl, rfl, rfl⟩ | ⟨b, cap, more, rfl, rfl, hcap⟩ <;> exact ⟨_, _, rfl⟩
  by_cases hfit : k + m ≤ cap
  · rcases hcase with ⟨h1, rfl, rfl⟩ | ⟨b, cap', more, h1, rfl, hcap⟩
    · injection h1 with h1 h2 h3
      omega
    · injection h1 with h1 h2 h3
      subst h1; subst h3
      have hlm : (xs ++ more).length = xs.length + more.length := by simp
      have hle : ys.length ≤ more.length := by
        have : (k + m) * sz ≤ cap * sz := Nat.mul_le_mul_right _ hfit
        rw [Nat.add_mul] at this
        omega
      have hst := run_storeCells (P := P) ys 0 (k * sz) b E (xs ++ more) w hs.hd (by rw [hlm]; omega) hc1
      refine ⟨.slice (some ⟨b, 0, none⟩) (k + m) cap, setRow w b (k * sz + 0) ys, ?_, .inl ⟨b, cap, more, more.drop ys.length, rfl, rfl, rfl, ?_, ?_⟩⟩
      · rw [run_append_in ht hz' hE hul hu hfit, hst]
        rfl
      · simp only [List.length_append, List.length_drop] at hcap ⊢
        omega
      · have := Step.row ys (k * sz) (xs ++ more) w hs (by rw [hlm]; omega)
        rw [← hl, splice_end xs more ys hle] at this
        rw [Nat.add_zero, ← hl]
        exact this
  · have hle : k + m ≤ grownCap w (k + m) cap E := by unfold grownCap Question.cut; exact Nat.le_add_right _ _
    refine ⟨_, _, run_append_new ht hz' hE hb0 hul hud (run_firstCells_drew hsl) (by omega) hroom, .inr ⟨[(w.heap.size, _)], ⟨by simp [hl, hly, Nat.add_mul], .inr ⟨_, _, _, rfl, rfl, ?_⟩⟩, hs.drew.alloc _⟩⟩
    simp only [List.length_append, List.length_flatten, List.map_replicate, List.sum_replicate_nat, hl, hly, hzl, ← Nat.add_mul]
    congr 1
    omega
/-- Two slices: one as it was handed out, with marks in it; the other the same, grown: in its room or apart. -/
def Tw (E : TypeId) (sz : Nat) (v u : Value) (n j : Nat) (ms gs : List Value) (L : List (Nat × Obj)) : Prop :=
  ms.length = n * sz ∧ gs.length = j * sz ∧
  ((∃ b cap room, v = .slice (some ⟨b, 0, none⟩) n cap ∧ u = .slice (some ⟨b, 0, none⟩) (n + j) cap ∧ L = [(b, blk E (ms ++ gs ++ room))] ∧ (ms ++ gs ++ room).length = cap * sz) ∨
   (∃ Lo Lu, L = Lo ++ Lu ∧ OwnSl E sz v n ms Lo ∧ OwnSl E sz u (n + j) (ms ++ gs) Lu))
theorem Tw.start {E sz : Nat} {v : Value} {n : Nat} {ms : List Value} (h : OwnSl E sz v n ms L) : Tw E sz v v n 0 ms [] L := by
  obtain ⟨hl, ⟨rfl, rfl, rfl⟩ | ⟨b, cap, more, rfl, rfl, hc⟩⟩ := h
  · exact ⟨hl, by simp, .inr ⟨[], [], rfl, ⟨hl, .inl ⟨rfl, rfl, rfl⟩⟩, ⟨by simpa using hl, .inl ⟨rfl, rfl, rfl⟩⟩⟩⟩
  · exact ⟨hl, by simp, .inl ⟨b, cap, more, rfl, rfl, by simp, by simpa using hc⟩⟩
theorem OwnSl.slH {E sz : Nat} {v : Value} {k : Nat} {xs : List Value} {Lv : List (Nat × Obj)} {w : World} (h : OwnSl E sz v k xs Lv) (hw : ∀ p ∈ Lv, w.heap[p.1]? = some p.2) : Sl w sz v k xs := by
  obtain ⟨hl, ⟨rfl, rfl, rfl⟩ | ⟨b, cap, more, rfl, rfl, hc⟩⟩ := h
  · exact ⟨hl, .inl ⟨none, 0, rfl, rfl⟩⟩
  · exact .mk hl (At.of_blk (hw (b, blk E (xs ++ more)) (by simp))).left
theorem Tw.left {E sz : Nat} {v u : Value} {n j : Nat} {ms gs : List Value} (h : Tw E sz v u n j ms gs L) (hw : ∀ p ∈ L, w.heap[p.1]? = some p.2) : Sl w sz v n ms := by
  obtain ⟨h1, h2, ⟨b, cap, room, rfl, rfl, rfl, hc⟩ | ⟨Lo, Lu, rfl, ho, hu⟩⟩ := h
  · have := At.of_blk (hw (b, blk E (ms ++ gs ++ room)) (by simp))
    rw [List.append_assoc] at this
    exact .mk h1 this.left
  · exact ho.slH fun p hp => hw p (by simp [hp])
theorem Tw.right {E sz : Nat} {v u : Value} {n j : Nat} {ms gs : List Value} (h : Tw E sz v u n j ms gs L) (hw : ∀ p ∈ L, w.heap[p.1]? = some p.2) : Sl w sz u (n + j) (ms ++ gs) := by
  obtain ⟨h1, h2, ⟨b, cap, room, rfl, rfl, rfl, hc⟩ | ⟨Lo, Lu, rfl, ho, hu⟩⟩ := h
  · exact .mk (by rw [List.length_append, h1, h2, Nat.add_mul]) (At.of_blk (hw (b, blk E (ms ++ gs ++ room)) (by simp))).left
  · exact hu.slH fun p hp => hw p (by simp [hp])
theorem Tw.formL {E sz : Nat} {v u : Value} {n j : Nat} {ms gs : List Value} (h : Tw E sz v u n j ms gs L) : ∃ a c, v = .slice a n c := by
  obtain ⟨h1, h2, ⟨b, cap, room, rfl, rfl, rfl, hc⟩ | ⟨Lo, Lu, rfl, ho, hu⟩⟩ := h
  · exact ⟨_, _, rfl⟩
  · exact ho.form
theorem Tw.formR {E sz : Nat} {v u : Value} {n j : Nat} {ms gs : List Value} (h : Tw E sz v u n j ms gs L) : ∃ a c, u = .slice a (n + j) c := by
  obtain ⟨h1, h2, ⟨b, cap, room, rfl, rfl, rfl, hc⟩ | ⟨Lo, Lu, rfl, ho, hu⟩⟩ := h
  · exact ⟨_, _, rfl⟩
  · exact hu.form
theorem Tw.oneR {E sz : Nat} {v u : Value} {n j : Nat} {ms gs : List Value} (h : Tw E sz v u n j ms gs L) : u.oneCell' = true := by
  have hobt := h.formR
  obtain ⟨a, c, rfl⟩ := hobt
  rfl
/-- append(u, e...), u the grown one. -/
theorem WL.appendTw {agg : Bool} {sz bytes k j m : Nat} {zs ms gs ys : List Value} {E T' : TypeId} {v u e : Value} {L1 : List (Nat × Obj)} (ht : P.underlying T = some (.slice E)) (ht' : P.underlying T' = some (.slice E)) (hE : Ty P E agg sz bytes zs) (hzl : zs.length = sz) (hb0 : 0 < bytes)
    (hx : ev f x = u) (hy : ev f y = e) (hv : Tw E sz v u k j ms gs L1) (hs : Step S (L1 ++ L) w0 w) (hu : Sl w sz e m ys) (hm : 0 < m) (hc1 : Cells1 ys) (hroom : (k + j + m) * bytes ≤ 140737488355328) (hd : Nat.blt d n = true)
    (h : ∀ u' L1' w', Tw E sz v u' k (j + m) ms (gs ++ ys) L1' → Step S (L1' ++ L) w0 w' → WL P ops Q n rest (upd f d u') ds w') :
    WL P ops Q n (⟨some d, .call { callee := .builtin .append, args := #[x, y], argTypes := #[T, T'] }, ty, pos, af, none⟩ :: rest) f ds w := by
  have hly := hu.1
  obtain ⟨h1, h2, ⟨b, cap, room, rfl, rfl, rfl, hc⟩ | ⟨Lo, Lu, rfl, ho, hu2⟩⟩ := hv
  · have hown : OwnSl E sz (.slice (some ⟨b, 0, none⟩) (k + j) cap) (k + j) (ms ++ gs) [(b, blk E (ms ++ gs ++ room))] := ⟨by rw [List.length_append, h1, h2, Nat.add_mul], .inr ⟨b, cap, room, rfl, rfl, hc⟩⟩
    have hobt := run_append2 (ty := ty) ht (.inl ⟨E, ht'⟩) hE hzl hb0 hown hs (run_lenOf hu) (run_firstCells hu) (run_firstCells_drew hu) hu.1 hc1 hroom hm
    obtain ⟨v', w', hr, hcase⟩ := hobt
    have hrun : (execOp (ev f) ⟨some d, .call { callee := .builtin .append, args := #[x, y], argTypes := #[T, T'] }, ty, pos, af, none⟩).run P w = .ok (.value v') w' := by
      simp [execOp, hx, hy, resolve, invoke, builtin, hr]
    rcases hcase with ⟨b', cap', more, more', e1, rfl, e3, e4, hst⟩ | ⟨Lv', hv', hst⟩
    · obtain ⟨rfl, rfl⟩ : b = b' ∧ cap = cap' := by
        injection e1 with e1 _ e2
        injection e1 with e1
        injection e1 with e1
        exact ⟨e1, e2⟩
      refine WL.val hd hrun (h _ [(b, blk E (ms ++ (gs ++ ys) ++ more'))] w' ⟨h1, by rw [List.length_append, h2, hly, Nat.add_mul], .inl ⟨b, cap, more', rfl, by rw [Nat.add_assoc], rfl, by rw [← e4]; simp [List.append_assoc]⟩⟩ ?_)
      simpa [List.append_assoc] using hst
    · refine WL.val hd hrun (h _ ([(b, blk E (ms ++ gs ++ room))] ++ Lv') w' ⟨h1, by rw [List.length_append, h2, hly, Nat.add_mul], .inr ⟨[(b, blk E (ms ++ gs ++ room))], Lv', rfl, ⟨h1, .inr ⟨b, cap, gs ++ room, rfl, by rw [List.append_assoc], by rw [← hc, List.append_assoc]⟩⟩, ?_⟩⟩ ?_)
      · rw [← Nat.add_assoc, ← List.append_assoc]
        exact hv'
      · refine hst.perm ?_
        rw [List.append_assoc]
        exact List.perm_append_comm_assoc _ _ _
  · have hs2 : Step S (Lu ++ (Lo ++ L)) w0 w := hs.perm (by
      rw [List.append_assoc]
      exact List.perm_append_comm_assoc _ _ _)
    have hobt := run_append2 (ty := ty) ht (.inl ⟨E, ht'⟩) hE hzl hb0 hu2 hs2 (run_lenOf hu) (run_firstCells hu) (run_firstCells_drew hu) hu.1 hc1 hroom hm
    obtain ⟨v', w', hr, hcase⟩ := hobt
    have hrun : (execOp (ev f) ⟨some d, .call { callee := .builtin .append, args := #[x, y], argTypes := #[T, T'] }, ty, pos, af, none⟩).run P w = .ok (.value v') w' := by
      simp [execOp, hx, hy, resolve, invoke, builtin, hr]
    have fin : ∀ Lv', OwnSl E sz v' (k + j + m) (ms ++ gs ++ ys) Lv' → Step S (Lv' ++ (Lo ++ L)) w0 w' → WL P ops Q n rest (upd f d v') ds w' := fun Lv' hv' hst => by
      refine h _ (Lo ++ Lv') w' ⟨h1, by rw [List.length_append, h2, hly, Nat.add_mul], .inr ⟨Lo, Lv', rfl, ho, ?_⟩⟩ ?_
      · rw [← Nat.add_assoc, ← List.append_assoc]
        exact hv'
      · refine hst.perm ?_
        rw [List.append_assoc]
        exact List.perm_append_comm_assoc _ _ _
    rcases hcase with ⟨b', cap', more, more', e1, rfl, e3, e4, hst⟩ | ⟨Lv', hv', hst⟩
    · exact WL.val hd hrun (fin [(b', blk E (ms ++ gs ++ ys ++ more'))] ⟨by rw [List.length_append, List.length_append, h1, h2, hly, Nat.add_mul, Nat.add_mul], .inr ⟨b', cap', more', rfl, rfl, e4⟩⟩ hst)
    · refine WL.val hd hrun (fin Lv' hv' ?_)
      have h3 : Step S (Lu ++ (Lv' ++ (Lo ++ L))) w0 w' := hst.perm (List.perm_append_comm_assoc _ _ _)
      exact Step.dropL h3
end
section
variable {Ls : Nat → List (Nat × Obj)} {A B X : List (Nat × Obj)} {i N : Nat} {S : List Nat} {w0 w : World}
theorem flatMap_congr' {α β : Type} {f g : α → List β} : ∀ {l : List α}, (∀ a ∈ l, f a = g a) → l.flatMap f = l.flatMap g
  | [], _ => rfl
  | a :: l, h => by
    rw [List.flatMap_cons, List.flatMap_cons, h a (by simp), flatMap_congr' fun b hb => h b (by simp [hb])]
def allL (Ls : Nat → List (Nat × Obj)) (N : Nat) : List (Nat × Obj) := (List.range N).flatMap Ls
def othL (Ls : Nat → List (Nat × Obj)) (i N : Nat) : List (Nat × Obj) := ((List.range N).filter (· != i)).flatMap Ls
def putL (Ls : Nat → List (Nat × Obj)) (i : Nat) (X : List (Nat × Obj)) (k : Nat) : List (Nat × Obj) := if k = i then X else Ls k
theorem allL_perm (h : i < N) : (allL Ls N).Perm (Ls i ++ othL Ls i N) := by
  have h1 : (List.range N).Perm (i :: (List.range N).erase i) := List.perm_cons_erase (by simpa using h)
  rw [List.Nodup.erase_eq_filter List.nodup_range] at h1
  exact h1.flatMap_right Ls
theorem othL_put : othL (putL Ls i X) i N = othL Ls i N := by
  unfold othL
  apply flatMap_congr'
  intro k hk
  have : k ≠ i := by simpa using (List.mem_filter.1 hk).2
  simp [putL, this]
theorem allL_mem {p : Nat × Obj} (h : i < N) (hp : p ∈ Ls i) : p ∈ allL Ls N := List.mem_flatMap.2 ⟨i, by simpa using h, hp⟩
theorem allL_succ : allL Ls (N + 1) = allL Ls N ++ Ls N := by simp [allL, List.range_succ]
theorem allL_congr {Ls' : Nat → List (Nat × Obj)} (h : ∀ k, k < N → Ls k = Ls' k) : allL Ls N = allL Ls' N := flatMap_congr' fun k hk => h k (by simpa using hk)
theorem Step.openL (h : i < N) (hs : Step S (A ++ (allL Ls N ++ B)) w0 w) : Step S (Ls i ++ (A ++ (othL Ls i N ++ B))) w0 w := hs.perm (by
  have h1 := ((allL_perm (Ls := Ls) h).append_right B).append_left A
  have h2 : (A ++ (Ls i ++ othL Ls i N ++ B)).Perm (Ls i ++ (A ++ (othL Ls i N ++ B))) := by
    rw [List.append_assoc]
    exact List.perm_append_comm_assoc _ _ _
  exact h1.trans h2)
theorem Step.shutL (h : i < N) (hs : Step S (X ++ (A ++ (othL Ls i N ++ B))) w0 w) : Step S (A ++ (allL (putL Ls i X) N ++ B)) w0 w := hs.perm (by
  have h0 : putL Ls i X i = X := by simp [putL]
  have h1 := ((allL_perm (Ls := putL Ls i X) h).append_right B).append_left A
  rw [h0, othL_put] at h1
  have h2 : (A ++ (X ++ othL Ls i N ++ B)).Perm (X ++ (A ++ (othL Ls i N ++ B))) := by
    rw [List.append_assoc]
    exact List.perm_append_comm_assoc _ _ _
  exact (h1.trans h2).symm)
end
end Go.Gx
/-! Grow2 -/
namespace Go.Gx
open Go.Proofs
set_option linter.unusedVariables false
set_option linter.unusedSimpArgs false
set_option maxRecDepth 100000
section
variable {Ls : Nat → List (Nat × Obj)} {A X : List (Nat × Obj)} {i N : Nat} {S : List Nat} {w0 w : World}
theorem Step.openA (h : i < N) (hs : Step S (A ++ allL Ls N) w0 w) : Step S (Ls i ++ (A ++ othL Ls i N)) w0 w := by
  have := Step.openL (B := []) h (by rw [List.append_nil]; exact hs)
  rwa [List.append_nil] at this
theorem Step.shutA (h : i < N) (hs : Step S (X ++ (A ++ othL Ls i N)) w0 w) : Step S (A ++ allL (putL Ls i X) N) w0 w := by
  have := Step.shutL (B := []) h (by rw [List.append_nil]; exact hs)
  rwa [List.append_nil] at this
end
def gD (k : Nat) : List UInt8 := UInt8.ofNat k :: UInt8.ofNat (k / 256 ^ 1) :: List.replicate 30 0
def gA (k : Nat) : List UInt8 := UInt8.ofNat k :: List.replicate 31 0
def gE (i k : Nat) : Ent := ⟨[], 5000 + (i : Int), gD k⟩
def gF (i k : Nat) : Ent := ⟨[], -10 - (i : Int), gA k⟩
def gs1 (i n : Nat) : List Ent := (List.range n).map (gE i)
def gs2 (i n : Nat) : List Ent := (List.range n).map (gF i)
theorem gE_ok {i k : Nat} (h : i ≤ 1000000) : (gE i k).ok := ⟨by simp [gE, gD], by simp only [gE]; omega, by simp only [gE]; omega, by simp [gE]⟩
theorem gF_ok {i k : Nat} (h : i ≤ 1000000) : (gF i k).ok := ⟨by simp [gF, gA], by simp only [gF]; omega, by simp only [gF]; omega, by simp [gF]⟩
theorem gs1_ok {i n : Nat} (h : i ≤ 1000000) : Oks (gs1 i n) := fun x hx => by
  have hobt := List.mem_map.1 hx
  obtain ⟨k, _, rfl⟩ := hobt
  exact gE_ok h
theorem gs2_ok {i n : Nat} (h : i ≤ 1000000) : Oks (gs2 i n) := fun x hx => by
  have hobt := List.mem_map.1 hx
  obtain ⟨k, _, rfl⟩ := hobt
  exact gF_ok h
theorem gs1_len (i n : Nat) : (gs1 i n).length = n := by simp [gs1]
theorem gs2_len (i n : Nat) : (gs2 i n).length = n := by simp [gs2]
theorem gs1_rows {i n : Nat} (h : i ≤ 1000000) : (rows (gs1 i n)).length = n * 34 := by rw [rows_len (gs1_ok h), gs1_len]
theorem gs2_rows {i n : Nat} (h : i ≤ 1000000) : (rows (gs2 i n)).length = n * 34 := by rw [rows_len (gs2_ok h), gs2_len]
theorem gs1_succ (i n : Nat) : rows (gs1 i (n + 1)) = rows (gs1 i n) ++ (gE i n).cells := by
  rw [gs1, List.range_succ, List.map_append, rows_append, List.map_cons, List.map_nil, rows_one]; rfl
theorem gs2_succ (i n : Nat) : rows (gs2 i (n + 1)) = rows (gs2 i n) ++ (gF i n).cells := by
  rw [gs2, List.range_succ, List.map_append, rows_append, List.map_cons, List.map_nil, rows_one]; rfl
theorem bld_gD (a b : UInt8) (w : World) : (Instr.build 46 #[(0, .int .u8 a.toNat), (1, .int .u8 b.toNat)]).run Try.prog w = .ok (.agg (u8s (a :: b :: List.replicate 30 0)).toArray) w := by kernel_rfl
theorem bld_gA (a : UInt8) (w : World) : (Instr.build 46 #[(0, .int .u8 a.toNat)]).run Try.prog w = .ok (.agg (u8s (a :: List.replicate 31 0)).toArray) w := by kernel_rfl
theorem bld_gE (z : Int) (a b : UInt8) (w : World) : (Instr.build 48 #[(1, .int .i64 z), (2, .agg (u8s (a :: b :: List.replicate 30 0)).toArray)]).run Try.prog w = .ok (.agg (Ent.cells ⟨[], z, a :: b :: List.replicate 30 0⟩).toArray) w := by kernel_rfl
theorem bld_gF (z : Int) (a : UInt8) (w : World) : (Instr.build 48 #[(1, .int .i64 z), (2, .agg (u8s (a :: List.replicate 31 0)).toArray)]).run Try.prog w = .ok (.agg (Ent.cells ⟨[], z, a :: List.replicate 31 0⟩).toArray) w := by kernel_rfl
theorem gs_splice {i k : Nat} {Z more : List Value} (h : i ≤ 1000000) (hZ : 34 ≤ Z.length) : splice (rows (gs1 i k) ++ (Z ++ more)) (0 + k * 34) (gE i k).cells = rows (gs1 i (k + 1)) ++ (Z.drop 34 ++ more) := by
  have e : rows (gs1 i k) ++ (Z ++ more) = rows (gs1 i k) ++ Z.take 34 ++ (Z.drop 34 ++ more) := by
    rw [List.append_assoc, ← List.append_assoc (Z.take 34), List.take_append_drop]
  rw [e, splice_mid (by rw [gs1_rows h]; omega) (by rw [Ent.cells_len (gE_ok h), List.length_take]; omega), gs1_succ]
theorem set_map {us : Nat → Value} {room : List Value} {i N : Nat} {u : Value} (h : i < N) : ((List.range N).map us ++ room).set (0 + i * 1) u = (List.range N).map (fun q => if q = i then u else us q) ++ room := by
  rw [Nat.zero_add, Nat.mul_one, List.set_append_left _ _ (by simpa using h)]
  congr 1
  apply List.ext_getElem?
  intro q
  by_cases hq : q < N
  · rw [List.getElem?_set, List.getElem?_map, List.getElem?_map, List.getElem?_range hq]
    by_cases hqi : i = q
    · subst hqi
      simp [hq]
    · simp [hqi, Ne.symm hqi]
  · rw [List.getElem?_eq_none (by simp; omega), List.getElem?_eq_none (by simp; omega)]
theorem map_get {us : Nat → Value} {room : List Value} {i N : Nat} (h : i < N) : ((List.range N).map us ++ room)[0 + i * 1]? = some (us i) := by
  rw [Nat.zero_add, Nat.mul_one, List.getElem?_append_left (by simpa using h), List.getElem?_map, List.getElem?_range h]
  rfl
theorem Sl.baseB {w : World} {sz n : Nat} {v : Value} {cs : List Value} (h : Sl w sz v n cs) (h0 : 0 < n) : ∃ b off c, v = .slice (some ⟨b, off, none⟩) n c := by
  obtain ⟨hl, ⟨a, c, hc, h1⟩ | ⟨b, off, c, hc, hat⟩⟩ := h
  · omega
  · exact ⟨b, off, c, hc⟩
theorem Sl.atB {w : World} {sz n b off c : Nat} {cs : List Value} (h : Sl w sz (.slice (some ⟨b, off, none⟩) n c) n cs) (h0 : 0 < n) : At w b off cs := by
  obtain ⟨hl, ⟨a, c, hc, h1⟩ | ⟨b', off', c', hc, hat⟩⟩ := h
  · omega
  · injection hc with e1 e2 e3
    injection e1 with e1
    injection e1 with e1 e4
    subst e1 e4
    exact hat
theorem At.entq {w : World} {b off : Nat} {l : List Ent} {x : Ent} {k : Nat} (ha : At w b off (rows l)) (h : Oks l) (hk : l[k]? = some x) : At w b (off + k * 34) x.cells := by
  have hobt := List.getElem?_eq_some_iff.1 hk
  obtain ⟨hlt, rfl⟩ := hobt
  exact ha.ent h hlt
theorem gs1_get {i n k : Nat} (h : k < n) : (gs1 i n)[k]? = some (gE i k) := by rw [gs1, List.getElem?_map, List.getElem?_range h]; rfl
theorem gs2_get {i n k : Nat} (h : k < n) : (gs2 i n)[k]? = some (gF i k) := by rw [gs2, List.getElem?_map, List.getElem?_range h]; rfl
theorem Step.dropX {S : List Nat} {p : Nat × Obj} {A B : List (Nat × Obj)} {w0 w : World} (h : Step S (A ++ p :: B) w0 w) : Step S (A ++ B) w0 w := (h.perm List.perm_middle).tail
section
variable {N : Nat} {bA oA cA : Nat} {vs : Nat → Value} {ns : Nat → Nat} {xs : Nat → List Value} {Ls : Nat → List (Nat × Obj)} {w0 : World}
set_option maxHeartbeats 8000000 in
theorem grownE_spec (hN : N ≤ 1000) (hN0 : 0 < N) (ha : At w0 bA oA ((List.range N).map vs)) (hO : ∀ i, i < N → OwnSl 48 34 (vs i) (ns i) (xs i) (Ls i)) (hn : ∀ i, i < N → ns i ≤ 2000000) (hw : Step ((allL Ls N).map (·.1)) (allL Ls N) w0 w0) (hbA : bA ∉ (allL Ls N).map (·.1)) :
    Calls Try.prog 30 #[.slice (some ⟨bA, oA, none⟩) N cA] w0 fun e w' => e = .returned (.bool true) ∧ Step ((allL Ls N).map (·.1)) [] w0 w' := by
  have hs : Step ((allL Ls N).map (·.1)) (allL Ls N) w0 w0 := hw
  have hobt : ∃ S, (allL Ls N).map (·.1) = S := ⟨_, rfl⟩
  obtain ⟨S, hS⟩ := hobt
  rw [hS] at hs hbA ⊢
  have hvl : ((List.range N).map vs).length = N := by simp
  have hcell : ∀ {i : Nat} {X : List (Nat × Obj)} {w : World}, i < N → Step S X w0 w → w.cell? ⟨bA, oA + i * 1, none⟩ = some (vs i) := fun {i X w} hi hs => by
    rw [Nat.mul_one]
    exact (ha.step hs hbA).cell (by rw [List.getElem?_map, List.getElem?_range hi]; rfl)
  refine calls (n := 140) Try.func30 rfl rfl rfl ?_
  refine CW.seq ?_
  refine CW.reg ?_
  refine WL.val rfl (run_assign) ?_
  refine WL.nil ?_
  refine CW.seqM (fun f w => ∃ Lc : Nat → List (Nat × Obj), (∀ q, q < N → OwnSl 48 34 (vs q) (ns q) (rows (gs1 q (ns q))) (Lc q)) ∧ Step S (allL Lc N) w0 w ∧ Holds f [(0, .slice (some ⟨bA, oA, none⟩) N cA)]) ?_ ?_
  · refine CW.seq ?_
    refine CW.reg ?_
    refine WL.val rfl (run_assign) ?_
    refine WL.nil ?_
    refine CW.block ?_
    refine CW.loop (fun m f w' => ∃ (i : Nat) (Lc : Nat → List (Nat × Obj)) (ys : Nat → List Value), i ≤ N ∧ m = N - i ∧ (∀ q, q < i → ys q = rows (gs1 q (ns q))) ∧ (∀ q, q < N → OwnSl 48 34 (vs q) (ns q) (ys q) (Lc q)) ∧ Step S (allL Lc N) w0 w' ∧ Holds f [(0, .slice (some ⟨bA, oA, none⟩) N cA), (3, .int .i64 (i : Nat))]) (m := N) ?_ ?_
    · exact ⟨0, Ls, xs, Nat.zero_le _, rfl, fun q hq => (by omega), hO, hs, rfl, rfl, trivial⟩
    · rintro m f w ⟨i, Lc, ys, hi, rfl, hy, ho, hs, hf⟩
      have hobt := hf.chain
      obtain ⟨g, rfl⟩ := hobt
      by_cases hlt : i < N
      · refine CW.seq <| CW.seq ?_
        refine CW.reg ?_
        refine WL.val rfl (run_move) ?_
        refine WL.val rfl (run_move) ?_
        refine WL.val rfl (run_lenSl Try.underlying57 rfl) ?_
        refine WL.val rfl (run_bT (run_lss rfl rfl) (by omega)) ?_
        refine WL.nil ?_
        refine CW.cond rfl (fun h => ?_) (fun h => ?_)
        · have hoi := ho i hlt
          have hni := hn i hlt
          have hobt := hoi.form
          obtain ⟨ai, ci, hvi⟩ := hobt
          have hvc : ∀ {X : List (Nat × Obj)} {w : World}, Step S X w0 w → w.cell? ⟨bA, oA + i * 1, none⟩ = some (.slice ai (ns i) ci) := fun hs => (hcell hlt hs).trans (congrArg some hvi)
          refine CW.skip ?_
          refine CW.seqM (fun f w => ∃ L', OwnSl 48 34 (vs i) (ns i) (rows (gs1 i (ns i))) L' ∧ Step S (L' ++ othL Lc i N) w0 w ∧ Holds f [(0, .slice (some ⟨bA, oA, none⟩) N cA), (3, .int .i64 (i : Nat))]) ?_ ?_
          · have hop : Step S (Lc i ++ othL Lc i N) w0 w := Step.openA (A := []) hlt hs
            clear hs
            have hs := hop
            by_cases h0 : ns i = 0
            · repeat (first | refine CW.seq ?_ | refine CW.block ?_)
              refine CW.reg ?_
              refine WL.val rfl (run_assign) ?_
              refine WL.nil ?_
              refine CW.block ?_
              refine CW.loop (fun m f w' => m = 0 ∧ Step S (Lc i ++ othL Lc i N) w0 w' ∧ Holds f [(0, .slice (some ⟨bA, oA, none⟩) N cA), (3, .int .i64 (i : Nat)), (4, .int .i64 0)]) (m := 0) ?_ ?_
              · exact ⟨rfl, hs, rfl, rfl, rfl, trivial⟩
              · rintro m f w ⟨rfl, hs, hf⟩
                have hobt := hf.chain
                obtain ⟨g, rfl⟩ := hobt
                refine CW.seq <| CW.seq ?_
                refine CW.reg ?_
                refine WL.val rfl (run_move) ?_
                refine WL.val rfl (run_move) ?_
                refine WL.val rfl (run_move) ?_
                refine WL.val rfl (run_ixSlN Try.underlying57 ty22 rfl rfl (by omega)) ?_
                refine WL.val rfl (run_load1 ty22 rfl ((hvc hs))) ?_
                refine WL.val rfl (run_lenSl Try.underlying22 rfl) ?_
                refine WL.val rfl (run_bF (run_lss rfl rfl) (by omega)) ?_
                refine WL.nil ?_
                repeat (first | refine CW.exit ?_ | refine CW.condF rfl ?_)
                refine ⟨rfl, Lc i, ?_, hs, rfl, rfl, trivial⟩
                have e1 := hoi.1
                rw [h0, Nat.zero_mul] at e1
                have e2 : ys i = rows (gs1 i (ns i)) := by rw [List.eq_nil_of_length_eq_zero e1, h0]; rfl
                rw [← e2]
                exact hoi
            · have hobt := hoi.some1 (by omega)
              obtain ⟨b, cap, more, hvb, hLb, hcap⟩ := hobt
              have hyl := hoi.1
              rw [hLb] at hs
              have hvb' : ∀ {X : List (Nat × Obj)} {w : World}, Step S X w0 w → w.cell? ⟨bA, oA + i * 1, none⟩ = some (.slice (some ⟨b, 0, none⟩) (ns i) cap) := fun hs => (hcell hlt hs).trans (congrArg some hvb)
              repeat (first | refine CW.seq ?_ | refine CW.block ?_)
              refine CW.reg ?_
              refine WL.val rfl (run_assign) ?_
              refine WL.nil ?_
              refine CW.block ?_
              refine CW.loop (fun m f w' => ∃ (k : Nat) (Z : List Value), k ≤ ns i ∧ m = ns i - k ∧ Z.length = (ns i - k) * 34 ∧ Step S ((b, blk 48 (rows (gs1 i k) ++ (Z ++ more))) :: othL Lc i N) w0 w' ∧ Holds f [(0, .slice (some ⟨bA, oA, none⟩) N cA), (3, .int .i64 (i : Nat)), (4, .int .i64 (k : Nat))]) (m := ns i) ?_ ?_
              · exact ⟨0, ys i, Nat.zero_le _, rfl, hyl, hs, rfl, rfl, rfl, trivial⟩
              · rintro m f w ⟨k, Z, hk, rfl, hZ, hs, hf⟩
                have hobt := hf.chain
                obtain ⟨g, rfl⟩ := hobt
                by_cases hkl : k < ns i
                · have hce : (gE i k).cells.length = 34 := Ent.cells_len (gE_ok (by omega))
                  have hgl := gs1_rows (i := i) (n := k) (by omega)
                  have hbl : (rows (gs1 i k) ++ (Z ++ more)).length = k * 34 + (ns i - k) * 34 + more.length := by rw [List.length_append, List.length_append, hgl, hZ]; omega
                  refine CW.seq <| CW.seq ?_
                  refine CW.reg ?_
                  refine WL.val rfl (run_move) ?_
                  refine WL.val rfl (run_move) ?_
                  refine WL.val rfl (run_move) ?_
                  refine WL.val rfl (run_ixSlN Try.underlying57 ty22 rfl rfl (by omega)) ?_
                  refine WL.val rfl (run_load1 ty22 rfl ((hvb' hs))) ?_
                  refine WL.val rfl (run_lenSl Try.underlying22 rfl) ?_
                  refine WL.val rfl (run_bT (run_lss rfl rfl) (by omega)) ?_
                  refine WL.nil ?_
                  refine CW.cond rfl (fun h => ?_) (fun h => ?_)
                  · repeat (first | refine CW.seq ?_ | refine CW.block ?_ | refine CW.skip ?_)
                    refine CW.reg ?_
                    refine WL.val rfl (run_move) ?_
                    refine WL.val rfl (run_move) ?_
                    refine WL.val rfl (run_ixSlN Try.underlying57 ty22 rfl rfl (by omega)) ?_
                    refine WL.val rfl (run_load1 ty22 rfl ((hvb' hs))) ?_
                    refine WL.val rfl (run_move) ?_
                    refine WL.val rfl (run_move) ?_
                    refine WL.val rfl (run_add (c := (5000 + (i : Int))) rfl rfl (by omega) (by omega)) ?_
                    refine WL.val rfl (run_move) ?_
                    refine WL.val rfl (run_convU8 Try.underlying3 Try.underlying5 rfl) ?_
                    refine WL.val rfl (run_move) ?_
                    refine WL.val rfl (run_shrN (j := 1) rfl rfl (by decide)) ?_
                    refine WL.val rfl (run_convU8 Try.underlying3 Try.underlying5 rfl) ?_
                    refine WL.val rfl (run_build rfl ((bld_gD _ _ _))) ?_
                    refine WL.val rfl (run_build rfl ((bld_gE _ _ _ _))) ?_
                    refine WL.val rfl (run_ixSlN Try.underlying22 ty48 rfl rfl (by omega)) ?_
                    refine WL.storeN ty48 rfl rfl (hce) ((gE i k).cells1) (hs) (by first | (simp; done) | omega | (simp only [List.length_append, List.length_replicate, List.length_cons, List.length_nil, List.length_set]; omega) | (simp [Ent.cells, u8s]; done) | exact Nat.le_of_ble_eq_true rfl) (fun w hs => ?_)
                    refine WL.nil ?_
                    replace hs : Step S ((b, blk 48 (rows (gs1 i (k + 1)) ++ (Z.drop 34 ++ more))) :: othL Lc i N) w0 w := by
                      rw [← gs_splice (by omega) (by omega)]
                      exact hs
                    refine CW.reg ?_
                    refine WL.val rfl (run_move) ?_
                    refine WL.val rfl (run_add (c := ((k + 1 : Nat) : Int)) rfl rfl (by omega) (by omega)) ?_
                    refine WL.val rfl (run_assign) ?_
                    refine WL.nil ?_
                    refine (show _ ∧ _ from ⟨rfl, _, ?_, k + 1, Z.drop 34, by omega, rfl, (by rw [List.length_drop, hZ]; omega), hs, rfl, rfl, rfl, trivial⟩)
                    omega
                  · cases h
                · obtain rfl : k = ns i := by omega
                  refine CW.seq <| CW.seq ?_
                  refine CW.reg ?_
                  refine WL.val rfl (run_move) ?_
                  refine WL.val rfl (run_move) ?_
                  refine WL.val rfl (run_move) ?_
                  refine WL.val rfl (run_ixSlN Try.underlying57 ty22 rfl rfl (by omega)) ?_
                  refine WL.val rfl (run_load1 ty22 rfl ((hvb' hs))) ?_
                  refine WL.val rfl (run_lenSl Try.underlying22 rfl) ?_
                  refine WL.val rfl (run_bF (run_lss rfl rfl) (by omega)) ?_
                  refine WL.nil ?_
                  repeat (first | refine CW.exit ?_ | refine CW.condF rfl ?_)
                  have hZ0 : Z = [] := List.eq_nil_of_length_eq_zero (by rw [hZ, Nat.sub_self, Nat.zero_mul])
                  rw [hZ0, List.nil_append] at hs
                  refine ⟨rfl, [_], ⟨gs1_rows (by omega), .inr ⟨b, cap, more, hvb, rfl, ?_⟩⟩, hs, rfl, rfl, trivial⟩
                  rw [List.length_append, gs1_rows (by omega)]
                  rw [List.length_append, hyl] at hcap
                  exact hcap
          clear hs hf
          rintro f w ⟨L', hown, hs, hf⟩
          have hobt := hf.chain
          obtain ⟨g, rfl⟩ := hobt
          replace hs : Step S (allL (putL Lc i L') N) w0 w := Step.shutA (A := []) hlt hs
          refine CW.reg ?_
          refine WL.val rfl (run_move) ?_
          refine WL.val rfl (run_add (c := ((i + 1 : Nat) : Int)) rfl rfl (by omega) (by omega)) ?_
          refine WL.val rfl (run_assign) ?_
          refine WL.nil ?_
          refine (show _ ∧ _ from ⟨rfl, _, ?_, i + 1, putL Lc i L', (fun q => if q = i then rows (gs1 i (ns i)) else ys q), by omega, rfl, ?_, ?_, hs, rfl, rfl, trivial⟩)
          · omega
          · intro q hq
            by_cases hqi : q = i
            · subst hqi; simp
            · simp only [hqi, if_false]
              exact hy q (by omega)
          · intro q hq
            by_cases hqi : q = i
            · subst hqi; simp only [putL, if_true]; exact hown
            · simp only [putL, hqi, if_false]; exact ho q hq
        · cases h
      · obtain rfl : i = N := by omega
        refine CW.seq <| CW.seq ?_
        refine CW.reg ?_
        refine WL.val rfl (run_move) ?_
        refine WL.val rfl (run_move) ?_
        refine WL.val rfl (run_lenSl Try.underlying57 rfl) ?_
        refine WL.val rfl (run_bF (run_lss rfl rfl) (by omega)) ?_
        refine WL.nil ?_
        repeat (first | refine CW.exit ?_ | refine CW.condF rfl ?_)
        exact ⟨rfl, Lc, fun q hq => by rw [← hy q hq]; exact ho q hq, hs, rfl, trivial⟩
  clear hs
  rintro f w ⟨Lc, ho, hs, hf⟩
  have hobt := hf.chain
  obtain ⟨g, rfl⟩ := hobt
  refine CW.seq ?_
  refine CW.reg ?_
  refine WL.val rfl (run_assign) ?_
  refine WL.nil ?_
  have hcv : Cells1 ((List.range N).map vs) := fun v hv => by
    have hobt := List.mem_map.1 hv
    obtain ⟨q, hq, rfl⟩ := hobt
    exact (ho q (by simpa using hq)).one
  have hav : ∀ {X : List (Nat × Obj)} {w : World}, Step S X w0 w → Sl w 1 (.slice (some ⟨bA, oA, none⟩) N cA) N ((List.range N).map vs) := fun hs => .mk (by simp) (ha.step hs hbA)
  refine CW.seq ?_
  refine CW.reg ?_
  refine WL.val rfl (run_move) ?_
  refine WL.val rfl (run_move) ?_
  refine WL.append Try.underlying57 Try.underlying57 ty22 rfl (by decide) rfl rfl (OwnSl.nil _ _) (hs) (hav hs) (hcv) (by first | omega | (simp only [List.length_append, List.length_cons, List.length_nil]; omega)) rfl (fun v45 Lv45 w hv45 hs => ?_)
  refine WL.val rfl (run_assign) ?_
  refine WL.nil ?_
  rw [Nat.zero_add, List.nil_append] at hv45
  have hobt := hv45.some1 hN0
  obtain ⟨bm, cm, room, hvm, hLm, hcm⟩ := hobt
  rw [hLm] at hs
  replace hs : Step S ((bm, blk 22 ((List.range N).map vs ++ room)) :: allL Lc N) w0 w := hs
  have hvc : ∀ {i : Nat} {X : List (Nat × Obj)} {w : World}, i < N → Step S X w0 w → ∃ a c, vs i = .slice a (ns i) c ∧ w.cell? ⟨bA, oA + i * 1, none⟩ = some (.slice a (ns i) c) := fun {i X w} hi hs => by
    have hobt := (ho i hi).form
    obtain ⟨a, c, hvi⟩ := hobt
    exact ⟨a, c, hvi, (hcell hi hs).trans (congrArg some hvi)⟩
  refine CW.seqM (fun f w => ∃ (us : Nat → Value) (L2 : Nat → List (Nat × Obj)), (∀ q, q < N → Tw 48 34 (vs q) (us q) (ns q) 20 (rows (gs1 q (ns q))) (rows (gs2 q 20)) (L2 q)) ∧ Step S ((bm, blk 22 ((List.range N).map us ++ room)) :: allL L2 N) w0 w ∧ Holds f [(0, .slice (some ⟨bA, oA, none⟩) N cA), (5, .slice (some ⟨bm, 0, none⟩) N cm)]) ?_ ?_
  · refine CW.seq ?_
    refine CW.reg ?_
    refine WL.val rfl (run_assign) ?_
    refine WL.nil ?_
    refine CW.block ?_
    refine CW.loop (fun m f w' => ∃ (k : Nat) (us : Nat → Value) (L2 : Nat → List (Nat × Obj)), k ≤ 20 ∧ m = 20 - k ∧ (∀ q, q < N → Tw 48 34 (vs q) (us q) (ns q) k (rows (gs1 q (ns q))) (rows (gs2 q k)) (L2 q)) ∧ Step S ((bm, blk 22 ((List.range N).map us ++ room)) :: allL L2 N) w0 w' ∧ Holds f [(0, .slice (some ⟨bA, oA, none⟩) N cA), (5, .slice (some ⟨bm, 0, none⟩) N cm), (6, .int .i64 (k : Nat))]) (m := 20) ?_ ?_
    · exact ⟨0, vs, Lc, by omega, rfl, fun q hq => Tw.start (ho q hq), hs, rfl, hvm, rfl, trivial⟩
    · clear hs
      rintro m f w ⟨k, us, L2, hk, rfl, hT, hs, hf⟩
      have hobt := hf.chain
      obtain ⟨g, rfl⟩ := hobt
      by_cases hk20 : k < 20
      · refine CW.seq <| CW.seq ?_
        refine CW.reg ?_
        refine WL.val rfl (run_move) ?_
        refine WL.val rfl (run_bT (run_lss rfl rfl) (by omega)) ?_
        refine WL.nil ?_
        refine CW.cond rfl (fun h => ?_) (fun h => ?_)
        · repeat (first | refine CW.seq ?_ | refine CW.block ?_ | refine CW.skip ?_)
          refine CW.reg ?_
          refine WL.val rfl (run_assign) ?_
          refine WL.nil ?_
          refine CW.block ?_
          refine CW.loop (fun m f w' => ∃ (i : Nat) (us : Nat → Value) (L2 : Nat → List (Nat × Obj)), i ≤ N ∧ m = N - i ∧ (∀ q, q < N → q < i → Tw 48 34 (vs q) (us q) (ns q) (k + 1) (rows (gs1 q (ns q))) (rows (gs2 q (k + 1))) (L2 q)) ∧ (∀ q, q < N → i ≤ q → Tw 48 34 (vs q) (us q) (ns q) k (rows (gs1 q (ns q))) (rows (gs2 q k)) (L2 q)) ∧ Step S ((bm, blk 22 ((List.range N).map us ++ room)) :: allL L2 N) w0 w' ∧ Holds f [(0, .slice (some ⟨bA, oA, none⟩) N cA), (5, .slice (some ⟨bm, 0, none⟩) N cm), (6, .int .i64 (k : Nat)), (7, .int .i64 (i : Nat))]) (m := N) ?_ ?_
          · exact ⟨0, us, L2, Nat.zero_le _, rfl, fun q _ h => (by omega), fun q hq _ => hT q hq, hs, rfl, rfl, rfl, rfl, trivial⟩
          · clear hs hT
            rintro m f w ⟨i, us, L2, hi, rfl, hT1, hT0, hs, hf⟩
            have hobt := hf.chain
            obtain ⟨g, rfl⟩ := hobt
            by_cases hlt : i < N
            · have hTi := hT0 i hlt (Nat.le_refl _)
              have hni := hn i hlt
              have hobt := hTi.formR
              obtain ⟨au, cu, hui⟩ := hobt
              have hce : (gF i k).cells.length = 34 := Ent.cells_len (gF_ok (by omega))
              have hmg : ((List.range N).map us ++ room)[0 + i * 1]? = some (.slice au (ns i + k) cu) := (map_get hlt).trans (congrArg some hui)
              have hml : ((List.range N).map us ++ room).length = N + room.length := by simp
              rw [hui] at hTi
              refine CW.seq <| CW.seq ?_
              refine CW.reg ?_
              refine WL.val rfl (run_move) ?_
              refine WL.val rfl (run_move) ?_
              refine WL.val rfl (run_lenSl Try.underlying57 rfl) ?_
              refine WL.val rfl (run_bT (run_lss rfl rfl) (by omega)) ?_
              refine WL.nil ?_
              refine CW.cond rfl (fun h => ?_) (fun h => ?_)
              · repeat (first | refine CW.seq ?_ | refine CW.block ?_ | refine CW.skip ?_)
                refine CW.reg ?_
                refine WL.val rfl (run_move) ?_
                refine WL.val rfl (run_move) ?_
                refine WL.val rfl (run_move) ?_
                refine WL.val rfl (run_move) ?_
                refine WL.val rfl (run_ixSlN Try.underlying57 ty22 rfl rfl (by omega)) ?_
                refine WL.val rfl (run_load1 ty22 rfl (hs.c0 hmg)) ?_
                refine WL.val rfl (run_move) ?_
                refine WL.val rfl (run_sub (c := (-10 - (i : Int))) rfl rfl (by omega) (by omega)) ?_
                refine WL.val rfl (run_move) ?_
                refine WL.val rfl (run_convU8 Try.underlying3 Try.underlying5 rfl) ?_
                refine WL.val rfl (run_build rfl ((bld_gA _ _))) ?_
                refine WL.val rfl (run_build rfl ((bld_gF _ _ _))) ?_
                refine WL.buildSlice (cs := (gF i k).cells) Try.underlying22 ty48 rfl (by decide) rfl (filled1 hce rfl) rfl hs (fun b68 w hs => ?_)
                have hsl : Sl w 34 (.slice (some ⟨b68, 0, none⟩) 1 1) 1 (gF i k).cells := .own1 hs (by rw [hce])
                refine WL.appendTw Try.underlying22 Try.underlying22 ty48 rfl (by decide) rfl rfl (hTi) (Step.openA (A := [_, _]) hlt hs) (hsl) (by decide) ((gF i k).cells1) (by omega) rfl (fun u69 L69 w hu69 hs => ?_)
                refine WL.val rfl (run_ixSlN Try.underlying57 ty22 rfl rfl (by omega)) ?_
                refine WL.store1 ty22 rfl rfl (hu69.oneR) ((Step.front (L69 ++ [_]) (p := (bm, blk 22 ((List.range N).map us ++ room))) (by rw [List.append_assoc]; exact hs))) (by first | (simp; done) | omega | (simp only [List.length_append, List.length_replicate, List.length_cons, List.length_nil, List.length_set]; omega) | (simp [Ent.cells, u8s]; done) | exact Nat.le_of_ble_eq_true rfl) (fun w hs => ?_)
                refine WL.nil ?_
                rw [set_map hlt] at hs
                replace hs := Step.dropX (A := _ :: L69) (B := othL L2 i N) (by simpa [List.append_assoc] using hs)
                replace hs := Step.shutA (A := [_]) hlt (hs.perm List.perm_middle.symm)
                rw [← gs2_succ] at hu69
                refine CW.reg ?_
                refine WL.val rfl (run_move) ?_
                refine WL.val rfl (run_add (c := ((i + 1 : Nat) : Int)) rfl rfl (by omega) (by omega)) ?_
                refine WL.val rfl (run_assign) ?_
                refine WL.nil ?_
                refine (show _ ∧ _ from ⟨rfl, _, ?_, i + 1, (fun q => if q = i then u69 else us q), putL L2 i L69, by omega, rfl, ?_, ?_, hs, rfl, rfl, rfl, rfl, trivial⟩)
                · omega
                · intro q hq hqi
                  by_cases hqe : q = i
                  · subst hqe; simp only [putL, if_true]; exact hu69
                  · simp only [putL, hqe, if_false]; exact hT1 q hq (by omega)
                · intro q hq hqi
                  have hqe : q ≠ i := by omega
                  simp only [putL, hqe, if_false]
                  exact hT0 q hq (by omega)
              · cases h
            · obtain rfl : i = N := by omega
              refine CW.seq <| CW.seq ?_
              refine CW.reg ?_
              refine WL.val rfl (run_move) ?_
              refine WL.val rfl (run_move) ?_
              refine WL.val rfl (run_lenSl Try.underlying57 rfl) ?_
              refine WL.val rfl (run_bF (run_lss rfl rfl) (by omega)) ?_
              refine WL.nil ?_
              repeat (first | refine CW.exit ?_ | refine CW.condF rfl ?_)
              refine CW.reg ?_
              refine WL.val rfl (run_move) ?_
              refine WL.val rfl (run_add (c := ((k + 1 : Nat) : Int)) rfl rfl (by omega) (by omega)) ?_
              refine WL.val rfl (run_assign) ?_
              refine WL.nil ?_
              refine (show _ ∧ _ from ⟨rfl, _, ?_, k + 1, us, L2, by omega, rfl, (fun q hq => hT1 q hq hq), hs, rfl, rfl, rfl, trivial⟩)
              omega
        · cases h
      · obtain rfl : k = 20 := by omega
        refine CW.seq <| CW.seq ?_
        refine CW.reg ?_
        refine WL.val rfl (run_move) ?_
        refine WL.val rfl (run_bF (run_lss rfl rfl) (by omega)) ?_
        refine WL.nil ?_
        repeat (first | refine CW.exit ?_ | refine CW.condF rfl ?_)
        exact ⟨rfl, us, L2, hT, hs, rfl, rfl, trivial⟩
  clear hs hf
  rintro f w ⟨us, L2, hT, hs, hf⟩
  have hobt := hf.chain
  obtain ⟨g, rfl⟩ := hobt
  refine CW.seqM (fun f w => Step S ((bm, blk 22 ((List.range N).map us ++ room)) :: allL L2 N) w0 w) ?_ ?_
  · refine CW.seq ?_
    refine CW.reg ?_
    refine WL.val rfl (run_assign) ?_
    refine WL.nil ?_
    refine CW.block ?_
    refine CW.loop (fun m f w' => ∃ i : Nat, i ≤ N ∧ m = N - i ∧ Step S ((bm, blk 22 ((List.range N).map us ++ room)) :: allL L2 N) w0 w' ∧ Holds f [(0, .slice (some ⟨bA, oA, none⟩) N cA), (5, .slice (some ⟨bm, 0, none⟩) N cm), (8, .int .i64 (i : Nat))]) (m := N) ?_ ?_
    · exact ⟨0, Nat.zero_le _, rfl, hs, rfl, rfl, rfl, trivial⟩
    · clear hs
      rintro m f w ⟨i, hi, rfl, hs, hf⟩
      have hobt := hf.chain
      obtain ⟨g, rfl⟩ := hobt
      by_cases hlt : i < N
      · have hTi := hT i hlt
        have hni := hn i hlt
        have hobt := hvc hlt hs
        obtain ⟨av, cv, hvi, -⟩ := hobt
        have hcv : ∀ {X : List (Nat × Obj)} {w : World}, Step S X w0 w → w.cell? ⟨bA, oA + i * 1, none⟩ = some (.slice av (ns i) cv) := fun hs => (hcell hlt hs).trans (congrArg some hvi)
        have hR0 := hTi.right (w := w) fun p hp => hs.has p (List.mem_cons_of_mem _ (allL_mem hlt hp))
        have hobt := hR0.baseB (by omega)
        obtain ⟨bu, ou, cu, hui⟩ := hobt
        have hR : ∀ {w : World}, (∀ p ∈ L2 i, w.heap[p.1]? = some p.2) → At w bu ou (rows (gs1 i (ns i) ++ gs2 i 20)) := fun h => by
          have h1 := hTi.right h
          rw [hui, ← rows_append] at h1
          exact h1.atB (by omega)
        have hmg : ((List.range N).map us ++ room)[0 + i * 1]? = some (.slice (some ⟨bu, ou, none⟩) (ns i + 20) cu) := (map_get hlt).trans (congrArg some hui)
        have hok : Oks (gs1 i (ns i) ++ gs2 i 20) := (gs1_ok (by omega)).append (gs2_ok (by omega))
        refine CW.seq <| CW.seq ?_
        refine CW.reg ?_
        refine WL.val rfl (run_move) ?_
        refine WL.val rfl (run_move) ?_
        refine WL.val rfl (run_lenSl Try.underlying57 rfl) ?_
        refine WL.val rfl (run_bT (run_lss rfl rfl) (by omega)) ?_
        refine WL.nil ?_
        refine CW.cond rfl (fun h => ?_) (fun h => ?_)
        · repeat (first | refine CW.seq ?_ | refine CW.block ?_ | refine CW.skip ?_)
          refine CW.reg ?_
          refine WL.val rfl (run_move) ?_
          refine WL.val rfl (run_move) ?_
          refine WL.val rfl (run_ixSlN Try.underlying57 ty22 rfl rfl (by omega)) ?_
          refine WL.val rfl (run_load1 ty22 rfl ((hcv hs))) ?_
          refine WL.val rfl (run_lenSl Try.underlying22 rfl) ?_
          refine WL.val rfl (run_assign) ?_
          refine WL.nil ?_
          refine CW.seq ?_
          refine CW.reg ?_
          refine WL.val rfl (run_assign) ?_
          refine WL.nil ?_
          refine CW.block ?_
          refine CW.loop (fun m f w' => ∃ k : Nat, k ≤ ns i + 20 ∧ m = ns i + 20 - k ∧ Step S ((bm, blk 22 ((List.range N).map us ++ room)) :: allL L2 N) w0 w' ∧ Holds f [(0, .slice (some ⟨bA, oA, none⟩) N cA), (5, .slice (some ⟨bm, 0, none⟩) N cm), (8, .int .i64 (i : Nat)), (9, .int .i64 (ns i : Nat)), (10, .int .i64 (k : Nat))]) (m := ns i + 20) ?_ ?_
          · exact ⟨0, Nat.zero_le _, rfl, hs, rfl, rfl, rfl, rfl, rfl, trivial⟩
          · clear hs
            rintro m f w ⟨k, hk, rfl, hs, hf⟩
            have hobt := hf.chain
            obtain ⟨g, rfl⟩ := hobt
            by_cases hkl : k < ns i + 20
            · refine CW.seq <| CW.seq ?_
              refine CW.reg ?_
              refine WL.val rfl (run_move) ?_
              refine WL.val rfl (run_move) ?_
              refine WL.val rfl (run_add (c := ((ns i + 20 : Nat) : Int)) rfl rfl (by omega) (by omega)) ?_
              refine WL.val rfl (run_bT (run_lss rfl rfl) (by omega)) ?_
              refine WL.nil ?_
              refine CW.cond rfl (fun h => ?_) (fun h => ?_)
              · have hdl : (u8s (gD k)).length = 32 := by simp [u8s, gD]
                by_cases hkn : k < ns i
                · have hx : (gs1 i (ns i) ++ gs2 i 20)[k]? = some (gE i k) := by rw [List.getElem?_append_left (by rw [gs1_len]; exact hkn), gs1_get hkn]
                  have hxo : (gE i k).ok := gE_ok (by omega)
                  have hxl := Ent.cells_len hxo
                  have hL0 := hTi.left (w := w) fun p hp => hs.has p (List.mem_cons_of_mem _ (allL_mem hlt hp))
                  have hobt := hL0.baseB (by omega)
                  obtain ⟨bv, ov, cv', hvb⟩ := hobt
                  have hLt : ∀ {w : World}, (∀ p ∈ L2 i, w.heap[p.1]? = some p.2) → At w bv ov (rows (gs1 i (ns i))) := fun h => by
                    have h1 := hTi.left h
                    rw [hvb] at h1
                    exact h1.atB (by omega)
                  have hcb : ∀ {X : List (Nat × Obj)} {w : World}, Step S X w0 w → w.cell? ⟨bA, oA + i * 1, none⟩ = some (.slice (some ⟨bv, ov, none⟩) (ns i) cv') := fun hs => (hcell hlt hs).trans (congrArg some hvb)
                  repeat (first | refine CW.seq ?_ | refine CW.block ?_ | refine CW.skip ?_)
                  refine CW.reg ?_
                  refine WL.val rfl (run_move) ?_
                  refine WL.val rfl (run_move) ?_
                  refine WL.val rfl (run_ixSlN Try.underlying57 ty22 rfl rfl (by omega)) ?_
                  refine WL.val rfl (run_load1 ty22 rfl (hs.c0 hmg)) ?_
                  refine WL.val rfl (run_move) ?_
                  refine WL.val rfl (run_ixSlN Try.underlying22 ty48 rfl rfl (by omega)) ?_
                  refine WL.val rfl (run_loadN ty48 rfl hxl ((hR (fun p hp => hs.has p (List.mem_cons_of_mem _ (allL_mem hlt hp)))).entq hok hx)) ?_
                  refine WL.alloc ty48 rfl hs (fun b11 w hs => ?_)
                  refine WL.storeAll ty48 rfl rfl ((hxl)) ((gE i k).cells1) hs (by first | rfl | assumption) (fun w hs => ?_)
                  refine WL.nil ?_
                  refine CW.seq ?_
                  refine CW.reg ?_
                  refine WL.val rfl (run_move) ?_
                  refine WL.val rfl (run_convU8 Try.underlying3 Try.underlying5 rfl) ?_
                  refine WL.val rfl (run_move) ?_
                  refine WL.val rfl (run_shrN (j := 1) rfl rfl (by decide)) ?_
                  refine WL.val rfl (run_convU8 Try.underlying3 Try.underlying5 rfl) ?_
                  refine WL.val rfl (run_build rfl ((bld_gD _ _ _))) ?_
                  refine WL.alloc ty46 rfl hs (fun b12 w hs => ?_)
                  refine WL.storeAll ty46 rfl rfl ((hdl)) (Cells1.u8s _) hs (by first | rfl | assumption) (fun w hs => ?_)
                  refine WL.nil ?_
                  refine CW.seq ?_
                  refine CW.quiet mixedP (by kernel_rfl) hs ?_
                  refine QL.val rfl (fun w hs => run_move) ?_
                  refine QL.val rfl (fun w hs => run_move) ?_
                  refine QL.val rfl (fun w hs => run_bT (run_lss rfl rfl) (by omega)) ?_
                  refine QL.val rfl (fun w hs => run_move) ?_
                  refine QL.yes rfl rfl rfl ?_; refine QL.val rfl (fun w hs => run_move) ?_
                  refine QL.yes rfl rfl rfl ?_; refine QL.val rfl (fun w hs => run_move) ?_
                  refine QL.yes rfl rfl rfl ?_; (first | refine QL.val rfl (fun w hs => run_ixSlN Try.underlying57 ty22 rfl rfl (by omega)) ?_ | refine QL.val rfl (fun w hs => run_ixSl Try.underlying57 ty22 rfl rfl (by omega)) ?_)
                  refine QL.yes rfl rfl rfl ?_
                  refine QL.val rfl (fun w hs => run_load1 ty22 rfl ((hcb hs))) ?_
                  refine QL.yes rfl rfl rfl ?_; refine QL.val rfl (fun w hs => run_move) ?_
                  refine QL.yes rfl rfl rfl ?_; (first | refine QL.val rfl (fun w hs => run_ixSlN Try.underlying22 ty48 rfl rfl (by omega)) ?_ | refine QL.val rfl (fun w hs => run_ixSl Try.underlying22 ty48 rfl rfl (by omega)) ?_)
                  refine QL.yes rfl rfl rfl ?_
                  refine QL.val rfl (fun w hs => run_loadN ty48 rfl hxl ((hLt (fun p hp => hs.has p (List.mem_cons_of_mem _ (List.mem_cons_of_mem _ (List.mem_cons_of_mem _ (allL_mem hlt hp)))))).entq (gs1_ok (by omega)) (gs1_get hkn))) ?_
                  refine QL.yes rfl rfl rfl ?_
                  refine QL.val rfl (fun w hs => run_loadN ty48 rfl hxl hs.a1) ?_
                  refine QL.yes rfl rfl rfl ?_
                  refine QL.val rfl (fun w hs => run_bF (run_neqAgg Ent.lits_iff ent_key (ent_formed hxo) (ent_formed hxo) ent_guard rfl rfl (lits_ent hxo) (lits_ent hxo)) (fun h => h rfl)) ?_
                  refine QL.yes rfl rfl rfl ?_; refine QL.val rfl (fun w hs => run_move) ?_
                  refine QL.yes rfl rfl rfl ?_
                  refine QL.val rfl (fun w hs => run_loadN ty48 rfl hxl hs.a1) ?_
                  refine QL.yes rfl rfl rfl ?_; refine QL.val rfl (fun w hs => run_move) ?_
                  refine QL.yes rfl rfl rfl ?_
                  refine QL.val rfl (fun w hs => run_add (c := (5000 + (i : Int))) rfl rfl (by omega) (by omega)) ?_
                  refine QL.yes rfl rfl rfl ?_
                  refine QL.val rfl (fun w hs => run_loadN ty46 rfl hdl hs.a0) ?_
                  refine QL.yes rfl rfl rfl ?_
                  refine QL.val rfl (fun w hs => run_build rfl ((bld_gE _ _ _ _))) ?_
                  refine QL.yes rfl rfl rfl ?_
                  refine QL.val rfl (fun w hs => run_bF (run_neqAgg Ent.lits_iff ent_key (ent_formed hxo) (ent_formed hxo) ent_guard rfl rfl (lits_ent hxo) (lits_ent hxo)) (fun h => h rfl)) ?_
                  refine QL.yes rfl rfl rfl ?_; (first | refine QL.val rfl (fun w hs => run_pickT rfl) ?_ | refine QL.val rfl (fun w hs => run_pickF rfl) ?_)
                  refine QL.val rfl (fun w hs => run_pickT rfl) ?_
                  refine QL.val rfl (fun w hs => run_move) ?_
                  refine QL.yes rfl rfl rfl ?_; refine QL.val rfl (fun w hs => run_move) ?_
                  refine QL.yes rfl rfl rfl ?_; refine QL.val rfl (fun w hs => run_move) ?_
                  refine QL.yes rfl rfl rfl ?_
                  refine QL.val rfl (fun w hs => run_bF (run_geq rfl rfl) (by omega)) ?_
                  refine QL.yes rfl rfl rfl ?_; refine QL.val rfl (fun w hs => run_move) ?_
                  refine QL.no rfl rfl rfl (.inl rfl) ?_
                  refine QL.no rfl rfl rfl (.inl rfl) ?_
                  refine QL.no rfl rfl rfl (.inl rfl) ?_
                  refine QL.no rfl rfl rfl (.inl rfl) ?_
                  refine QL.no rfl rfl rfl (.inl rfl) ?_
                  refine QL.no rfl rfl rfl (.inl rfl) ?_
                  refine QL.no rfl rfl rfl (.inl rfl) ?_
                  refine QL.no rfl rfl rfl (.inl rfl) ?_
                  refine QL.no rfl rfl rfl (.inl rfl) ?_
                  refine QL.no rfl rfl rfl (.inl rfl) ?_
                  refine QL.yes rfl rfl rfl ?_; (first | refine QL.val rfl (fun w hs => run_pickT rfl) ?_ | refine QL.val rfl (fun w hs => run_pickF rfl) ?_)
                  refine QL.val rfl (fun w hs => run_pickF rfl) ?_
                  refine QL.nil (fun w hs => ?_)
                  refine CW.cond rfl (fun h => ?_) (fun h => ?_)
                  · cases h
                  replace hs := hs.tail.tail
                  refine CW.skip ?_
                  refine CW.reg ?_
                  refine WL.val rfl (run_move) ?_
                  refine WL.val rfl (run_add (c := ((k + 1 : Nat) : Int)) rfl rfl (by omega) (by omega)) ?_
                  refine WL.val rfl (run_assign) ?_
                  refine WL.nil ?_
                  refine (show _ ∧ _ from ⟨rfl, _, ?_, k + 1, by omega, rfl, hs, rfl, rfl, rfl, rfl, rfl, trivial⟩)
                  omega
                · have hobt : ∃ j, k = ns i + j := ⟨k - ns i, by omega⟩
                  obtain ⟨j, rfl⟩ := hobt
                  have hx : (gs1 i (ns i) ++ gs2 i 20)[ns i + j]? = some (gF i j) := by rw [List.getElem?_append_right (by rw [gs1_len]; omega), gs1_len, show ns i + j - ns i = j by omega, gs2_get (by omega)]
                  have hxo : (gF i j).ok := gF_ok (by omega)
                  have hxl := Ent.cells_len hxo
                  repeat (first | refine CW.seq ?_ | refine CW.block ?_ | refine CW.skip ?_)
                  refine CW.reg ?_
                  refine WL.val rfl (run_move) ?_
                  refine WL.val rfl (run_move) ?_
                  refine WL.val rfl (run_ixSlN Try.underlying57 ty22 rfl rfl (by omega)) ?_
                  refine WL.val rfl (run_load1 ty22 rfl (hs.c0 hmg)) ?_
                  refine WL.val rfl (run_move) ?_
                  refine WL.val rfl (run_ixSlN Try.underlying22 ty48 rfl rfl (by omega)) ?_
                  refine WL.val rfl (run_loadN ty48 rfl hxl ((hR (fun p hp => hs.has p (List.mem_cons_of_mem _ (allL_mem hlt hp)))).entq hok hx)) ?_
                  refine WL.alloc ty48 rfl hs (fun b11 w hs => ?_)
                  refine WL.storeAll ty48 rfl rfl ((hxl)) ((gF i j).cells1) hs (by first | rfl | assumption) (fun w hs => ?_)
                  refine WL.nil ?_
                  refine CW.seq ?_
                  refine CW.reg ?_
                  refine WL.val rfl (run_move) ?_
                  refine WL.val rfl (run_convU8 Try.underlying3 Try.underlying5 rfl) ?_
                  refine WL.val rfl (run_move) ?_
                  refine WL.val rfl (run_shrN (j := 1) rfl rfl (by decide)) ?_
                  refine WL.val rfl (run_convU8 Try.underlying3 Try.underlying5 rfl) ?_
                  refine WL.val rfl (run_build rfl ((bld_gD _ _ _))) ?_
                  refine WL.alloc ty46 rfl hs (fun b12 w hs => ?_)
                  refine WL.storeAll ty46 rfl rfl ((hdl)) (Cells1.u8s _) hs (by first | rfl | assumption) (fun w hs => ?_)
                  refine WL.nil ?_
                  refine CW.seq ?_
                  refine CW.quiet mixedP (by kernel_rfl) hs ?_
                  refine QL.val rfl (fun w hs => run_move) ?_
                  refine QL.val rfl (fun w hs => run_move) ?_
                  refine QL.val rfl (fun w hs => run_bF (run_lss rfl rfl) (by omega)) ?_
                  refine QL.val rfl (fun w hs => run_move) ?_
                  refine QL.no rfl rfl rfl (.inl rfl) ?_
                  refine QL.no rfl rfl rfl (.inl rfl) ?_
                  refine QL.no rfl rfl rfl (.inl rfl) ?_
                  refine QL.no rfl rfl rfl (.inl rfl) ?_
                  refine QL.no rfl rfl rfl (.inl rfl) ?_
                  refine QL.no rfl rfl rfl (.inl rfl) ?_
                  refine QL.no rfl rfl rfl (.inl rfl) ?_
                  refine QL.no rfl rfl rfl (.inl rfl) ?_
                  refine QL.no rfl rfl rfl (.inl rfl) ?_
                  refine QL.no rfl rfl rfl (.inl rfl) ?_
                  refine QL.no rfl rfl rfl (.inr rfl) ?_
                  refine QL.no rfl rfl rfl (.inr rfl) ?_
                  refine QL.no rfl rfl rfl (.inr rfl) ?_
                  refine QL.no rfl rfl rfl (.inr rfl) ?_
                  refine QL.no rfl rfl rfl (.inr rfl) ?_
                  refine QL.no rfl rfl rfl (.inr rfl) ?_
                  refine QL.no rfl rfl rfl (.inl rfl) ?_
                  refine QL.val rfl (fun w hs => run_pickF rfl) ?_
                  refine QL.val rfl (fun w hs => run_move) ?_
                  refine QL.yes rfl rfl rfl ?_; refine QL.val rfl (fun w hs => run_move) ?_
                  refine QL.yes rfl rfl rfl ?_; refine QL.val rfl (fun w hs => run_move) ?_
                  refine QL.yes rfl rfl rfl ?_
                  refine QL.val rfl (fun w hs => run_bT (run_geq rfl rfl) (by omega)) ?_
                  refine QL.yes rfl rfl rfl ?_; refine QL.val rfl (fun w hs => run_move) ?_
                  refine QL.yes rfl rfl rfl ?_
                  refine QL.val rfl (fun w hs => run_loadN ty48 rfl hxl hs.a1) ?_
                  refine QL.yes rfl rfl rfl ?_; refine QL.val rfl (fun w hs => run_move) ?_
                  refine QL.yes rfl rfl rfl ?_
                  refine QL.val rfl (fun w hs => run_sub (c := (-10 - (i : Int))) rfl rfl (by omega) (by omega)) ?_
                  refine QL.yes rfl rfl rfl ?_; refine QL.val rfl (fun w hs => run_move) ?_
                  refine QL.yes rfl rfl rfl ?_; refine QL.val rfl (fun w hs => run_move) ?_
                  refine QL.yes rfl rfl rfl ?_
                  refine QL.val rfl (fun w hs => run_sub (c := ((j : Nat) : Int)) rfl rfl (by omega) (by omega)) ?_
                  refine QL.yes rfl rfl rfl ?_; (first | refine QL.val rfl (fun w hs => run_convU8 Try.underlying3 Try.underlying5 rfl) ?_ | refine QL.val rfl (fun w hs => run_convInt Try.underlying3 Try.underlying5 rfl) ?_)
                  refine QL.yes rfl rfl rfl ?_
                  refine QL.val rfl (fun w hs => run_build rfl ((bld_gA _ _))) ?_
                  refine QL.yes rfl rfl rfl ?_
                  refine QL.val rfl (fun w hs => run_build rfl ((bld_gF _ _ _))) ?_
                  refine QL.yes rfl rfl rfl ?_
                  refine QL.val rfl (fun w hs => run_bF (run_neqAgg Ent.lits_iff ent_key (ent_formed hxo) (ent_formed hxo) ent_guard rfl rfl (lits_ent hxo) (lits_ent hxo)) (fun h => h rfl)) ?_
                  refine QL.yes rfl rfl rfl ?_; (first | refine QL.val rfl (fun w hs => run_pickT rfl) ?_ | refine QL.val rfl (fun w hs => run_pickF rfl) ?_)
                  refine QL.val rfl (fun w hs => run_pickF rfl) ?_
                  refine QL.nil (fun w hs => ?_)
                  refine CW.cond rfl (fun h => ?_) (fun h => ?_)
                  · cases h
                  replace hs := hs.tail.tail
                  refine CW.skip ?_
                  refine CW.reg ?_
                  refine WL.val rfl (run_move) ?_
                  refine WL.val rfl (run_add (c := ((ns i + j + 1 : Nat) : Int)) rfl rfl (by omega) (by omega)) ?_
                  refine WL.val rfl (run_assign) ?_
                  refine WL.nil ?_
                  refine (show _ ∧ _ from ⟨rfl, _, ?_, ns i + j + 1, by omega, rfl, hs, rfl, rfl, rfl, rfl, rfl, trivial⟩)
                  omega
              · cases h
            · obtain rfl : k = ns i + 20 := by omega
              refine CW.seq <| CW.seq ?_
              refine CW.reg ?_
              refine WL.val rfl (run_move) ?_
              refine WL.val rfl (run_move) ?_
              refine WL.val rfl (run_add (c := ((ns i + 20 : Nat) : Int)) rfl rfl (by omega) (by omega)) ?_
              refine WL.val rfl (run_bF (run_lss rfl rfl) (by omega)) ?_
              refine WL.nil ?_
              repeat (first | refine CW.exit ?_ | refine CW.condF rfl ?_)
              refine CW.reg ?_
              refine WL.val rfl (run_move) ?_
              refine WL.val rfl (run_add (c := ((i + 1 : Nat) : Int)) rfl rfl (by omega) (by omega)) ?_
              refine WL.val rfl (run_assign) ?_
              refine WL.nil ?_
              refine (show _ ∧ _ from ⟨rfl, _, ?_, i + 1, by omega, rfl, hs, rfl, rfl, rfl, trivial⟩)
              omega
        · cases h
      · obtain rfl : i = N := by omega
        refine CW.seq <| CW.seq ?_
        refine CW.reg ?_
        refine WL.val rfl (run_move) ?_
        refine WL.val rfl (run_move) ?_
        refine WL.val rfl (run_lenSl Try.underlying57 rfl) ?_
        refine WL.val rfl (run_bF (run_lss rfl rfl) (by omega)) ?_
        refine WL.nil ?_
        repeat (first | refine CW.exit ?_ | refine CW.condF rfl ?_)
        exact ⟨rfl, hs⟩
  clear hs
  intro f w hs
  refine CW.seq ?_
  refine CW.reg ?_
  refine WL.val rfl (run_assign) ?_
  refine WL.nil ?_
  refine CW.ret ?_
  refine fin_ret1 rfl ?_
  exact ⟨rfl, hs.clear⟩
end
end Go.Gx
/-! Grow3 -/
namespace Go.Gx
open Go.Proofs
set_option linter.unusedVariables false
set_option linter.unusedSimpArgs false
set_option maxRecDepth 100000
theorem wrap8_nat (n : Nat) : IntKind.u8.wrap (n : Int) = ((n % 256 : Nat) : Int) := by
  unfold IntKind.wrap
  simp only [IntKind.bits, IntKind.signed, Bool.false_and, Bool.false_eq_true, if_false]
  have : (2 : Int) ^ 8 = ((256 : Nat) : Int) := by decide
  rw [this, Int.natCast_emod]
section
variable {P : Program} {f : Slots} {w : World} {d : Option Tmp} {ty : TypeId} {pos : String} {af : Array Edge} {x y : Operand} {T T' : TypeId} {a b : UInt8}
theorem run_mul8 (hx : ev f x = .int .u8 a.toNat) (hy : ev f y = .int .u8 b.toNat) : (execOp (ev f) ⟨d, .binOp .mul T x y T', ty, pos, af, none⟩).run P w = .ok (.value (.int .u8 (a * b).toNat)) w := by
  rw [run_mulW hx hy]
  have e : ((a.toNat : Int) * (b.toNat : Int)) = ((a.toNat * b.toNat : Nat) : Int) := by rw [Int.natCast_mul]
  rw [e, wrap8_nat, UInt8.toNat_mul]
theorem run_sub8 (hx : ev f x = .int .u8 a.toNat) (hy : ev f y = .int .u8 b.toNat) : (execOp (ev f) ⟨d, .binOp .sub T x y T', ty, pos, af, none⟩).run P w = .ok (.value (.int .u8 (a - b).toNat)) w := by
  rw [run_subW hx hy]
  have hb := b.toNat_lt
  have h1 : IntKind.u8.wrap ((a.toNat : Int) - (b.toNat : Int)) = IntKind.u8.wrap (((256 - b.toNat + a.toNat : Nat) : Nat) : Int) := by
    unfold IntKind.wrap
    simp only [IntKind.bits, IntKind.signed, Bool.false_and, Bool.false_eq_true, if_false]
    have : (2 : Int) ^ 8 = 256 := by decide
    rw [this]
    omega
  rw [h1, wrap8_nat, UInt8.toNat_sub]
theorem run_xor8 (hx : ev f x = .int .u8 a.toNat) (hy : ev f y = .int .u8 b.toNat) : (execOp (ev f) ⟨d, .binOp .xor T x y T', ty, pos, af, none⟩).run P w = .ok (.value (.int .u8 (a ^^^ b).toNat)) w := by
  have ha : BitVec.ofInt 8 ((a.toNat : Nat) : Int) = a.toBitVec := by
    rw [BitVec.ofInt_natCast]
    simp
  have hb : BitVec.ofInt 8 ((b.toNat : Nat) : Int) = b.toBitVec := by
    rw [BitVec.ofInt_natCast]
    simp
  have hl := wrap8_nat (a ^^^ b).toNat
  rw [Nat.mod_eq_of_lt (UInt8.toNat_lt _)] at hl
  simp [execOp, hx, hy, go_sem, Op.intBits, IntKind.bits, ha, hb]
  have hl2 : IntKind.u8.wrap (((a.toBitVec ^^^ b.toBitVec).toNat : Nat) : Int) = ((a.toNat ^^^ b.toNat : Nat) : Int) := by
    rw [show (a.toBitVec ^^^ b.toBitVec).toNat = a.toNat ^^^ b.toNat from BitVec.toNat_xor _ _]
    simpa using hl
  exact hl2
end
def m1 (i k : Nat) : UInt8 := (UInt8.ofNat i ^^^ UInt8.ofNat (i / 256 ^ 1) * 7) ^^^ UInt8.ofNat k * 3
def m2 (i k : Nat) : UInt8 := (255 - UInt8.ofNat i) ^^^ UInt8.ofNat k * 5
def gb1 (i n : Nat) : List UInt8 := (List.range n).map (m1 i)
def gb2 (i n : Nat) : List UInt8 := (List.range n).map (m2 i)
theorem gb1_len (i n : Nat) : (gb1 i n).length = n := by simp [gb1]
theorem gb2_len (i n : Nat) : (gb2 i n).length = n := by simp [gb2]
theorem gb1_rows (i n : Nat) : (u8s (gb1 i n)).length = n * 1 := by simp [u8s, gb1]
theorem gb1_succ (i n : Nat) : u8s (gb1 i (n + 1)) = u8s (gb1 i n) ++ [.int .u8 (m1 i n).toNat] := by simp [gb1, u8s, List.range_succ]
theorem gb2_succ (i n : Nat) : u8s (gb2 i (n + 1)) = u8s (gb2 i n) ++ [.int .u8 (m2 i n).toNat] := by simp [gb2, u8s, List.range_succ]
theorem gb_set {i k : Nat} {Z more : List Value} (hZ : 1 ≤ Z.length) : (u8s (gb1 i k) ++ (Z ++ more)).set (0 + k * 1) (.int .u8 (m1 i k).toNat) = u8s (gb1 i (k + 1)) ++ (Z.drop 1 ++ more) := by
  have hl : (u8s (gb1 i k)).length = k := by simp [u8s, gb1]
  match Z, hZ with
  | z :: Z, _ =>
    rw [Nat.zero_add, Nat.mul_one, List.set_append_right _ _ (by rw [hl]; exact Nat.le_refl _), hl, Nat.sub_self, gb1_succ]
    simp
theorem At.u8q {w : World} {b off : Nat} {l : List UInt8} {x : UInt8} {k : Nat} (ha : At w b off (u8s l)) (hk : l[k]? = some x) : w.cell? ⟨b, off + k * 1, none⟩ = some (.int .u8 x.toNat) := by
  rw [Nat.mul_one]
  exact ha.cell (by simp [u8s, hk])
theorem gb1_get {i n k : Nat} (h : k < n) : (gb1 i n)[k]? = some (m1 i k) := by rw [gb1, List.getElem?_map, List.getElem?_range h]; rfl
theorem gb2_get {i n k : Nat} (h : k < n) : (gb2 i n)[k]? = some (m2 i k) := by rw [gb2, List.getElem?_map, List.getElem?_range h]; rfl
section
variable {N : Nat} {bA oA cA : Nat} {vs : Nat → Value} {ns : Nat → Nat} {xs : Nat → List Value} {Ls : Nat → List (Nat × Obj)} {w0 : World}
set_option maxHeartbeats 8000000 in
theorem grownB_spec (hN : N ≤ 1000) (hN0 : 0 < N) (ha : At w0 bA oA ((List.range N).map vs)) (hO : ∀ i, i < N → OwnSl 5 1 (vs i) (ns i) (xs i) (Ls i)) (hn : ∀ i, i < N → ns i ≤ 2000000) (hw : Step ((allL Ls N).map (·.1)) (allL Ls N) w0 w0) (hbA : bA ∉ (allL Ls N).map (·.1)) :
    Calls Try.prog 31 #[.slice (some ⟨bA, oA, none⟩) N cA] w0 fun e w' => e = .returned (.bool true) ∧ Step ((allL Ls N).map (·.1)) [] w0 w' := by
  have hs : Step ((allL Ls N).map (·.1)) (allL Ls N) w0 w0 := hw
  have hobt : ∃ S, (allL Ls N).map (·.1) = S := ⟨_, rfl⟩
  obtain ⟨S, hS⟩ := hobt
  rw [hS] at hs hbA ⊢
  have hvl : ((List.range N).map vs).length = N := by simp
  have hcell : ∀ {i : Nat} {X : List (Nat × Obj)} {w : World}, i < N → Step S X w0 w → w.cell? ⟨bA, oA + i * 1, none⟩ = some (vs i) := fun {i X w} hi hs => by
    rw [Nat.mul_one]
    exact (ha.step hs hbA).cell (by rw [List.getElem?_map, List.getElem?_range hi]; rfl)
  refine calls (n := 138) Try.func31 rfl rfl rfl ?_
  refine CW.seq ?_
  refine CW.reg ?_
  refine WL.val rfl (run_assign) ?_
  refine WL.nil ?_
  refine CW.seqM (fun f w => ∃ Lc : Nat → List (Nat × Obj), (∀ q, q < N → OwnSl 5 1 (vs q) (ns q) (u8s (gb1 q (ns q))) (Lc q)) ∧ Step S (allL Lc N) w0 w ∧ Holds f [(0, .slice (some ⟨bA, oA, none⟩) N cA)]) ?_ ?_
  · refine CW.seq ?_
    refine CW.reg ?_
    refine WL.val rfl (run_assign) ?_
    refine WL.nil ?_
    refine CW.block ?_
    refine CW.loop (fun m f w' => ∃ (i : Nat) (Lc : Nat → List (Nat × Obj)) (ys : Nat → List Value), i ≤ N ∧ m = N - i ∧ (∀ q, q < i → ys q = u8s (gb1 q (ns q))) ∧ (∀ q, q < N → OwnSl 5 1 (vs q) (ns q) (ys q) (Lc q)) ∧ Step S (allL Lc N) w0 w' ∧ Holds f [(0, .slice (some ⟨bA, oA, none⟩) N cA), (3, .int .i64 (i : Nat))]) (m := N) ?_ ?_
    · exact ⟨0, Ls, xs, Nat.zero_le _, rfl, fun q hq => (by omega), hO, hs, rfl, rfl, trivial⟩
    · rintro m f w ⟨i, Lc, ys, hi, rfl, hy, ho, hs, hf⟩
      have hobt := hf.chain
      obtain ⟨g, rfl⟩ := hobt
      by_cases hlt : i < N
      · refine CW.seq <| CW.seq ?_
        refine CW.reg ?_
        refine WL.val rfl (run_move) ?_
        refine WL.val rfl (run_move) ?_
        refine WL.val rfl (run_lenSl Try.underlying56 rfl) ?_
        refine WL.val rfl (run_bT (run_lss rfl rfl) (by omega)) ?_
        refine WL.nil ?_
        refine CW.cond rfl (fun h => ?_) (fun h => ?_)
        · have hoi := ho i hlt
          have hni := hn i hlt
          have hobt := hoi.form
          obtain ⟨ai, ci, hvi⟩ := hobt
          have hvc : ∀ {X : List (Nat × Obj)} {w : World}, Step S X w0 w → w.cell? ⟨bA, oA + i * 1, none⟩ = some (.slice ai (ns i) ci) := fun hs => (hcell hlt hs).trans (congrArg some hvi)
          refine CW.skip ?_
          refine CW.seqM (fun f w => ∃ L', OwnSl 5 1 (vs i) (ns i) (u8s (gb1 i (ns i))) L' ∧ Step S (L' ++ othL Lc i N) w0 w ∧ Holds f [(0, .slice (some ⟨bA, oA, none⟩) N cA), (3, .int .i64 (i : Nat))]) ?_ ?_
          · have hop : Step S (Lc i ++ othL Lc i N) w0 w := Step.openA (A := []) hlt hs
            clear hs
            have hs := hop
            by_cases h0 : ns i = 0
            · repeat (first | refine CW.seq ?_ | refine CW.block ?_)
              refine CW.reg ?_
              refine WL.val rfl (run_assign) ?_
              refine WL.nil ?_
              refine CW.block ?_
              refine CW.loop (fun m f w' => m = 0 ∧ Step S (Lc i ++ othL Lc i N) w0 w' ∧ Holds f [(0, .slice (some ⟨bA, oA, none⟩) N cA), (3, .int .i64 (i : Nat)), (4, .int .i64 0)]) (m := 0) ?_ ?_
              · exact ⟨rfl, hs, rfl, rfl, rfl, trivial⟩
              · rintro m f w ⟨rfl, hs, hf⟩
                have hobt := hf.chain
                obtain ⟨g, rfl⟩ := hobt
                refine CW.seq <| CW.seq ?_
                refine CW.reg ?_
                refine WL.val rfl (run_move) ?_
                refine WL.val rfl (run_move) ?_
                refine WL.val rfl (run_move) ?_
                refine WL.val rfl (run_ixSlN Try.underlying56 ty29 rfl rfl (by omega)) ?_
                refine WL.val rfl (run_load1 ty29 rfl ((hvc hs))) ?_
                refine WL.val rfl (run_lenSl Try.underlying29 rfl) ?_
                refine WL.val rfl (run_bF (run_lss rfl rfl) (by omega)) ?_
                refine WL.nil ?_
                repeat (first | refine CW.exit ?_ | refine CW.condF rfl ?_)
                refine ⟨rfl, Lc i, ?_, hs, rfl, rfl, trivial⟩
                have e1 := hoi.1
                rw [h0, Nat.zero_mul] at e1
                have e2 : ys i = u8s (gb1 i (ns i)) := by rw [List.eq_nil_of_length_eq_zero e1, h0]; rfl
                rw [← e2]
                exact hoi
            · have hobt := hoi.some1 (by omega)
              obtain ⟨b, cap, more, hvb, hLb, hcap⟩ := hobt
              have hyl := hoi.1
              rw [hLb] at hs
              have hvb' : ∀ {X : List (Nat × Obj)} {w : World}, Step S X w0 w → w.cell? ⟨bA, oA + i * 1, none⟩ = some (.slice (some ⟨b, 0, none⟩) (ns i) cap) := fun hs => (hcell hlt hs).trans (congrArg some hvb)
              repeat (first | refine CW.seq ?_ | refine CW.block ?_)
              refine CW.reg ?_
              refine WL.val rfl (run_assign) ?_
              refine WL.nil ?_
              refine CW.block ?_
              refine CW.loop (fun m f w' => ∃ (k : Nat) (Z : List Value), k ≤ ns i ∧ m = ns i - k ∧ Z.length = (ns i - k) * 1 ∧ Step S ((b, blk 5 (u8s (gb1 i k) ++ (Z ++ more))) :: othL Lc i N) w0 w' ∧ Holds f [(0, .slice (some ⟨bA, oA, none⟩) N cA), (3, .int .i64 (i : Nat)), (4, .int .i64 (k : Nat))]) (m := ns i) ?_ ?_
              · exact ⟨0, ys i, Nat.zero_le _, rfl, hyl, hs, rfl, rfl, rfl, trivial⟩
              · rintro m f w ⟨k, Z, hk, rfl, hZ, hs, hf⟩
                have hobt := hf.chain
                obtain ⟨g, rfl⟩ := hobt
                by_cases hkl : k < ns i
                · have hgl := gb1_rows i k
                  have hbl : (u8s (gb1 i k) ++ (Z ++ more)).length = k * 1 + (ns i - k) * 1 + more.length := by rw [List.length_append, List.length_append, hgl, hZ]; omega
                  refine CW.seq <| CW.seq ?_
                  refine CW.reg ?_
                  refine WL.val rfl (run_move) ?_
                  refine WL.val rfl (run_move) ?_
                  refine WL.val rfl (run_move) ?_
                  refine WL.val rfl (run_ixSlN Try.underlying56 ty29 rfl rfl (by omega)) ?_
                  refine WL.val rfl (run_load1 ty29 rfl ((hvb' hs))) ?_
                  refine WL.val rfl (run_lenSl Try.underlying29 rfl) ?_
                  refine WL.val rfl (run_bT (run_lss rfl rfl) (by omega)) ?_
                  refine WL.nil ?_
                  refine CW.cond rfl (fun h => ?_) (fun h => ?_)
                  · repeat (first | refine CW.seq ?_ | refine CW.block ?_ | refine CW.skip ?_)
                    refine CW.reg ?_
                    refine WL.val rfl (run_move) ?_
                    refine WL.val rfl (run_move) ?_
                    refine WL.val rfl (run_ixSlN Try.underlying56 ty29 rfl rfl (by omega)) ?_
                    refine WL.val rfl (run_load1 ty29 rfl ((hvb' hs))) ?_
                    refine WL.val rfl (run_move) ?_
                    refine WL.val rfl (run_move) ?_
                    refine WL.val rfl (run_convU8 Try.underlying3 Try.underlying5 rfl) ?_
                    refine WL.val rfl (run_move) ?_
                    refine WL.val rfl (run_shrN (j := 1) rfl rfl (by decide)) ?_
                    refine WL.val rfl (run_convU8 Try.underlying3 Try.underlying5 rfl) ?_
                    refine WL.val rfl (run_mul8 (b := 7) rfl rfl) ?_
                    refine WL.val rfl (run_xor8 rfl rfl) ?_
                    refine WL.val rfl (run_move) ?_
                    refine WL.val rfl (run_convU8 Try.underlying3 Try.underlying5 rfl) ?_
                    refine WL.val rfl (run_mul8 (b := 3) rfl rfl) ?_
                    refine WL.val rfl (run_xor8 rfl rfl) ?_
                    refine WL.val rfl (run_ixSlN Try.underlying29 ty5 rfl rfl (by omega)) ?_
                    refine WL.store1 ty5 rfl rfl (rfl) hs (by first | (simp; done) | omega | (simp only [List.length_append, List.length_replicate, List.length_cons, List.length_nil, List.length_set]; omega) | (simp [Ent.cells, u8s]; done) | exact Nat.le_of_ble_eq_true rfl) (fun w hs => ?_)
                    refine WL.nil ?_
                    replace hs : Step S ((b, blk 5 (u8s (gb1 i (k + 1)) ++ (Z.drop 1 ++ more))) :: othL Lc i N) w0 w := by
                      rw [← gb_set (by omega)]
                      exact hs
                    refine CW.reg ?_
                    refine WL.val rfl (run_move) ?_
                    refine WL.val rfl (run_add (c := ((k + 1 : Nat) : Int)) rfl rfl (by omega) (by omega)) ?_
                    refine WL.val rfl (run_assign) ?_
                    refine WL.nil ?_
                    refine (show _ ∧ _ from ⟨rfl, _, ?_, k + 1, Z.drop 1, by omega, rfl, (by rw [List.length_drop, hZ]; omega), hs, rfl, rfl, rfl, trivial⟩)
                    omega
                  · cases h
                · obtain rfl : k = ns i := by omega
                  refine CW.seq <| CW.seq ?_
                  refine CW.reg ?_
                  refine WL.val rfl (run_move) ?_
                  refine WL.val rfl (run_move) ?_
                  refine WL.val rfl (run_move) ?_
                  refine WL.val rfl (run_ixSlN Try.underlying56 ty29 rfl rfl (by omega)) ?_
                  refine WL.val rfl (run_load1 ty29 rfl ((hvb' hs))) ?_
                  refine WL.val rfl (run_lenSl Try.underlying29 rfl) ?_
                  refine WL.val rfl (run_bF (run_lss rfl rfl) (by omega)) ?_
                  refine WL.nil ?_
                  repeat (first | refine CW.exit ?_ | refine CW.condF rfl ?_)
                  have hZ0 : Z = [] := List.eq_nil_of_length_eq_zero (by rw [hZ, Nat.sub_self, Nat.zero_mul])
                  rw [hZ0, List.nil_append] at hs
                  refine ⟨rfl, [_], ⟨gb1_rows _ _, .inr ⟨b, cap, more, hvb, rfl, ?_⟩⟩, hs, rfl, rfl, trivial⟩
                  rw [List.length_append, gb1_rows]
                  rw [List.length_append, hyl] at hcap
                  exact hcap
          clear hs hf
          rintro f w ⟨L', hown, hs, hf⟩
          have hobt := hf.chain
          obtain ⟨g, rfl⟩ := hobt
          replace hs : Step S (allL (putL Lc i L') N) w0 w := Step.shutA (A := []) hlt hs
          refine CW.reg ?_
          refine WL.val rfl (run_move) ?_
          refine WL.val rfl (run_add (c := ((i + 1 : Nat) : Int)) rfl rfl (by omega) (by omega)) ?_
          refine WL.val rfl (run_assign) ?_
          refine WL.nil ?_
          refine (show _ ∧ _ from ⟨rfl, _, ?_, i + 1, putL Lc i L', (fun q => if q = i then u8s (gb1 i (ns i)) else ys q), by omega, rfl, ?_, ?_, hs, rfl, rfl, trivial⟩)
          · omega
          · intro q hq
            by_cases hqi : q = i
            · subst hqi; simp
            · simp only [hqi, if_false]
              exact hy q (by omega)
          · intro q hq
            by_cases hqi : q = i
            · subst hqi; simp only [putL, if_true]; exact hown
            · simp only [putL, hqi, if_false]; exact ho q hq
        · cases h
      · obtain rfl : i = N := by omega
        refine CW.seq <| CW.seq ?_
        refine CW.reg ?_
        refine WL.val rfl (run_move) ?_
        refine WL.val rfl (run_move) ?_
        refine WL.val rfl (run_lenSl Try.underlying56 rfl) ?_
        refine WL.val rfl (run_bF (run_lss rfl rfl) (by omega)) ?_
        refine WL.nil ?_
        repeat (first | refine CW.exit ?_ | refine CW.condF rfl ?_)
        exact ⟨rfl, Lc, fun q hq => by rw [← hy q hq]; exact ho q hq, hs, rfl, trivial⟩
  clear hs
  rintro f w ⟨Lc, ho, hs, hf⟩
  have hobt := hf.chain
  obtain ⟨g, rfl⟩ := hobt
  refine CW.seq ?_
  refine CW.reg ?_
  refine WL.val rfl (run_assign) ?_
  refine WL.nil ?_
  have hcv : Cells1 ((List.range N).map vs) := fun v hv => by
    have hobt := List.mem_map.1 hv
    obtain ⟨q, hq, rfl⟩ := hobt
    exact (ho q (by simpa using hq)).one
  have hav : ∀ {X : List (Nat × Obj)} {w : World}, Step S X w0 w → Sl w 1 (.slice (some ⟨bA, oA, none⟩) N cA) N ((List.range N).map vs) := fun hs => .mk (by simp) (ha.step hs hbA)
  refine CW.seq ?_
  refine CW.reg ?_
  refine WL.val rfl (run_move) ?_
  refine WL.val rfl (run_move) ?_
  refine WL.append Try.underlying56 Try.underlying56 ty29 rfl (by decide) rfl rfl (OwnSl.nil _ _) (hs) (hav hs) (hcv) (by first | omega | (simp only [List.length_append, List.length_cons, List.length_nil]; omega)) rfl (fun v46 Lv46 w hv46 hs => ?_)
  refine WL.val rfl (run_assign) ?_
  refine WL.nil ?_
  rw [Nat.zero_add, List.nil_append] at hv46
  have hobt := hv46.some1 hN0
  obtain ⟨bm, cm, room, hvm, hLm, hcm⟩ := hobt
  rw [hLm] at hs
  replace hs : Step S ((bm, blk 29 ((List.range N).map vs ++ room)) :: allL Lc N) w0 w := hs
  have hvc : ∀ {i : Nat} {X : List (Nat × Obj)} {w : World}, i < N → Step S X w0 w → ∃ a c, vs i = .slice a (ns i) c ∧ w.cell? ⟨bA, oA + i * 1, none⟩ = some (.slice a (ns i) c) := fun {i X w} hi hs => by
    have hobt := (ho i hi).form
    obtain ⟨a, c, hvi⟩ := hobt
    exact ⟨a, c, hvi, (hcell hi hs).trans (congrArg some hvi)⟩
  refine CW.seqM (fun f w => ∃ (us : Nat → Value) (L2 : Nat → List (Nat × Obj)), (∀ q, q < N → Tw 5 1 (vs q) (us q) (ns q) 96 (u8s (gb1 q (ns q))) (u8s (gb2 q 96)) (L2 q)) ∧ Step S ((bm, blk 29 ((List.range N).map us ++ room)) :: allL L2 N) w0 w ∧ Holds f [(0, .slice (some ⟨bA, oA, none⟩) N cA), (5, .slice (some ⟨bm, 0, none⟩) N cm)]) ?_ ?_
  · refine CW.seq ?_
    refine CW.reg ?_
    refine WL.val rfl (run_assign) ?_
    refine WL.nil ?_
    refine CW.block ?_
    refine CW.loop (fun m f w' => ∃ (k : Nat) (us : Nat → Value) (L2 : Nat → List (Nat × Obj)), k ≤ 96 ∧ m = 96 - k ∧ (∀ q, q < N → Tw 5 1 (vs q) (us q) (ns q) k (u8s (gb1 q (ns q))) (u8s (gb2 q k)) (L2 q)) ∧ Step S ((bm, blk 29 ((List.range N).map us ++ room)) :: allL L2 N) w0 w' ∧ Holds f [(0, .slice (some ⟨bA, oA, none⟩) N cA), (5, .slice (some ⟨bm, 0, none⟩) N cm), (6, .int .i64 (k : Nat))]) (m := 96) ?_ ?_
    · exact ⟨0, vs, Lc, by omega, rfl, fun q hq => Tw.start (ho q hq), hs, rfl, hvm, rfl, trivial⟩
    · clear hs
      rintro m f w ⟨k, us, L2, hk, rfl, hT, hs, hf⟩
      have hobt := hf.chain
      obtain ⟨g, rfl⟩ := hobt
      by_cases hk20 : k < 96
      · refine CW.seq <| CW.seq ?_
        refine CW.reg ?_
        refine WL.val rfl (run_move) ?_
        refine WL.val rfl (run_bT (run_lss rfl rfl) (by omega)) ?_
        refine WL.nil ?_
        refine CW.cond rfl (fun h => ?_) (fun h => ?_)
        · repeat (first | refine CW.seq ?_ | refine CW.block ?_ | refine CW.skip ?_)
          refine CW.reg ?_
          refine WL.val rfl (run_assign) ?_
          refine WL.nil ?_
          refine CW.block ?_
          refine CW.loop (fun m f w' => ∃ (i : Nat) (us : Nat → Value) (L2 : Nat → List (Nat × Obj)), i ≤ N ∧ m = N - i ∧ (∀ q, q < N → q < i → Tw 5 1 (vs q) (us q) (ns q) (k + 1) (u8s (gb1 q (ns q))) (u8s (gb2 q (k + 1))) (L2 q)) ∧ (∀ q, q < N → i ≤ q → Tw 5 1 (vs q) (us q) (ns q) k (u8s (gb1 q (ns q))) (u8s (gb2 q k)) (L2 q)) ∧ Step S ((bm, blk 29 ((List.range N).map us ++ room)) :: allL L2 N) w0 w' ∧ Holds f [(0, .slice (some ⟨bA, oA, none⟩) N cA), (5, .slice (some ⟨bm, 0, none⟩) N cm), (6, .int .i64 (k : Nat)), (7, .int .i64 (i : Nat))]) (m := N) ?_ ?_
          · exact ⟨0, us, L2, Nat.zero_le _, rfl, fun q _ h => (by omega), fun q hq _ => hT q hq, hs, rfl, rfl, rfl, rfl, trivial⟩
          · clear hs hT
            rintro m f w ⟨i, us, L2, hi, rfl, hT1, hT0, hs, hf⟩
            have hobt := hf.chain
            obtain ⟨g, rfl⟩ := hobt
            by_cases hlt : i < N
            · have hTi := hT0 i hlt (Nat.le_refl _)
              have hni := hn i hlt
              have hobt := hTi.formR
              obtain ⟨au, cu, hui⟩ := hobt
              have hmg : ((List.range N).map us ++ room)[0 + i * 1]? = some (.slice au (ns i + k) cu) := (map_get hlt).trans (congrArg some hui)
              have hml : ((List.range N).map us ++ room).length = N + room.length := by simp
              rw [hui] at hTi
              refine CW.seq <| CW.seq ?_
              refine CW.reg ?_
              refine WL.val rfl (run_move) ?_
              refine WL.val rfl (run_move) ?_
              refine WL.val rfl (run_lenSl Try.underlying56 rfl) ?_
              refine WL.val rfl (run_bT (run_lss rfl rfl) (by omega)) ?_
              refine WL.nil ?_
              refine CW.cond rfl (fun h => ?_) (fun h => ?_)
              · repeat (first | refine CW.seq ?_ | refine CW.block ?_ | refine CW.skip ?_)
                refine CW.reg ?_
                refine WL.val rfl (run_move) ?_
                refine WL.val rfl (run_move) ?_
                refine WL.val rfl (run_move) ?_
                refine WL.val rfl (run_move) ?_
                refine WL.val rfl (run_ixSlN Try.underlying56 ty29 rfl rfl (by omega)) ?_
                refine WL.val rfl (run_load1 ty29 rfl (hs.c0 hmg)) ?_
                refine WL.val rfl (run_move) ?_
                refine WL.val rfl (run_convU8 Try.underlying3 Try.underlying5 rfl) ?_
                refine WL.val rfl (run_sub8 (a := 255) rfl rfl) ?_
                refine WL.val rfl (run_move) ?_
                refine WL.val rfl (run_convU8 Try.underlying3 Try.underlying5 rfl) ?_
                refine WL.val rfl (run_mul8 (b := 5) rfl rfl) ?_
                refine WL.val rfl (run_xor8 rfl rfl) ?_
                refine WL.buildSlice (cs := [.int .u8 (m2 i k).toNat]) Try.underlying29 ty5 rfl (by decide) rfl (by rfl) rfl hs (fun b70 w hs => ?_)
                have hsl : Sl w 1 (.slice (some ⟨b70, 0, none⟩) 1 1) 1 [.int .u8 (m2 i k).toNat] := .own1 hs rfl
                refine WL.appendTw Try.underlying29 Try.underlying29 ty5 rfl (by decide) rfl rfl (hTi) (Step.openA (A := [_, _]) hlt hs) (hsl) (by decide) (Cells1.of_all rfl) (by omega) rfl (fun u71 L71 w hu71 hs => ?_)
                refine WL.val rfl (run_ixSlN Try.underlying56 ty29 rfl rfl (by omega)) ?_
                refine WL.store1 ty29 rfl rfl (hu71.oneR) ((Step.front (L71 ++ [_]) (p := (bm, blk 29 ((List.range N).map us ++ room))) (by rw [List.append_assoc]; exact hs))) (by first | (simp; done) | omega | (simp only [List.length_append, List.length_replicate, List.length_cons, List.length_nil, List.length_set]; omega) | (simp [Ent.cells, u8s]; done) | exact Nat.le_of_ble_eq_true rfl) (fun w hs => ?_)
                refine WL.nil ?_
                rw [set_map hlt] at hs
                replace hs := Step.dropX (A := _ :: L71) (B := othL L2 i N) (by simpa [List.append_assoc] using hs)
                replace hs := Step.shutA (A := [_]) hlt (hs.perm List.perm_middle.symm)
                rw [← gb2_succ] at hu71
                refine CW.reg ?_
                refine WL.val rfl (run_move) ?_
                refine WL.val rfl (run_add (c := ((i + 1 : Nat) : Int)) rfl rfl (by omega) (by omega)) ?_
                refine WL.val rfl (run_assign) ?_
                refine WL.nil ?_
                refine (show _ ∧ _ from ⟨rfl, _, ?_, i + 1, (fun q => if q = i then u71 else us q), putL L2 i L71, by omega, rfl, ?_, ?_, hs, rfl, rfl, rfl, rfl, trivial⟩)
                · omega
                · intro q hq hqi
                  by_cases hqe : q = i
                  · subst hqe; simp only [putL, if_true]; exact hu71
                  · simp only [putL, hqe, if_false]; exact hT1 q hq (by omega)
                · intro q hq hqi
                  have hqe : q ≠ i := by omega
                  simp only [putL, hqe, if_false]
                  exact hT0 q hq (by omega)
              · cases h
            · obtain rfl : i = N := by omega
              refine CW.seq <| CW.seq ?_
              refine CW.reg ?_
              refine WL.val rfl (run_move) ?_
              refine WL.val rfl (run_move) ?_
              refine WL.val rfl (run_lenSl Try.underlying56 rfl) ?_
              refine WL.val rfl (run_bF (run_lss rfl rfl) (by omega)) ?_
              refine WL.nil ?_
              repeat (first | refine CW.exit ?_ | refine CW.condF rfl ?_)
              refine CW.reg ?_
              refine WL.val rfl (run_move) ?_
              refine WL.val rfl (run_add (c := ((k + 1 : Nat) : Int)) rfl rfl (by omega) (by omega)) ?_
              refine WL.val rfl (run_assign) ?_
              refine WL.nil ?_
              refine (show _ ∧ _ from ⟨rfl, _, ?_, k + 1, us, L2, by omega, rfl, (fun q hq => hT1 q hq hq), hs, rfl, rfl, rfl, trivial⟩)
              omega
        · cases h
      · obtain rfl : k = 96 := by omega
        refine CW.seq <| CW.seq ?_
        refine CW.reg ?_
        refine WL.val rfl (run_move) ?_
        refine WL.val rfl (run_bF (run_lss rfl rfl) (by omega)) ?_
        refine WL.nil ?_
        repeat (first | refine CW.exit ?_ | refine CW.condF rfl ?_)
        exact ⟨rfl, us, L2, hT, hs, rfl, rfl, trivial⟩
  clear hs hf
  rintro f w ⟨us, L2, hT, hs, hf⟩
  have hobt := hf.chain
  obtain ⟨g, rfl⟩ := hobt
  refine CW.seqM (fun f w => Step S ((bm, blk 29 ((List.range N).map us ++ room)) :: allL L2 N) w0 w) ?_ ?_
  · refine CW.seq ?_
    refine CW.reg ?_
    refine WL.val rfl (run_assign) ?_
    refine WL.nil ?_
    refine CW.block ?_
    refine CW.loop (fun m f w' => ∃ i : Nat, i ≤ N ∧ m = N - i ∧ Step S ((bm, blk 29 ((List.range N).map us ++ room)) :: allL L2 N) w0 w' ∧ Holds f [(0, .slice (some ⟨bA, oA, none⟩) N cA), (5, .slice (some ⟨bm, 0, none⟩) N cm), (8, .int .i64 (i : Nat))]) (m := N) ?_ ?_
    · exact ⟨0, Nat.zero_le _, rfl, hs, rfl, rfl, rfl, trivial⟩
    · clear hs
      rintro m f w ⟨i, hi, rfl, hs, hf⟩
      have hobt := hf.chain
      obtain ⟨g, rfl⟩ := hobt
      by_cases hlt : i < N
      · have hTi := hT i hlt
        have hni := hn i hlt
        have hobt := hvc hlt hs
        obtain ⟨av, cv, hvi, -⟩ := hobt
        have hcv : ∀ {X : List (Nat × Obj)} {w : World}, Step S X w0 w → w.cell? ⟨bA, oA + i * 1, none⟩ = some (.slice av (ns i) cv) := fun hs => (hcell hlt hs).trans (congrArg some hvi)
        have hR0 := hTi.right (w := w) fun p hp => hs.has p (List.mem_cons_of_mem _ (allL_mem hlt hp))
        have hobt := hR0.baseB (by omega)
        obtain ⟨bu, ou, cu, hui⟩ := hobt
        have hR : ∀ {w : World}, (∀ p ∈ L2 i, w.heap[p.1]? = some p.2) → At w bu ou (u8s (gb1 i (ns i) ++ gb2 i 96)) := fun h => by
          have h1 := hTi.right h
          rw [hui, ← u8s_append] at h1
          exact h1.atB (by omega)
        have hmg : ((List.range N).map us ++ room)[0 + i * 1]? = some (.slice (some ⟨bu, ou, none⟩) (ns i + 96) cu) := (map_get hlt).trans (congrArg some hui)
        refine CW.seq <| CW.seq ?_
        refine CW.reg ?_
        refine WL.val rfl (run_move) ?_
        refine WL.val rfl (run_move) ?_
        refine WL.val rfl (run_lenSl Try.underlying56 rfl) ?_
        refine WL.val rfl (run_bT (run_lss rfl rfl) (by omega)) ?_
        refine WL.nil ?_
        refine CW.cond rfl (fun h => ?_) (fun h => ?_)
        · repeat (first | refine CW.seq ?_ | refine CW.block ?_ | refine CW.skip ?_)
          refine CW.reg ?_
          refine WL.val rfl (run_move) ?_
          refine WL.val rfl (run_move) ?_
          refine WL.val rfl (run_ixSlN Try.underlying56 ty29 rfl rfl (by omega)) ?_
          refine WL.val rfl (run_load1 ty29 rfl ((hcv hs))) ?_
          refine WL.val rfl (run_lenSl Try.underlying29 rfl) ?_
          refine WL.val rfl (run_assign) ?_
          refine WL.nil ?_
          refine CW.seq ?_
          refine CW.reg ?_
          refine WL.val rfl (run_assign) ?_
          refine WL.nil ?_
          refine CW.block ?_
          refine CW.loop (fun m f w' => ∃ k : Nat, k ≤ ns i + 96 ∧ m = ns i + 96 - k ∧ Step S ((bm, blk 29 ((List.range N).map us ++ room)) :: allL L2 N) w0 w' ∧ Holds f [(0, .slice (some ⟨bA, oA, none⟩) N cA), (5, .slice (some ⟨bm, 0, none⟩) N cm), (8, .int .i64 (i : Nat)), (9, .int .i64 (ns i : Nat)), (10, .int .i64 (k : Nat))]) (m := ns i + 96) ?_ ?_
          · exact ⟨0, Nat.zero_le _, rfl, hs, rfl, rfl, rfl, rfl, rfl, trivial⟩
          · clear hs
            rintro m f w ⟨k, hk, rfl, hs, hf⟩
            have hobt := hf.chain
            obtain ⟨g, rfl⟩ := hobt
            by_cases hkl : k < ns i + 96
            · refine CW.seq <| CW.seq ?_
              refine CW.reg ?_
              refine WL.val rfl (run_move) ?_
              refine WL.val rfl (run_move) ?_
              refine WL.val rfl (run_add (c := ((ns i + 96 : Nat) : Int)) rfl rfl (by omega) (by omega)) ?_
              refine WL.val rfl (run_bT (run_lss rfl rfl) (by omega)) ?_
              refine WL.nil ?_
              refine CW.cond rfl (fun h => ?_) (fun h => ?_)
              · by_cases hkn : k < ns i
                · have hx : (gb1 i (ns i) ++ gb2 i 96)[k]? = some (m1 i k) := by rw [List.getElem?_append_left (by rw [gb1_len]; exact hkn), gb1_get hkn]
                  have hL0 := hTi.left (w := w) fun p hp => hs.has p (List.mem_cons_of_mem _ (allL_mem hlt hp))
                  have hobt := hL0.baseB (by omega)
                  obtain ⟨bv, ov, cv', hvb⟩ := hobt
                  have hLt : ∀ {w : World}, (∀ p ∈ L2 i, w.heap[p.1]? = some p.2) → At w bv ov (u8s (gb1 i (ns i))) := fun h => by
                    have h1 := hTi.left h
                    rw [hvb] at h1
                    exact h1.atB (by omega)
                  have hcb : ∀ {X : List (Nat × Obj)} {w : World}, Step S X w0 w → w.cell? ⟨bA, oA + i * 1, none⟩ = some (.slice (some ⟨bv, ov, none⟩) (ns i) cv') := fun hs => (hcell hlt hs).trans (congrArg some hvb)
                  repeat (first | refine CW.seq ?_ | refine CW.block ?_ | refine CW.skip ?_)
                  refine CW.reg ?_
                  refine WL.val rfl (run_move) ?_
                  refine WL.val rfl (run_convU8 Try.underlying3 Try.underlying5 rfl) ?_
                  refine WL.val rfl (run_move) ?_
                  refine WL.val rfl (run_shrN (j := 1) rfl rfl (by decide)) ?_
                  refine WL.val rfl (run_convU8 Try.underlying3 Try.underlying5 rfl) ?_
                  refine WL.val rfl (run_mul8 (b := 7) rfl rfl) ?_
                  refine WL.val rfl (run_xor8 rfl rfl) ?_
                  refine WL.val rfl (run_move) ?_
                  refine WL.val rfl (run_convU8 Try.underlying3 Try.underlying5 rfl) ?_
                  refine WL.val rfl (run_mul8 (b := 3) rfl rfl) ?_
                  refine WL.val rfl (run_xor8 rfl rfl) ?_
                  refine WL.val rfl (run_assign) ?_
                  refine WL.nil ?_
                  refine CW.seq <| CW.seq ?_
                  refine CW.reg ?_
                  refine WL.val rfl (run_move) ?_
                  refine WL.val rfl (run_move) ?_
                  refine WL.val rfl (run_bF (run_geq rfl rfl) (by omega)) ?_
                  refine WL.nil ?_
                  repeat (first | refine CW.seq ?_ | refine CW.skip ?_ | refine CW.condF rfl ?_)
                  refine CW.reg ?_
                  refine WL.val rfl (run_move) ?_
                  refine WL.val rfl (run_move) ?_
                  refine WL.val rfl (run_ixSlN Try.underlying56 ty29 rfl rfl (by omega)) ?_
                  refine WL.val rfl (run_load1 ty29 rfl (hs.c0 hmg)) ?_
                  refine WL.val rfl (run_move) ?_
                  refine WL.val rfl (run_ixSlN Try.underlying29 ty5 rfl rfl (by omega)) ?_
                  refine WL.val rfl (run_load1 ty5 rfl (((hR (fun p hp => hs.has p (List.mem_cons_of_mem _ (allL_mem hlt hp)))).u8q hx))) ?_
                  refine WL.val rfl (run_move) ?_
                  refine WL.val rfl (run_bF (run_neq rfl rfl) (by exact fun h => h rfl)) ?_
                  refine WL.val rfl (run_move) ?_
                  refine WL.yes rfl rfl rfl ?_; refine WL.val rfl (run_move) ?_
                  refine WL.yes rfl rfl rfl ?_; refine WL.val rfl (run_move) ?_
                  refine WL.yes rfl rfl rfl ?_
                  refine WL.val rfl (run_bT (run_lss rfl rfl) (by omega)) ?_
                  refine WL.yes rfl rfl rfl ?_; refine WL.val rfl (run_move) ?_
                  refine WL.yes rfl rfl rfl ?_; refine WL.val rfl (run_move) ?_
                  refine WL.yes rfl rfl rfl ?_; refine WL.val rfl (run_move) ?_
                  refine WL.yes rfl rfl rfl ?_; (first | refine WL.val rfl (run_ixSlN Try.underlying56 ty29 rfl rfl (by omega)) ?_ | refine WL.val rfl (run_ixSl Try.underlying56 ty29 rfl rfl (by omega)) ?_)
                  refine WL.yes rfl rfl rfl ?_
                  refine WL.val rfl (run_load1 ty29 rfl ((hcb hs))) ?_
                  refine WL.yes rfl rfl rfl ?_; refine WL.val rfl (run_move) ?_
                  refine WL.yes rfl rfl rfl ?_; (first | refine WL.val rfl (run_ixSlN Try.underlying29 ty5 rfl rfl (by omega)) ?_ | refine WL.val rfl (run_ixSl Try.underlying29 ty5 rfl rfl (by omega)) ?_)
                  refine WL.yes rfl rfl rfl ?_
                  refine WL.val rfl (run_load1 ty5 rfl (((hLt (fun p hp => hs.has p (List.mem_cons_of_mem _ (allL_mem hlt hp)))).u8q (gb1_get hkn)))) ?_
                  refine WL.yes rfl rfl rfl ?_; refine WL.val rfl (run_move) ?_
                  refine WL.yes rfl rfl rfl ?_
                  refine WL.val rfl (run_bF (run_neq rfl rfl) (by exact fun h => h rfl)) ?_
                  refine WL.yes rfl rfl rfl ?_; (first | refine WL.val rfl (run_pickT rfl) ?_ | refine WL.val rfl (run_pickF rfl) ?_)
                  refine WL.val rfl (run_pickF rfl) ?_
                  refine WL.nil ?_
                  repeat (first | refine CW.skip ?_ | refine CW.condF rfl ?_)
                  refine CW.reg ?_
                  refine WL.val rfl (run_move) ?_
                  refine WL.val rfl (run_add (c := ((k + 1 : Nat) : Int)) rfl rfl (by omega) (by omega)) ?_
                  refine WL.val rfl (run_assign) ?_
                  refine WL.nil ?_
                  refine (show _ ∧ _ from ⟨rfl, _, ?_, k + 1, by omega, rfl, hs, rfl, rfl, rfl, rfl, rfl, trivial⟩)
                  omega
                · have hobt : ∃ j, k = ns i + j := ⟨k - ns i, by omega⟩
                  obtain ⟨j, rfl⟩ := hobt
                  have hx : (gb1 i (ns i) ++ gb2 i 96)[ns i + j]? = some (m2 i j) := by rw [List.getElem?_append_right (by rw [gb1_len]; omega), gb1_len, show ns i + j - ns i = j by omega, gb2_get (by omega)]
                  repeat (first | refine CW.seq ?_ | refine CW.block ?_ | refine CW.skip ?_)
                  refine CW.reg ?_
                  refine WL.val rfl (run_move) ?_
                  refine WL.val rfl (run_convU8 Try.underlying3 Try.underlying5 rfl) ?_
                  refine WL.val rfl (run_move) ?_
                  refine WL.val rfl (run_shrN (j := 1) rfl rfl (by decide)) ?_
                  refine WL.val rfl (run_convU8 Try.underlying3 Try.underlying5 rfl) ?_
                  refine WL.val rfl (run_mul8 (b := 7) rfl rfl) ?_
                  refine WL.val rfl (run_xor8 rfl rfl) ?_
                  refine WL.val rfl (run_move) ?_
                  refine WL.val rfl (run_convU8 Try.underlying3 Try.underlying5 rfl) ?_
                  refine WL.val rfl (run_mul8 (b := 3) rfl rfl) ?_
                  refine WL.val rfl (run_xor8 rfl rfl) ?_
                  refine WL.val rfl (run_assign) ?_
                  refine WL.nil ?_
                  refine CW.seq <| CW.seq ?_
                  refine CW.reg ?_
                  refine WL.val rfl (run_move) ?_
                  refine WL.val rfl (run_move) ?_
                  refine WL.val rfl (run_bT (run_geq rfl rfl) (by omega)) ?_
                  refine WL.nil ?_
                  refine CW.condT rfl ?_
                  refine CW.reg ?_
                  refine WL.val rfl (run_move) ?_
                  refine WL.val rfl (run_convU8 Try.underlying3 Try.underlying5 rfl) ?_
                  refine WL.val rfl (run_sub8 (a := 255) rfl rfl) ?_
                  refine WL.val rfl (run_move) ?_
                  refine WL.val rfl (run_move) ?_
                  refine WL.val rfl (run_sub (c := ((j : Nat) : Int)) rfl rfl (by omega) (by omega)) ?_
                  refine WL.val rfl (run_convU8 Try.underlying3 Try.underlying5 rfl) ?_
                  refine WL.val rfl (run_mul8 (b := 5) rfl rfl) ?_
                  refine WL.val rfl (run_xor8 rfl rfl) ?_
                  refine WL.val rfl (run_assign) ?_
                  refine WL.nil ?_
                  refine CW.seq ?_
                  refine CW.reg ?_
                  refine WL.val rfl (run_move) ?_
                  refine WL.val rfl (run_move) ?_
                  refine WL.val rfl (run_ixSlN Try.underlying56 ty29 rfl rfl (by omega)) ?_
                  refine WL.val rfl (run_load1 ty29 rfl (hs.c0 hmg)) ?_
                  refine WL.val rfl (run_move) ?_
                  refine WL.val rfl (run_ixSlN Try.underlying29 ty5 rfl rfl (by omega)) ?_
                  refine WL.val rfl (run_load1 ty5 rfl (((hR (fun p hp => hs.has p (List.mem_cons_of_mem _ (allL_mem hlt hp)))).u8q hx))) ?_
                  refine WL.val rfl (run_move) ?_
                  refine WL.val rfl (run_bF (run_neq rfl rfl) (by exact fun h => h rfl)) ?_
                  refine WL.val rfl (run_move) ?_
                  refine WL.yes rfl rfl rfl ?_; refine WL.val rfl (run_move) ?_
                  refine WL.yes rfl rfl rfl ?_; refine WL.val rfl (run_move) ?_
                  refine WL.yes rfl rfl rfl ?_
                  refine WL.val rfl (run_bF (run_lss rfl rfl) (by omega)) ?_
                  refine WL.yes rfl rfl rfl ?_; refine WL.val rfl (run_move) ?_
                  refine WL.no rfl rfl rfl (.inl rfl) ?_
                  refine WL.no rfl rfl rfl (.inl rfl) ?_
                  refine WL.no rfl rfl rfl (.inl rfl) ?_
                  refine WL.no rfl rfl rfl (.inl rfl) ?_
                  refine WL.no rfl rfl rfl (.inl rfl) ?_
                  refine WL.no rfl rfl rfl (.inl rfl) ?_
                  refine WL.no rfl rfl rfl (.inl rfl) ?_
                  refine WL.no rfl rfl rfl (.inl rfl) ?_
                  refine WL.no rfl rfl rfl (.inl rfl) ?_
                  refine WL.yes rfl rfl rfl ?_; (first | refine WL.val rfl (run_pickT rfl) ?_ | refine WL.val rfl (run_pickF rfl) ?_)
                  refine WL.val rfl (run_pickF rfl) ?_
                  refine WL.nil ?_
                  repeat (first | refine CW.skip ?_ | refine CW.condF rfl ?_)
                  refine CW.reg ?_
                  refine WL.val rfl (run_move) ?_
                  refine WL.val rfl (run_add (c := ((ns i + j + 1 : Nat) : Int)) rfl rfl (by omega) (by omega)) ?_
                  refine WL.val rfl (run_assign) ?_
                  refine WL.nil ?_
                  refine (show _ ∧ _ from ⟨rfl, _, ?_, ns i + j + 1, by omega, rfl, hs, rfl, rfl, rfl, rfl, rfl, trivial⟩)
                  omega
              · cases h
            · obtain rfl : k = ns i + 96 := by omega
              refine CW.seq <| CW.seq ?_
              refine CW.reg ?_
              refine WL.val rfl (run_move) ?_
              refine WL.val rfl (run_move) ?_
              refine WL.val rfl (run_add (c := ((ns i + 96 : Nat) : Int)) rfl rfl (by omega) (by omega)) ?_
              refine WL.val rfl (run_bF (run_lss rfl rfl) (by omega)) ?_
              refine WL.nil ?_
              repeat (first | refine CW.exit ?_ | refine CW.condF rfl ?_)
              refine CW.reg ?_
              refine WL.val rfl (run_move) ?_
              refine WL.val rfl (run_add (c := ((i + 1 : Nat) : Int)) rfl rfl (by omega) (by omega)) ?_
              refine WL.val rfl (run_assign) ?_
              refine WL.nil ?_
              refine (show _ ∧ _ from ⟨rfl, _, ?_, i + 1, by omega, rfl, hs, rfl, rfl, rfl, trivial⟩)
              omega
        · cases h
      · obtain rfl : i = N := by omega
        refine CW.seq <| CW.seq ?_
        refine CW.reg ?_
        refine WL.val rfl (run_move) ?_
        refine WL.val rfl (run_move) ?_
        refine WL.val rfl (run_lenSl Try.underlying56 rfl) ?_
        refine WL.val rfl (run_bF (run_lss rfl rfl) (by omega)) ?_
        refine WL.nil ?_
        repeat (first | refine CW.exit ?_ | refine CW.condF rfl ?_)
        exact ⟨rfl, hs⟩
  clear hs
  intro f w hs
  refine CW.seq ?_
  refine CW.reg ?_
  refine WL.val rfl (run_assign) ?_
  refine WL.nil ?_
  refine CW.ret ?_
  refine fin_ret1 rfl ?_
  exact ⟨rfl, hs.clear⟩
end
end Go.Gx
/-! Own1 -/
namespace Go.Gx
open Go.Proofs
set_option linter.unusedVariables false
set_option linter.unusedSimpArgs false
set_option maxRecDepth 100000
theorem found_spec {v : Value} {l : List Ent} {n : List UInt8} (w0 : World) (hl : Es w0 v l) (hc : Rising l) (hbb : l.length ≤ 1000000) : Calls Try.prog 60 #[v, str n] w0 (Ret0 (.bool true) w0) := by
  have hs : Step [] [] w0 w0 := Step.refl w0
  have hfo := findR_ok (n := n) hl.2.1
  have hfl := Ent.cells_len hfo
  refine calls (n := 29) Try.func60 rfl rfl rfl ?_
  refine CW.seq ?_
  refine CW.reg ?_
  refine WL.val rfl (run_assign) ?_
  refine WL.nil ?_
  refine CW.seq ?_
  refine CW.reg ?_
  refine WL.val rfl (run_move) ?_
  refine WL.val rfl (run_move) ?_
  refine WL.enter rfl (run_call en26 rfl rfl) (findS_spec (l := l) (n := n) _ (hl.step0 hs) hc hbb) ?_
  rintro e w ⟨rfl, hq⟩
  refine ⟨_, rfl, ?_⟩
  replace hs := hs.callE hq
  refine WL.val rfl (run_move) ?_
  refine WL.val rfl (run_extract rfl rfl) ?_
  refine WL.val rfl (run_extract rfl rfl) ?_
  refine WL.alloc ty48 rfl hs (fun b5 w hs => ?_)
  refine WL.storeAll ty48 rfl rfl ((hfl)) (Ent.cells1 _) hs (by first | rfl | assumption) (fun w hs => ?_)
  refine WL.val rfl (run_assign) ?_
  refine WL.nil ?_
  refine CW.seq ?_
  refine CW.reg ?_
  refine WL.val rfl (run_move) ?_
  refine WL.val rfl (run_move) ?_
  refine WL.enter rfl (run_call en27 rfl rfl) (findR_spec (l := l) (n := n) _ (hl.step0 hs.clear)) ?_
  rintro e w ⟨rfl, hq⟩
  refine ⟨_, rfl, ?_⟩
  replace hs := hs.callE hq
  refine WL.val rfl (run_move) ?_
  refine WL.val rfl (run_extract rfl rfl) ?_
  refine WL.val rfl (run_extract rfl rfl) ?_
  refine WL.alloc ty48 rfl hs (fun b7 w hs => ?_)
  refine WL.storeAll ty48 rfl rfl ((hfl)) (Ent.cells1 _) hs (by first | rfl | assumption) (fun w hs => ?_)
  refine WL.val rfl (run_assign) ?_
  refine WL.nil ?_
  refine CW.seq ?_
  refine CW.reg ?_
  refine WL.val rfl (run_loadN ty48 rfl hfl hs.a1) ?_
  refine WL.val rfl (run_loadN ty48 rfl hfl hs.a0) ?_
  refine WL.val rfl (run_bT (run_eqlAgg Ent.lits_iff ent_key (ent_formed hfo) (ent_formed hfo) ent_guard rfl rfl (lits_ent hfo) (lits_ent hfo)) rfl) ?_
  refine WL.val rfl (run_move) ?_
  refine WL.yes rfl rfl rfl ?_; refine WL.val rfl (run_move) ?_
  refine WL.yes rfl rfl rfl ?_; refine WL.val rfl (run_move) ?_
  refine WL.yes rfl rfl rfl ?_
  refine WL.val rfl (run_bE (run_eqlB Try.underlying4 rfl rfl) (show ((findR n l).2 == (findR n l).2) = true by simp)) ?_
  refine WL.val rfl (run_pickT rfl) ?_
  refine WL.val rfl (run_assign) ?_
  refine WL.nil ?_
  refine CW.ret ?_
  refine fin_ret1 rfl ?_
  exact ⟨rfl, hs.clear⟩
theorem rows_setc {l : List Ent} {i j : Nat} {x y : Ent} {u : Value} (more : List Value) (ho : Oks l) (hx : l[i]? = some x) (hy : y.ok) (hj : j < 34) (he : x.cells.set j u = y.cells) : (rows l ++ more).set (i * 34 + j) u = rows (l.set i y) ++ more := by
  have hobt := List.getElem?_eq_some_iff.1 hx
  obtain ⟨hi, rfl⟩ := hobt
  have h1 := rows_set hi ho hy more
  have hxl := Ent.cells_len (ho _ (List.getElem_mem hi))
  have hrl := rows_len ho
  rw [← h1, ← he, Nat.zero_add]
  have h2 : (rows l ++ more) = rows (l.take i) ++ (l[i]).cells ++ (rows (l.drop (i + 1)) ++ more) := by
    rw [← List.append_assoc]
    congr 1
    conv => lhs; rw [rows_cut l i, List.drop_eq_getElem_cons hi]
    rw [show l[i] :: l.drop (i + 1) = [l[i]] ++ l.drop (i + 1) from rfl, rows_append, rows_one, List.append_assoc]
  have h3 : (rows (l.take i)).length = i * 34 := rows_take_len ho (by omega)
  rw [h2, splice_mid h3.symm (by rw [List.length_set]), List.append_assoc, List.set_append_right _ _ (by omega), h3, show i * 34 + j - i * 34 = j by omega, List.set_append_left _ _ (by omega), List.append_assoc]
theorem rows_getc {l : List Ent} {i j : Nat} {x : Ent} (more : List Value) (ho : Oks l) (hx : l[i]? = some x) (hj : j < 34) : (rows l ++ more)[i * 34 + j]? = x.cells[j]? := by
  have hobt := List.getElem?_eq_some_iff.1 hx
  obtain ⟨hi, rfl⟩ := hobt
  have hxl := Ent.cells_len (ho _ (List.getElem_mem hi))
  have h2 : (rows l ++ more) = rows (l.take i) ++ ((l[i]).cells ++ (rows (l.drop (i + 1)) ++ more)) := by
    rw [← List.append_assoc, ← List.append_assoc]
    congr 1
    conv => lhs; rw [rows_cut l i, List.drop_eq_getElem_cons hi]
    rw [show l[i] :: l.drop (i + 1) = [l[i]] ++ l.drop (i + 1) from rfl, rows_append, rows_one, List.append_assoc]
  have h3 : (rows (l.take i)).length = i * 34 := rows_take_len ho (by omega)
  rw [h2, List.getElem?_append_right (by omega), h3, show i * 34 + j - i * 34 = j by omega, List.getElem?_append_left (by omega)]
def ownE (k : Int) : Ent := ⟨[111, 119, 110], k, List.replicate 32 0⟩
theorem ownE_ok {k : Int} (h : 0 ≤ k ∧ k ≤ 10) : (ownE k).ok := ⟨rfl, by simp only [ownE]; omega, by simp only [ownE]; omega, by simp [ownE]⟩
theorem OwnSl.esH {v : Value} {l : List Ent} {Lv : List (Nat × Obj)} {w : World} (h : OwnSl 48 34 v l.length (rows l) Lv) (ho : Oks l) (hl : l.length ≤ 9223372036854775807) (hw : ∀ p ∈ Lv, w.heap[p.1]? = some p.2) : Es w v l := ⟨h.slH hw, ho, hl⟩
set_option maxHeartbeats 8000000 in
theorem moved_spec {v : Value} {l : List Ent} {n : List UInt8} (w0 : World) (hl : Es w0 v l) (hbb : l.length ≤ 1024) : Calls Try.prog 32 #[v, str n] w0 (Ret0 (.bool true) w0) := by
  have hs : Step [] [] w0 w0 := Step.refl w0
  have hobt := hl.1.form
  obtain ⟨a, c, rfl⟩ := hobt
  refine calls (n := 98) Try.func32 rfl rfl rfl ?_
  refine CW.seq ?_
  refine CW.reg ?_
  refine WL.val rfl (run_assign) ?_
  refine WL.nil ?_
  by_cases h0 : l.length = 0
  · refine CW.seq <| CW.seq ?_
    refine CW.reg ?_
    refine WL.val rfl (run_move) ?_
    refine WL.val rfl (run_lenSl Try.underlying22 rfl) ?_
    refine WL.val rfl (run_bT (run_eql rfl rfl) (by omega)) ?_
    refine WL.nil ?_
    refine CW.cond rfl (fun h => ?_) (fun h => ?_)
    · refine CW.seq ?_
      refine CW.reg ?_
      refine WL.val rfl (run_assign) ?_
      refine WL.nil ?_
      refine CW.ret ?_
      refine fin_ret1 rfl ?_
      exact ⟨rfl, hs⟩
    · cases h
  refine CW.seq <| CW.seq ?_
  refine CW.reg ?_
  refine WL.val rfl (run_move) ?_
  refine WL.val rfl (run_lenSl Try.underlying22 rfl) ?_
  refine WL.val rfl (run_bF (run_eql rfl rfl) (by omega)) ?_
  refine WL.nil ?_
  refine CW.cond rfl (fun h => ?_) (fun h => ?_)
  · cases h
  repeat (first | refine CW.seq ?_ | refine CW.skip ?_)
  refine CW.reg ?_
  refine WL.buildSlice (cs := []) Try.underlying22 ty48 rfl (by decide) rfl (by simp [Filled, Instr.fill]) rfl hs (fun b15 w hs => ?_)
  refine WL.val rfl (run_move) ?_
  refine WL.append Try.underlying22 Try.underlying22 ty48 rfl (by decide) rfl rfl ((OwnSl.mk (k := 0) (by simp))) (hs) (hl.1.step0 hs.clear) (rows_cells1 l) (by first | omega | (simp only [List.length_append, List.length_cons, List.length_nil]; omega)) rfl (fun v17 Lv17 w hv17 hs => ?_)
  refine WL.val rfl (run_assign) ?_
  refine WL.nil ?_
  rw [Nat.zero_add, List.nil_append] at hv17
  have hobt := hv17.some1 (by omega)
  obtain ⟨bm, cm, more, hvm, hLm, hcm⟩ := hobt
  rw [hLm] at hs
  replace hs : Step [] [(bm, blk 48 (rows l ++ more))] w0 w := hs
  have hlr := rows_len hl.2.1
  refine CW.seq <| CW.seq ?_
  refine CW.reg ?_
  refine WL.val rfl (run_assign) ?_
  refine WL.nil ?_
  refine CW.block ?_
  refine CW.loop (fun m f w' => ∃ (t : Nat) (l' : List Ent), t ≤ 3 ∧ m = 3 - t ∧ l'.length = l.length ∧ Oks l' ∧ Step [] [(bm, blk 48 (rows l' ++ more))] w0 w' ∧ Holds f [(1, str n), (5, .slice (some ⟨bm, 0, none⟩) l.length cm), (6, .int .i64 (t : Nat))]) (m := 3) ?_ ?_
  · exact ⟨0, l, by omega, rfl, rfl, hl.2.1, hs, rfl, hvm, rfl, trivial⟩
  · clear hs
    rintro m f w ⟨t, l', ht, rfl, hll, ho, hs, hf⟩
    have hobt := hf.chain
    obtain ⟨g, rfl⟩ := hobt
    by_cases ht3 : t < 3
    · have hes : ∀ {X : List (Nat × Obj)} {w : World}, Step [] ((bm, blk 48 (rows l' ++ more)) :: X) w0 w → Es w (.slice (some ⟨bm, 0, none⟩) l.length cm) l' := fun hs => ⟨by
        rw [← hll]
        exact .mk (rows_len ho) (At.of_blk hs.hd).left, ho, by omega⟩
      have hrm : Room (.slice (some ⟨bm, 0, none⟩) l.length cm) := by
        show l.length ≤ cm
        rw [List.length_append, hlr] at hcm
        omega
      refine CW.seq <| CW.seq ?_
      refine CW.reg ?_
      refine WL.val rfl (run_move) ?_
      refine WL.val rfl (run_bT (run_lss rfl rfl) (by omega)) ?_
      refine WL.nil ?_
      refine CW.cond rfl (fun h => ?_) (fun h => ?_)
      · by_cases hc : checkE l' = 0
        · have hris := check_rising hc
          have hxo := ownE_ok (k := 1) (by omega)
          have hrl := remR_len n l'
          have hwl := withR_len (x := ownE 1) (l := l') (p := false)
          have hro := remR_ok n ho
          have hwo := withR_ok (p := false) hxo ho
          repeat (first | refine CW.seq ?_ | refine CW.block ?_ | refine CW.skip ?_)
          refine CW.reg ?_
          refine WL.val rfl (run_move) ?_
          refine WL.enter rfl (run_call en16 rfl rfl) (encode_ok _ (hes hs) hc) ?_
          rintro e w ⟨v7, Lv7, rfl, hu7, hq⟩
          refine ⟨_, rfl, ?_⟩
          replace hs := (hs.call0 hq).append_comm (L2 := [_])
          refine WL.val rfl (run_move) ?_
          refine WL.val rfl (run_extract rfl rfl) ?_
          refine WL.val rfl (run_extract rfl rfl) ?_
          refine WL.val rfl (run_assign) ?_
          refine WL.val rfl (run_assign) ?_
          refine WL.nil ?_
          refine CW.seq ?_
          refine CW.reg ?_
          refine WL.val rfl (run_move) ?_
          refine WL.enter rfl (run_call en17 rfl rfl) (encodeR_ok _ (hes hs) hrm hc) ?_
          rintro e w ⟨v9, Lv9, rfl, hu9, hq⟩
          refine ⟨_, rfl, ?_⟩
          replace hs := (hs.call0 hq).append_comm (L2 := _ :: Lv7)
          refine WL.val rfl (run_move) ?_
          refine WL.val rfl (run_extract rfl rfl) ?_
          refine WL.val rfl (run_extract rfl rfl) ?_
          refine WL.val rfl (run_assign) ?_
          refine WL.val rfl (run_assign) ?_
          refine WL.nil ?_
          refine CW.seq <| CW.seq ?_
          refine CW.reg ?_
          refine WL.val rfl (run_move) ?_
          refine WL.val rfl (run_move) ?_
          refine WL.val rfl (run_bF (run_neq rfl rfl) (by decide)) ?_
          refine WL.val rfl (run_move) ?_
          refine WL.yes rfl rfl rfl ?_; refine WL.val rfl (run_move) ?_
          refine WL.yes rfl rfl rfl ?_
          refine WL.val rfl (run_toString Try.underlying29 Try.underlying9 Try.underlying5 rfl (hu7.slH (fun p hp => hs.has p (by simp [hp])))) ?_
          refine WL.yes rfl rfl rfl ?_; refine WL.val rfl (run_move) ?_
          refine WL.yes rfl rfl rfl ?_
          refine WL.val rfl (run_toString Try.underlying29 Try.underlying9 Try.underlying5 rfl (hu9.slH (fun p hp => hs.has p (by simp [hp])))) ?_
          refine WL.yes rfl rfl rfl ?_
          refine WL.val rfl (run_bF (run_strNe rfl rfl) (by exact fun h => h rfl)) ?_
          refine WL.val rfl (run_pickF rfl) ?_
          refine WL.val rfl (run_move) ?_
          refine WL.yes rfl rfl rfl ?_; refine WL.val rfl (run_move) ?_
          refine WL.yes rfl rfl rfl ?_
          refine WL.enter rfl (run_call en13 rfl rfl) (check_spec hc _ (hes hs)) ?_
          rintro e w ⟨rfl, hq⟩
          refine ⟨_, rfl, ?_⟩
          replace hs := hs.callE hq
          refine WL.yes rfl rfl rfl ?_; refine WL.val rfl (run_move) ?_
          refine WL.yes rfl rfl rfl ?_
          refine WL.val rfl (run_bF (run_neq rfl rfl) (by decide)) ?_
          refine WL.val rfl (run_pickF rfl) ?_
          refine WL.nil ?_
          refine CW.cond rfl (fun h => ?_) (fun h => ?_)
          · cases h
          repeat (first | refine CW.seq ?_ | refine CW.skip ?_)
          refine CW.reg ?_
          refine WL.val rfl (run_move) ?_
          refine WL.val rfl (run_bT (run_eql rfl rfl) (by decide)) ?_
          refine WL.val rfl (run_move) ?_
          refine WL.yes rfl rfl rfl ?_; refine WL.val rfl (run_move) ?_
          refine WL.yes rfl rfl rfl ?_; refine WL.val rfl (run_move) ?_
          refine WL.yes rfl rfl rfl ?_
          refine WL.enter rfl (run_call en60 rfl rfl) (found_spec _ (hes hs) hris (by omega)) ?_
          rintro e w ⟨rfl, hq⟩
          refine ⟨_, rfl, ?_⟩
          replace hs := hs.callE hq
          refine WL.yes rfl rfl rfl ?_; (first | refine WL.val rfl (run_notB rfl) ?_ | refine WL.val rfl (run_not rfl) ?_)
          refine WL.val rfl (run_pickT rfl) ?_
          refine WL.nil ?_
          refine CW.cond rfl (fun h => ?_) (fun h => ?_)
          · cases h
          replace hs : Step [] [(bm, blk 48 (rows l' ++ more))] w0 w := Step.dropR (L1 := [_]) (Step.dropR (L1 := _ :: Lv7) hs)
          repeat (first | refine CW.seq ?_ | refine CW.skip ?_)
          refine CW.reg ?_
          refine WL.val rfl (run_move) ?_
          refine WL.val rfl (run_bT (run_eql rfl rfl) (by decide)) ?_
          refine WL.val rfl (run_move) ?_
          refine WL.yes rfl rfl rfl ?_; refine WL.val rfl (run_move) ?_
          refine WL.yes rfl rfl rfl ?_; refine WL.val rfl (run_move) ?_
          refine WL.yes rfl rfl rfl ?_
          refine WL.enter rfl (run_call en24 rfl rfl) (lessS_spec (l := l') (n := n) _ (hes hs) hris (by omega)) ?_
          rintro e w ⟨u1, Lu1, rfl, hu1, hq⟩
          refine ⟨_, rfl, ?_⟩
          replace hs := (hs.call0 hq).append_comm (L2 := [_])
          refine WL.yes rfl rfl rfl ?_; refine WL.val rfl (run_move) ?_
          refine WL.yes rfl rfl rfl ?_; refine WL.val rfl (run_move) ?_
          refine WL.yes rfl rfl rfl ?_
          refine WL.enter rfl (run_call en25 rfl rfl) (lessR_spec (l := l') (n := n) _ (hes hs) (by omega)) ?_
          rintro e w ⟨u2, Lu2, rfl, hu2, hq⟩
          refine ⟨_, rfl, ?_⟩
          replace hs := (hs.call0 hq).append_comm (L2 := _ :: Lu1)
          refine WL.yes rfl rfl rfl ?_
          refine WL.enter rfl (run_call en22 rfl rfl) (same_true rfl _ (hu1.esH hro (by omega) (fun p hp => hs.has p (by simp [hp]))) (hu2.esH hro (by omega) (fun p hp => hs.has p (by simp [hp])))) ?_
          rintro e w ⟨rfl, hq⟩
          refine ⟨_, rfl, ?_⟩
          replace hs := hs.callE hq
          refine WL.yes rfl rfl rfl ?_; (first | refine WL.val rfl (run_notB rfl) ?_ | refine WL.val rfl (run_not rfl) ?_)
          refine WL.yes rfl rfl rfl ?_; refine WL.val rfl (run_move) ?_
          refine WL.yes rfl rfl rfl ?_; refine WL.val rfl (run_move) ?_
          refine WL.yes rfl rfl rfl ?_
          refine WL.val rfl (run_build rfl ((bld_ent _ _ _))) ?_
          refine WL.yes rfl rfl rfl ?_
          refine WL.enter rfl (run_call en28 rfl rfl) (withS_spec (l := l') (x := ownE 1) _ (hes hs) hris (by omega) hxo) ?_
          rintro e w ⟨u3, Lu3, rfl, hu3, hq⟩
          refine ⟨_, rfl, ?_⟩
          replace hs := (hs.call0 hq).append_comm (L2 := _ :: (Lu1 ++ Lu2))
          refine WL.yes rfl rfl rfl ?_; refine WL.val rfl (run_move) ?_
          refine WL.yes rfl rfl rfl ?_
          refine WL.val rfl (run_build rfl ((bld_ent _ _ _))) ?_
          refine WL.yes rfl rfl rfl ?_
          refine WL.enter rfl (run_call en29 rfl rfl) (withR_spec (l := l') (x := ownE 1) _ (hes hs) (by omega) hxo) ?_
          rintro e w ⟨u4, Lu4, rfl, hu4, hwo4, hq⟩
          refine ⟨_, rfl, ?_⟩
          replace hs := (hs.call0 hq).append_comm (L2 := _ :: (Lu1 ++ Lu2 ++ Lu3))
          refine WL.yes rfl rfl rfl ?_
          refine WL.enter rfl (run_call en22 rfl rfl) (same_true rfl _ (hu3.esH hwo (by omega) (fun p hp => hs.has p (by simp [hp]))) (hu4.esH hwo (by omega) (fun p hp => hs.has p (by simp [hp])))) ?_
          rintro e w ⟨rfl, hq⟩
          refine ⟨_, rfl, ?_⟩
          replace hs := hs.callE hq
          refine WL.yes rfl rfl rfl ?_; (first | refine WL.val rfl (run_notB rfl) ?_ | refine WL.val rfl (run_not rfl) ?_)
          refine WL.yes rfl rfl rfl ?_; (first | refine WL.val rfl (run_pickT rfl) ?_ | refine WL.val rfl (run_pickF rfl) ?_)
          refine WL.val rfl (run_pickT rfl) ?_
          refine WL.nil ?_
          refine CW.cond rfl (fun h => ?_) (fun h => ?_)
          · cases h
          replace hs : Step [] [(bm, blk 48 (rows l' ++ more))] w0 w := Step.dropR (L1 := [_]) (L2 := Lu1 ++ Lu2 ++ Lu3 ++ Lu4) hs
          have hobt : ∃ x, l'[l.length - 1]? = some x := ⟨_, List.getElem?_eq_getElem (by omega)⟩
          obtain ⟨x, hx⟩ := hobt
          have hxo := ho x (List.mem_of_getElem? hx)
          have hobt : ∃ y, x.dig[t]? = some y := ⟨_, List.getElem?_eq_getElem (by rw [hxo.1]; omega)⟩
          obtain ⟨y, hy⟩ := hobt
          have hyl : (u8s x.dig)[t]? = some (.int .u8 y.toNat) := by simp [u8s, hy]
          have hcd : (rows l' ++ more)[0 + (l.length - 1) * 34 + 2 + t * 1]? = some (.int .u8 y.toNat) := by
            rw [show 0 + (l.length - 1) * 34 + 2 + t * 1 = (l.length - 1) * 34 + (2 + t) by omega, rows_getc more ho hx (by omega), show 2 + t = t + 1 + 1 by omega]
            exact hyl
          have hlen : (rows l' ++ more).length = l.length * 34 + more.length := by rw [List.length_append, rows_len ho, hll]
          let x1 : Ent := ⟨x.name, x.kind, x.dig.set t (y ^^^ 5)⟩
          have hx1 : x1.ok := ⟨by rw [List.length_set]; exact hxo.1, hxo.2.1, hxo.2.2.1, hxo.2.2.2⟩
          have hc1 : x.cells.set (2 + t) (.int .u8 (y ^^^ 5).toNat) = x1.cells := by
            rw [show 2 + t = t + 1 + 1 by omega]
            show str x.name :: .int .i64 x.kind :: (u8s x.dig).set t _ = str x.name :: .int .i64 x.kind :: u8s (x.dig.set t (y ^^^ 5))
            simp [u8s, List.map_set]
          have hs1 := rows_setc more ho hx hx1 (by omega) hc1
          repeat (first | refine CW.seq ?_ | refine CW.skip ?_)
          refine CW.reg ?_
          refine WL.val rfl (run_move) ?_
          refine WL.val rfl (run_lenSl Try.underlying22 rfl) ?_
          refine WL.val rfl (run_sub (c := ((l.length - 1 : Nat) : Int)) rfl rfl (by omega) (by omega)) ?_
          refine WL.val rfl (run_assign) ?_
          refine WL.nil ?_
          refine CW.seq ?_
          refine CW.quietT (l1 := [_, _, _, _, _, _, _, _, _, _, _]) (l2 := [_]) 11 rfl mixedP rfl (by kernel_rfl) hs ?_
          refine QL.val rfl (fun w hs => run_move) ?_
          refine QL.val rfl (fun w hs => run_move) ?_
          refine QL.val rfl (fun w hs => run_move) ?_
          refine QL.val rfl (fun w hs => run_ixSlN Try.underlying22 ty48 rfl rfl (by omega)) ?_
          refine QL.val rfl (fun w hs => run_field (o' := 2) Try.underlying48 rfl ty46 rfl rfl rfl) ?_
          refine QL.val rfl (fun w hs => run_ixArrN Try.underlying46 ty5 rfl rfl (by omega)) ?_
          refine QL.val rfl (fun w hs => run_load1 ty5 rfl (hs.c0 hcd)) ?_
          refine QL.val rfl (fun w hs => run_xor8 (b := 5) rfl rfl) ?_
          refine QL.val rfl (fun w hs => run_ixSlN Try.underlying22 ty48 rfl rfl (by omega)) ?_
          refine QL.val rfl (fun w hs => run_field (o' := 2) Try.underlying48 rfl ty46 rfl rfl rfl) ?_
          refine QL.val rfl (fun w hs => run_ixArrN Try.underlying46 ty5 rfl rfl (by omega)) ?_
          refine QL.nil (fun w hs => ?_)
          refine WL.store1 ty5 rfl rfl (rfl) hs (by first | (simp; done) | omega | (simp only [List.length_append, List.length_replicate, List.length_cons, List.length_nil, List.length_set]; omega) | (simp [Ent.cells, u8s]; done) | exact Nat.le_of_ble_eq_true rfl) (fun w hs => ?_)
          refine WL.nil ?_
          replace hs : Step [] [(bm, blk 48 (rows (l'.set (l.length - 1) x1) ++ more))] w0 w := by
            rw [← hs1, show (l.length - 1) * 34 + (2 + t) = 0 + (l.length - 1) * 34 + 2 + t * 1 by omega]
            exact hs
          have ho1 : Oks (l'.set (l.length - 1) x1) := fun z hz => by
            rcases List.mem_or_eq_of_mem_set hz with h | rfl
            · exact ho z h
            · exact hx1
          by_cases ht1 : t = 1
          · let x2 : Ent := ⟨x.name, 3, x1.dig⟩
            have hx2 : x2.ok := ⟨hx1.1, by show (-9223372036854775808 : Int) ≤ 3; decide, by show (3 : Int) ≤ 9223372036854775807; decide, hxo.2.2.2⟩
            have hxg : (l'.set (l.length - 1) x1)[l.length - 1]? = some x1 := by rw [List.getElem?_set_self (by omega)]
            have hs2 := rows_setc (j := 1) (u := .int .i64 3) (y := x2) more ho1 hxg hx2 (by omega) rfl
            have hlen1 : (rows (l'.set (l.length - 1) x1) ++ more).length = l.length * 34 + more.length := by rw [List.length_append, rows_len ho1, List.length_set, hll]
            refine CW.seq ?_
            refine CW.reg ?_
            refine WL.val rfl (run_move) ?_
            refine WL.val rfl (run_bT (run_eql rfl rfl) (by omega)) ?_
            refine WL.nil ?_
            refine CW.cond rfl (fun h => ?_) (fun h => ?_)
            · skip
              refine CW.reg ?_
              refine WL.val rfl (run_move) ?_
              refine WL.val rfl (run_move) ?_
              refine WL.val rfl (run_ixSlN Try.underlying22 ty48 rfl rfl (by omega)) ?_
              refine WL.val rfl (run_field (o' := 1) Try.underlying48 rfl ty3 rfl rfl rfl) ?_
              refine WL.store1 ty3 rfl rfl (rfl) hs (by first | (simp; done) | omega | (simp only [List.length_append, List.length_replicate, List.length_cons, List.length_nil, List.length_set]; omega) | (simp [Ent.cells, u8s]; done) | exact Nat.le_of_ble_eq_true rfl) (fun w hs => ?_)
              refine WL.nil ?_
              replace hs : Step [] [(bm, blk 48 (rows ((l'.set (l.length - 1) x1).set (l.length - 1) x2) ++ more))] w0 w := by
                rw [← hs2, show (l.length - 1) * 34 + 1 = 0 + (l.length - 1) * 34 + 1 by omega]
                exact hs
              refine CW.reg ?_
              refine WL.val rfl (run_move) ?_
              refine WL.val rfl (run_add (c := ((t + 1 : Nat) : Int)) rfl rfl (by omega) (by omega)) ?_
              refine WL.val rfl (run_assign) ?_
              refine WL.nil ?_
              refine (show _ ∧ _ from ⟨rfl, _, ?_, t + 1, _, by omega, rfl, (by rw [List.length_set, List.length_set]; exact hll), (fun z hz => ?_), hs, rfl, rfl, rfl, trivial⟩)
              · omega
              · rcases List.mem_or_eq_of_mem_set hz with h | rfl
                · exact ho1 z h
                · exact hx2
            · cases h
          · refine CW.seq ?_
            refine CW.reg ?_
            refine WL.val rfl (run_move) ?_
            refine WL.val rfl (run_bF (run_eql rfl rfl) (by omega)) ?_
            refine WL.nil ?_
            refine CW.cond rfl (fun h => ?_) (fun h => ?_)
            · cases h
            refine CW.skip ?_
            refine CW.reg ?_
            refine WL.val rfl (run_move) ?_
            refine WL.val rfl (run_add (c := ((t + 1 : Nat) : Int)) rfl rfl (by omega) (by omega)) ?_
            refine WL.val rfl (run_assign) ?_
            refine WL.nil ?_
            refine (show _ ∧ _ from ⟨rfl, _, ?_, t + 1, _, by omega, rfl, (by rw [List.length_set]; exact hll), ho1, hs, rfl, rfl, rfl, trivial⟩)
            omega
        · have hz : ∀ w : World, Sl w 1 (.slice none 0 0) ([] : List UInt8).length (u8s []) := fun w => Sl.nil _ _ _
          repeat (first | refine CW.seq ?_ | refine CW.block ?_ | refine CW.skip ?_)
          refine CW.reg ?_
          refine WL.val rfl (run_move) ?_
          refine WL.enter rfl (run_call en16 rfl rfl) (encode_bad _ (hes hs) hc) ?_
          rintro e w ⟨rfl, hq⟩
          refine ⟨_, rfl, ?_⟩
          replace hs := hs.callE hq
          refine WL.val rfl (run_move) ?_
          refine WL.val rfl (run_extract rfl rfl) ?_
          refine WL.val rfl (run_extract rfl rfl) ?_
          refine WL.val rfl (run_assign) ?_
          refine WL.val rfl (run_assign) ?_
          refine WL.nil ?_
          refine CW.seq ?_
          refine CW.reg ?_
          refine WL.val rfl (run_move) ?_
          refine WL.enter rfl (run_call en17 rfl rfl) (encodeR_bad _ (hes hs) hrm hc) ?_
          rintro e w ⟨rfl, hq⟩
          refine ⟨_, rfl, ?_⟩
          replace hs := hs.callE hq
          refine WL.val rfl (run_move) ?_
          refine WL.val rfl (run_extract rfl rfl) ?_
          refine WL.val rfl (run_extract rfl rfl) ?_
          refine WL.val rfl (run_assign) ?_
          refine WL.val rfl (run_assign) ?_
          refine WL.nil ?_
          refine CW.seq <| CW.seq ?_
          refine CW.reg ?_
          refine WL.val rfl (run_move) ?_
          refine WL.val rfl (run_move) ?_
          refine WL.val rfl (run_bF (run_neq rfl rfl) (by exact fun h => h rfl)) ?_
          refine WL.val rfl (run_move) ?_
          refine WL.yes rfl rfl rfl ?_; refine WL.val rfl (run_move) ?_
          refine WL.yes rfl rfl rfl ?_
          refine WL.val rfl (run_toString Try.underlying29 Try.underlying9 Try.underlying5 rfl (hz w)) ?_
          refine WL.yes rfl rfl rfl ?_; refine WL.val rfl (run_move) ?_
          refine WL.yes rfl rfl rfl ?_
          refine WL.val rfl (run_toString Try.underlying29 Try.underlying9 Try.underlying5 rfl (hz w)) ?_
          refine WL.yes rfl rfl rfl ?_
          refine WL.val rfl (run_bF (run_strNe rfl rfl) (by exact fun h => h rfl)) ?_
          refine WL.val rfl (run_pickF rfl) ?_
          refine WL.val rfl (run_move) ?_
          refine WL.yes rfl rfl rfl ?_; refine WL.val rfl (run_move) ?_
          refine WL.yes rfl rfl rfl ?_
          refine WL.enter rfl (run_call en13 rfl rfl) (check_spec rfl _ (hes hs)) ?_
          rintro e w ⟨rfl, hq⟩
          refine ⟨_, rfl, ?_⟩
          replace hs := hs.callE hq
          refine WL.yes rfl rfl rfl ?_; refine WL.val rfl (run_move) ?_
          refine WL.yes rfl rfl rfl ?_
          refine WL.val rfl (run_bF (run_neq rfl rfl) (by exact fun h => h rfl)) ?_
          refine WL.val rfl (run_pickF rfl) ?_
          refine WL.nil ?_
          refine CW.cond rfl (fun h => ?_) (fun h => ?_)
          · cases h
          repeat (first | refine CW.seq ?_ | refine CW.skip ?_)
          refine CW.reg ?_
          refine WL.val rfl (run_move) ?_
          refine WL.val rfl (run_bF (run_eql rfl rfl) (by exact hc)) ?_
          refine WL.val rfl (run_move) ?_
          refine WL.no rfl rfl rfl (.inl rfl) ?_
          refine WL.no rfl rfl rfl (.inl rfl) ?_
          refine WL.no rfl rfl rfl (.inl rfl) ?_
          refine WL.no rfl rfl rfl (.inl rfl) ?_
          refine WL.val rfl (run_pickF rfl) ?_
          refine WL.nil ?_
          refine CW.cond rfl (fun h => ?_) (fun h => ?_)
          · cases h
          repeat (first | refine CW.seq ?_ | refine CW.skip ?_)
          refine CW.reg ?_
          refine WL.val rfl (run_move) ?_
          refine WL.val rfl (run_bF (run_eql rfl rfl) (by exact hc)) ?_
          refine WL.val rfl (run_move) ?_
          refine WL.no rfl rfl rfl (.inl rfl) ?_
          refine WL.no rfl rfl rfl (.inl rfl) ?_
          refine WL.no rfl rfl rfl (.inl rfl) ?_
          refine WL.no rfl rfl rfl (.inl rfl) ?_
          refine WL.no rfl rfl rfl (.inl rfl) ?_
          refine WL.no rfl rfl rfl (.inl rfl) ?_
          refine WL.no rfl rfl rfl (.inl rfl) ?_
          refine WL.no rfl rfl rfl (.inl rfl) ?_
          refine WL.no rfl rfl rfl (.inl rfl) ?_
          refine WL.no rfl rfl rfl (.inr rfl) ?_
          refine WL.no rfl rfl rfl (.inr rfl) ?_
          refine WL.no rfl rfl rfl (.inr rfl) ?_
          refine WL.no rfl rfl rfl (.inr rfl) ?_
          refine WL.no rfl rfl rfl (.inr rfl) ?_
          refine WL.no rfl rfl rfl (.inr rfl) ?_
          refine WL.no rfl rfl rfl (.inr rfl) ?_
          refine WL.no rfl rfl rfl (.inr rfl) ?_
          refine WL.no rfl rfl rfl (.inl rfl) ?_
          refine WL.val rfl (run_pickF rfl) ?_
          refine WL.nil ?_
          refine CW.cond rfl (fun h => ?_) (fun h => ?_)
          · cases h
          have hobt : ∃ x, l'[l.length - 1]? = some x := ⟨_, List.getElem?_eq_getElem (by omega)⟩
          obtain ⟨x, hx⟩ := hobt
          have hxo := ho x (List.mem_of_getElem? hx)
          have hobt : ∃ y, x.dig[t]? = some y := ⟨_, List.getElem?_eq_getElem (by rw [hxo.1]; omega)⟩
          obtain ⟨y, hy⟩ := hobt
          have hyl : (u8s x.dig)[t]? = some (.int .u8 y.toNat) := by simp [u8s, hy]
          have hcd : (rows l' ++ more)[0 + (l.length - 1) * 34 + 2 + t * 1]? = some (.int .u8 y.toNat) := by
            rw [show 0 + (l.length - 1) * 34 + 2 + t * 1 = (l.length - 1) * 34 + (2 + t) by omega, rows_getc more ho hx (by omega), show 2 + t = t + 1 + 1 by omega]
            exact hyl
          have hlen : (rows l' ++ more).length = l.length * 34 + more.length := by rw [List.length_append, rows_len ho, hll]
          let x1 : Ent := ⟨x.name, x.kind, x.dig.set t (y ^^^ 5)⟩
          have hx1 : x1.ok := ⟨by rw [List.length_set]; exact hxo.1, hxo.2.1, hxo.2.2.1, hxo.2.2.2⟩
          have hc1 : x.cells.set (2 + t) (.int .u8 (y ^^^ 5).toNat) = x1.cells := by
            rw [show 2 + t = t + 1 + 1 by omega]
            show str x.name :: .int .i64 x.kind :: (u8s x.dig).set t _ = str x.name :: .int .i64 x.kind :: u8s (x.dig.set t (y ^^^ 5))
            simp [u8s, List.map_set]
          have hs1 := rows_setc more ho hx hx1 (by omega) hc1
          repeat (first | refine CW.seq ?_ | refine CW.skip ?_)
          refine CW.reg ?_
          refine WL.val rfl (run_move) ?_
          refine WL.val rfl (run_lenSl Try.underlying22 rfl) ?_
          refine WL.val rfl (run_sub (c := ((l.length - 1 : Nat) : Int)) rfl rfl (by omega) (by omega)) ?_
          refine WL.val rfl (run_assign) ?_
          refine WL.nil ?_
          refine CW.seq ?_
          refine CW.quietT (l1 := [_, _, _, _, _, _, _, _, _, _, _]) (l2 := [_]) 11 rfl mixedP rfl (by kernel_rfl) hs ?_
          refine QL.val rfl (fun w hs => run_move) ?_
          refine QL.val rfl (fun w hs => run_move) ?_
          refine QL.val rfl (fun w hs => run_move) ?_
          refine QL.val rfl (fun w hs => run_ixSlN Try.underlying22 ty48 rfl rfl (by omega)) ?_
          refine QL.val rfl (fun w hs => run_field (o' := 2) Try.underlying48 rfl ty46 rfl rfl rfl) ?_
          refine QL.val rfl (fun w hs => run_ixArrN Try.underlying46 ty5 rfl rfl (by omega)) ?_
          refine QL.val rfl (fun w hs => run_load1 ty5 rfl (hs.c0 hcd)) ?_
          refine QL.val rfl (fun w hs => run_xor8 (b := 5) rfl rfl) ?_
          refine QL.val rfl (fun w hs => run_ixSlN Try.underlying22 ty48 rfl rfl (by omega)) ?_
          refine QL.val rfl (fun w hs => run_field (o' := 2) Try.underlying48 rfl ty46 rfl rfl rfl) ?_
          refine QL.val rfl (fun w hs => run_ixArrN Try.underlying46 ty5 rfl rfl (by omega)) ?_
          refine QL.nil (fun w hs => ?_)
          refine WL.store1 ty5 rfl rfl (rfl) hs (by first | (simp; done) | omega | (simp only [List.length_append, List.length_replicate, List.length_cons, List.length_nil, List.length_set]; omega) | (simp [Ent.cells, u8s]; done) | exact Nat.le_of_ble_eq_true rfl) (fun w hs => ?_)
          refine WL.nil ?_
          replace hs : Step [] [(bm, blk 48 (rows (l'.set (l.length - 1) x1) ++ more))] w0 w := by
            rw [← hs1, show (l.length - 1) * 34 + (2 + t) = 0 + (l.length - 1) * 34 + 2 + t * 1 by omega]
            exact hs
          have ho1 : Oks (l'.set (l.length - 1) x1) := fun z hz => by
            rcases List.mem_or_eq_of_mem_set hz with h | rfl
            · exact ho z h
            · exact hx1
          by_cases ht1 : t = 1
          · let x2 : Ent := ⟨x.name, 3, x1.dig⟩
            have hx2 : x2.ok := ⟨hx1.1, by show (-9223372036854775808 : Int) ≤ 3; decide, by show (3 : Int) ≤ 9223372036854775807; decide, hxo.2.2.2⟩
            have hxg : (l'.set (l.length - 1) x1)[l.length - 1]? = some x1 := by rw [List.getElem?_set_self (by omega)]
            have hs2 := rows_setc (j := 1) (u := .int .i64 3) (y := x2) more ho1 hxg hx2 (by omega) rfl
            have hlen1 : (rows (l'.set (l.length - 1) x1) ++ more).length = l.length * 34 + more.length := by rw [List.length_append, rows_len ho1, List.length_set, hll]
            refine CW.seq ?_
            refine CW.reg ?_
            refine WL.val rfl (run_move) ?_
            refine WL.val rfl (run_bT (run_eql rfl rfl) (by omega)) ?_
            refine WL.nil ?_
            refine CW.cond rfl (fun h => ?_) (fun h => ?_)
            · skip
              refine CW.reg ?_
              refine WL.val rfl (run_move) ?_
              refine WL.val rfl (run_move) ?_
              refine WL.val rfl (run_ixSlN Try.underlying22 ty48 rfl rfl (by omega)) ?_
              refine WL.val rfl (run_field (o' := 1) Try.underlying48 rfl ty3 rfl rfl rfl) ?_
              refine WL.store1 ty3 rfl rfl (rfl) hs (by first | (simp; done) | omega | (simp only [List.length_append, List.length_replicate, List.length_cons, List.length_nil, List.length_set]; omega) | (simp [Ent.cells, u8s]; done) | exact Nat.le_of_ble_eq_true rfl) (fun w hs => ?_)
              refine WL.nil ?_
              replace hs : Step [] [(bm, blk 48 (rows ((l'.set (l.length - 1) x1).set (l.length - 1) x2) ++ more))] w0 w := by
                rw [← hs2, show (l.length - 1) * 34 + 1 = 0 + (l.length - 1) * 34 + 1 by omega]
                exact hs
              refine CW.reg ?_
              refine WL.val rfl (run_move) ?_
              refine WL.val rfl (run_add (c := ((t + 1 : Nat) : Int)) rfl rfl (by omega) (by omega)) ?_
              refine WL.val rfl (run_assign) ?_
              refine WL.nil ?_
              refine (show _ ∧ _ from ⟨rfl, _, ?_, t + 1, _, by omega, rfl, (by rw [List.length_set, List.length_set]; exact hll), (fun z hz => ?_), hs, rfl, rfl, rfl, trivial⟩)
              · omega
              · rcases List.mem_or_eq_of_mem_set hz with h | rfl
                · exact ho1 z h
                · exact hx2
            · cases h
          · refine CW.seq ?_
            refine CW.reg ?_
            refine WL.val rfl (run_move) ?_
            refine WL.val rfl (run_bF (run_eql rfl rfl) (by omega)) ?_
            refine WL.nil ?_
            refine CW.cond rfl (fun h => ?_) (fun h => ?_)
            · cases h
            refine CW.skip ?_
            refine CW.reg ?_
            refine WL.val rfl (run_move) ?_
            refine WL.val rfl (run_add (c := ((t + 1 : Nat) : Int)) rfl rfl (by omega) (by omega)) ?_
            refine WL.val rfl (run_assign) ?_
            refine WL.nil ?_
            refine (show _ ∧ _ from ⟨rfl, _, ?_, t + 1, _, by omega, rfl, (by rw [List.length_set]; exact hll), ho1, hs, rfl, rfl, rfl, trivial⟩)
            omega
      · cases h
    · refine CW.seq <| CW.seq ?_
      refine CW.reg ?_
      refine WL.val rfl (run_move) ?_
      refine WL.val rfl (run_bF (run_lss rfl rfl) (by omega)) ?_
      refine WL.nil ?_
      refine CW.cond rfl (fun h => ?_) (fun h => ?_)
      · cases h
      repeat (first | refine CW.seq ?_ | refine CW.exit ?_)
      refine CW.reg ?_
      refine WL.val rfl (run_assign) ?_
      refine WL.nil ?_
      refine CW.ret ?_
      refine fin_ret1 rfl ?_
      exact ⟨rfl, hs.clear⟩
end Go.Gx
/-! Own2 -/
namespace Go.Gx
open Go.Proofs
set_option linter.unusedVariables false
set_option linter.unusedSimpArgs false
set_option maxRecDepth 100000
section
variable {α : Type}
def extF (f : Nat → α) (k : Nat) (l : List α) (d : α) (q : Nat) : α := if q < k then f q else l.getD (q - k) d
theorem extF_old {f : Nat → α} {k q : Nat} {l : List α} {d : α} (h : q < k) : extF f k l d q = f q := if_pos h
theorem extF_new {f : Nat → α} {k j : Nat} {l : List α} {d x : α} (h : l[j]? = some x) : extF f k l d (k + j) = x := by
  unfold extF
  rw [if_neg (by omega), show k + j - k = j by omega, List.getD_eq_getElem?_getD, h]
  rfl
theorem extF_map {f : Nat → α} {k : Nat} {l : List α} {d : α} : (List.range (k + l.length)).map (extF f k l d) = (List.range k).map f ++ l := by
  rw [List.range_add, List.map_append, List.map_map]
  congr 1
  · exact List.map_congr_left fun q hq => extF_old (by simpa using hq)
  · apply List.ext_getElem?
    intro j
    by_cases hj : j < l.length
    · rw [List.getElem?_map, List.getElem?_range hj]
      simp only [Option.map_some, Function.comp]
      rw [extF_new (x := l[j]) (List.getElem?_eq_getElem hj), List.getElem?_eq_getElem hj]
    · rw [List.getElem?_eq_none (by simp; omega), List.getElem?_eq_none (by omega)]
end
theorem allL_ext {Ls : Nat → List (Nat × Obj)} {k : Nat} {l : List (List (Nat × Obj))} : allL (extF Ls k l []) (k + l.length) = allL Ls k ++ l.flatten := by
  unfold allL
  have h := extF_map (f := Ls) (k := k) (l := l) (d := [])
  rw [List.flatMap_def, h, List.flatten_append, ← List.flatMap_def]
theorem own_ext {E : TypeId} {sz k : Nat} {vs : Nat → Value} {ns : Nat → Nat} {xs : Nat → List Value} {Ls : Nat → List (Nat × Obj)} {lv : List Value} {ln : List Nat} {lx : List (List Value)} {lL : List (List (Nat × Obj))} {N : Nat} (hN : N = k + lv.length) (h1 : lv.length = ln.length) (h2 : lv.length = lx.length) (h3 : lv.length = lL.length)
    (ho : ∀ q, q < k → OwnSl E sz (vs q) (ns q) (xs q) (Ls q) ∧ ns q ≤ 2000000) (hn : ∀ (j : Nat) (v : Value) (n : Nat) (x : List Value) (L : List (Nat × Obj)), lv[j]? = some v → ln[j]? = some n → lx[j]? = some x → lL[j]? = some L → OwnSl E sz v n x L ∧ n ≤ 2000000) :
    ∀ q, q < N → OwnSl E sz (extF vs k lv .nilFunc q) (extF ns k ln 0 q) (extF xs k lx [] q) (extF Ls k lL [] q) ∧ extF ns k ln 0 q ≤ 2000000 := by
  intro q hq
  by_cases hqk : q < k
  · rw [extF_old hqk, extF_old hqk, extF_old hqk, extF_old hqk]
    exact ho q hqk
  · have hobt : ∃ j, q = k + j := ⟨q - k, by omega⟩
    obtain ⟨j, rfl⟩ := hobt
    have hj : j < lv.length := by omega
    have e1 := List.getElem?_eq_getElem hj
    have e2 := List.getElem?_eq_getElem (show j < ln.length by omega)
    have e3 := List.getElem?_eq_getElem (show j < lx.length by omega)
    have e4 := List.getElem?_eq_getElem (show j < lL.length by omega)
    rw [extF_new e1, extF_new e2, extF_new e3, extF_new e4]
    exact hn j _ _ _ _ e1 e2 e3 e4
theorem filledA2 {v u z : Value} (hv : v.oneCell' = true) (hu : u.oneCell' = true) : Filled 1 2 [z] [(0, v), (1, u)] [v, u] := by
  have h1 := cells_one hv
  have h2 := cells_one hu
  simp [Filled, Instr.fill, h1, h2]
theorem filledA4 {v u s t z : Value} (hv : v.oneCell' = true) (hu : u.oneCell' = true) (hs : s.oneCell' = true) (ht : t.oneCell' = true) : Filled 1 4 [z] [(0, v), (1, u), (2, s), (3, t)] [v, u, s, t] := by
  have h1 := cells_one hv
  have h2 := cells_one hu
  have h3 := cells_one hs
  have h4 := cells_one ht
  simp [Filled, Instr.fill, h1, h2, h3, h4]
section
variable {α : Type}
theorem perm_kept {L116 L108 L24 L23 L21 L19 L16 L14 L12 Z : List α} {b : α} : (L116 ++ (L108 ++ (L24 ++ (L23 ++ (L21 ++ (L19 ++ (b :: (L16 ++ (L14 ++ (L12 ++ Z)))))))))).Perm ([b] ++ ((L24 ++ (L23 ++ (L21 ++ (L19 ++ (L14 ++ (L12 ++ Z)))))) ++ (L116 ++ (L108 ++ L16)))) := by
  classical
  exact List.perm_iff_count.2 fun x => by
    simp only [List.count_append, List.count_cons, List.count_nil]
    omega
theorem perm_round {L24 L23 L21 L19 L14 L12 LB LE LB' LE' : List α} {b e : α} : (LE' ++ (e :: (LB' ++ (b :: ((L24 ++ (L23 ++ (L21 ++ (L19 ++ (L14 ++ L12))))) ++ (LB ++ LE)))))).Perm ((LB' ++ (LE' ++ ((LB ++ [L12, L14].flatten) ++ (LE ++ [L19, L21, L23, L24].flatten)))) ++ [b, e]) := by
  classical
  exact List.perm_iff_count.2 fun x => by
    simp only [List.count_append, List.count_cons, List.count_nil, List.flatten_cons, List.flatten_nil, List.append_nil]
    omega
end
end Go.Gx
/-! OwnW -/
namespace Go.Gx
open Go.Proofs
set_option linter.unusedVariables false
set_option linter.unusedSimpArgs false
set_option maxRecDepth 100000
theorem perm_mid {α : Type} {A B C : List α} : (A ++ (B ++ C)).Perm (B ++ (A ++ C)) := List.perm_append_comm_assoc _ _ _
set_option maxHeartbeats 8000000 in
theorem nodeown_spec {v u : Value} {l m : List Ent} {n : List UInt8} (w0 : World) (hl : Es w0 v l) (hcl : Room v) (hm : Es w0 u m) (hcm : Room u) : Calls Try.prog 9 #[v, u, str n] w0 fun e w' => e = .returned (.bool true) ∧ Step [] [] w0 w' := by
  have hs : Step [] [] w0 w0 := Step.refl w0
  refine calls (n := 165) Try.func9 rfl rfl rfl ?_
  refine CW.seq ?_
  refine CW.reg ?_
  refine WL.val rfl (run_assign) ?_
  refine WL.nil ?_
  refine CW.seq <| CW.seq ?_
  refine CW.reg ?_
  refine WL.enter rfl (run_call en11 rfl rfl) (known_spec _) ?_
  rintro e w ⟨rfl, hq⟩
  refine ⟨_, rfl, ?_⟩
  replace hs := hs.callE hq
  refine WL.val rfl (run_not rfl) ?_
  refine WL.nil ?_
  refine CW.cond rfl (fun h => ?_) (fun h => ?_)
  · cases h
  by_cases hc1 : checkE l = 0
  case neg =>
    repeat (first | refine CW.seq ?_ | refine CW.skip ?_)
    refine CW.reg ?_
    refine WL.val rfl (run_move) ?_
    refine WL.enter rfl (run_call en14 rfl rfl) (checkR_spec rfl _ (hl.step0 hs) hcl) ?_
    rintro e w ⟨rfl, hq⟩
    refine ⟨_, rfl, ?_⟩
    replace hs := hs.callE hq
    refine WL.val rfl (run_bT (run_neq rfl rfl) (by exact hc1)) ?_
    refine WL.val rfl (run_move) ?_
    refine WL.no rfl rfl rfl (.inl rfl) ?_
    refine WL.no rfl rfl rfl (.inl rfl) ?_
    refine WL.no rfl rfl rfl (.inl rfl) ?_
    refine WL.val rfl (run_pickT rfl) ?_
    refine WL.nil ?_
    refine CW.cond rfl (fun h => ?_) (fun h => ?_)
    · refine CW.seq ?_
      refine CW.reg ?_
      refine WL.val rfl (run_assign) ?_
      refine WL.nil ?_
      refine CW.ret ?_
      refine fin_ret1 rfl ?_
      exact ⟨rfl, hs⟩
    · cases h
  by_cases hc2 : checkE m = 0
  case neg =>
    repeat (first | refine CW.seq ?_ | refine CW.skip ?_)
    refine CW.reg ?_
    refine WL.val rfl (run_move) ?_
    refine WL.enter rfl (run_call en14 rfl rfl) (checkR_spec hc1 _ (hl.step0 hs) hcl) ?_
    rintro e w ⟨rfl, hq⟩
    refine ⟨_, rfl, ?_⟩
    replace hs := hs.callE hq
    refine WL.val rfl (run_bF (run_neq rfl rfl) (by exact fun h => h rfl)) ?_
    refine WL.val rfl (run_move) ?_
    refine WL.yes rfl rfl rfl ?_; refine WL.val rfl (run_move) ?_
    refine WL.yes rfl rfl rfl ?_
    refine WL.enter rfl (run_call en14 rfl rfl) (checkR_spec rfl _ (hm.step0 hs) hcm) ?_
    rintro e w ⟨rfl, hq⟩
    refine ⟨_, rfl, ?_⟩
    replace hs := hs.callE hq
    refine WL.yes rfl rfl rfl ?_
    refine WL.val rfl (run_bT (run_neq rfl rfl) (by exact hc2)) ?_
    refine WL.val rfl (run_pickF rfl) ?_
    refine WL.nil ?_
    refine CW.cond rfl (fun h => ?_) (fun h => ?_)
    · refine CW.seq ?_
      refine CW.reg ?_
      refine WL.val rfl (run_assign) ?_
      refine WL.nil ?_
      refine CW.ret ?_
      refine fin_ret1 rfl ?_
      exact ⟨rfl, hs⟩
    · cases h
  repeat (first | refine CW.seq ?_ | refine CW.skip ?_)
  refine CW.reg ?_
  refine WL.val rfl (run_move) ?_
  refine WL.enter rfl (run_call en14 rfl rfl) (checkR_spec hc1 _ (hl.step0 hs) hcl) ?_
  rintro e w ⟨rfl, hq⟩
  refine ⟨_, rfl, ?_⟩
  replace hs := hs.callE hq
  refine WL.val rfl (run_bF (run_neq rfl rfl) (by exact fun h => h rfl)) ?_
  refine WL.val rfl (run_move) ?_
  refine WL.yes rfl rfl rfl ?_; refine WL.val rfl (run_move) ?_
  refine WL.yes rfl rfl rfl ?_
  refine WL.enter rfl (run_call en14 rfl rfl) (checkR_spec hc2 _ (hm.step0 hs) hcm) ?_
  rintro e w ⟨rfl, hq⟩
  refine ⟨_, rfl, ?_⟩
  replace hs := hs.callE hq
  refine WL.yes rfl rfl rfl ?_
  refine WL.val rfl (run_bF (run_neq rfl rfl) (by exact fun h => h rfl)) ?_
  refine WL.val rfl (run_pickF rfl) ?_
  refine WL.nil ?_
  refine CW.cond rfl (fun h => ?_) (fun h => ?_)
  · cases h
  repeat (first | refine CW.seq ?_ | refine CW.skip ?_)
  refine CW.reg ?_
  refine WL.val rfl (run_assign) ?_
  refine WL.nil ?_
  refine CW.seq ?_
  refine CW.reg ?_
  refine WL.val rfl (run_assign) ?_
  refine WL.nil ?_
  refine CW.seqM (fun f w => ∃ (vb ve : Value) (vB : Nat → Value) (nB : Nat → Nat) (xB : Nat → List Value) (LB : Nat → List (Nat × Obj)) (vE : Nat → Value) (nE : Nat → Nat) (xE : Nat → List Value) (LE : Nat → List (Nat × Obj)) (Lb Le : List (Nat × Obj)), (∀ q, q < 8 → OwnSl 5 1 (vB q) (nB q) (xB q) (LB q) ∧ nB q ≤ 2000000) ∧ (∀ q, q < 16 → OwnSl 48 34 (vE q) (nE q) (xE q) (LE q) ∧ nE q ≤ 2000000) ∧ OwnSl 29 1 vb 8 ((List.range 8).map vB) Lb ∧ OwnSl 22 1 ve 16 ((List.range 16).map vE) Le ∧ Step [] (Lb ++ (Le ++ (allL LB 8 ++ allL LE 16))) w0 w ∧ Holds f [(0, v), (1, u), (2, str n), (7, vb), (8, ve)]) ?_ ?_
  · refine CW.seq ?_
    refine CW.reg ?_
    refine WL.val rfl (run_assign) ?_
    refine WL.nil ?_
    refine CW.block ?_
    refine CW.loop (fun mm f w' => ∃ (t : Nat) (vb ve : Value) (vB : Nat → Value) (nB : Nat → Nat) (xB : Nat → List Value) (LB : Nat → List (Nat × Obj)) (vE : Nat → Value) (nE : Nat → Nat) (xE : Nat → List Value) (LE : Nat → List (Nat × Obj)) (Lb Le : List (Nat × Obj)), t ≤ 2 ∧ mm = 2 - t ∧ (∀ q, q < 4 * t → OwnSl 5 1 (vB q) (nB q) (xB q) (LB q) ∧ nB q ≤ 2000000) ∧ (∀ q, q < 8 * t → OwnSl 48 34 (vE q) (nE q) (xE q) (LE q) ∧ nE q ≤ 2000000) ∧ OwnSl 29 1 vb (4 * t) ((List.range (4 * t)).map vB) Lb ∧ OwnSl 22 1 ve (8 * t) ((List.range (8 * t)).map vE) Le ∧ Step [] (Lb ++ (Le ++ (allL LB (4 * t) ++ allL LE (8 * t)))) w0 w' ∧ Holds f [(0, v), (1, u), (2, str n), (7, vb), (8, ve), (9, .int .i64 (t : Nat))]) (m := 2) ?_ ?_
    · exact ⟨0, _, _, fun _ => .nilFunc, fun _ => 0, fun _ => [], fun _ => [], fun _ => .nilFunc, fun _ => 0, fun _ => [], fun _ => [], [], [], by omega, rfl, fun q hq => (by omega), fun q hq => (by omega), OwnSl.nil _ _, OwnSl.nil _ _, hs, rfl, rfl, rfl, rfl, rfl, rfl, trivial⟩
    · clear hs
      rintro mm f w ⟨t, vb, ve, vB, nB, xB, LB, vE, nE, xE, LE, Lb, Le, ht, rfl, hB, hE, hvb, hve, hs, hf⟩
      have hobt := hf.chain
      obtain ⟨g, rfl⟩ := hobt
      by_cases ht2 : t < 2
      · refine CW.seq <| CW.seq ?_
        refine CW.reg ?_
        refine WL.val rfl (run_move) ?_
        refine WL.val rfl (run_bT (run_lss rfl rfl) (by omega)) ?_
        refine WL.nil ?_
        refine CW.cond rfl (fun h => ?_) (fun h => ?_)
        · repeat (first | refine CW.seq ?_ | refine CW.block ?_ | refine CW.skip ?_)
          refine CW.reg ?_
          refine WL.val rfl (run_assign) ?_
          refine WL.nil ?_
          refine CW.block ?_
          refine CW.loop (fun mm f w' => ∃ (i : Nat) (vb ve : Value) (vB : Nat → Value) (nB : Nat → Nat) (xB : Nat → List Value) (LB : Nat → List (Nat × Obj)) (vE : Nat → Value) (nE : Nat → Nat) (xE : Nat → List Value) (LE : Nat → List (Nat × Obj)) (Lb Le : List (Nat × Obj)), i ≤ 2 ∧ mm = 2 - i ∧ (∀ q, q < 4 * t + 2 * i → OwnSl 5 1 (vB q) (nB q) (xB q) (LB q) ∧ nB q ≤ 2000000) ∧ (∀ q, q < 8 * t + 4 * i → OwnSl 48 34 (vE q) (nE q) (xE q) (LE q) ∧ nE q ≤ 2000000) ∧ OwnSl 29 1 vb (4 * t + 2 * i) ((List.range (4 * t + 2 * i)).map vB) Lb ∧ OwnSl 22 1 ve (8 * t + 4 * i) ((List.range (8 * t + 4 * i)).map vE) Le ∧ Step [] (Lb ++ (Le ++ (allL LB (4 * t + 2 * i) ++ allL LE (8 * t + 4 * i)))) w0 w' ∧ Holds f [(0, v), (1, u), (2, str n), (7, vb), (8, ve), (9, .int .i64 (t : Nat)), (10, .int .i64 (i : Nat))]) (m := 2) ?_ ?_
          · exact ⟨0, vb, ve, vB, nB, xB, LB, vE, nE, xE, LE, Lb, Le, by omega, rfl, hB, hE, hvb, hve, hs, rfl, rfl, rfl, rfl, rfl, rfl, rfl, trivial⟩
          · clear hs hB hE hvb hve
            rintro mm f w ⟨i, vb, ve, vB, nB, xB, LB, vE, nE, xE, LE, Lb, Le, hi, rfl, hB, hE, hvb, hve, hs, hf⟩
            have hobt := hf.chain
            obtain ⟨g, rfl⟩ := hobt
            by_cases hi2 : i < 2
            · refine CW.seq <| CW.seq ?_
              refine CW.reg ?_
              refine WL.val rfl (run_move) ?_
              refine WL.val rfl (run_bT (run_lss rfl rfl) (by omega)) ?_
              refine WL.nil ?_
              refine CW.cond rfl (fun h => ?_) (fun h => ?_)
              · have hobt : ∃ kb, 4 * t + 2 * i = kb := ⟨_, rfl⟩
                obtain ⟨kb, hkb⟩ := hobt
                have hobt : ∃ ke, 8 * t + 4 * i = ke := ⟨_, rfl⟩
                obtain ⟨ke, hke⟩ := hobt
                rw [hkb] at hB hvb hs
                rw [hke] at hE hve hs
                repeat (first | refine CW.seq ?_ | refine CW.block ?_ | refine CW.skip ?_)
                refine CW.reg ?_
                refine WL.val rfl (run_move) ?_
                refine WL.val rfl (run_assign) ?_
                refine WL.nil ?_
                refine CW.seqM (fun f w => ∃ (vx : Value) (lx : List Ent), Es w0 vx lx ∧ Room vx ∧ checkE lx = 0 ∧ Step [] (Lb ++ (Le ++ (allL LB kb ++ allL LE ke))) w0 w ∧ Holds f [(0, v), (1, u), (2, str n), (7, vb), (8, ve), (9, .int .i64 (t : Nat)), (10, .int .i64 (i : Nat)), (11, vx)]) ?_ ?_
                · by_cases hi1 : i = 1
                  · refine CW.seq ?_
                    refine CW.reg ?_
                    refine WL.val rfl (run_move) ?_
                    refine WL.val rfl (run_bT (run_eql rfl rfl) (by omega)) ?_
                    refine WL.nil ?_
                    refine CW.condT rfl ?_
                    refine CW.reg ?_
                    refine WL.val rfl (run_move) ?_
                    refine WL.val rfl (run_assign) ?_
                    refine WL.nil ?_
                    exact ⟨rfl, u, m, hm, hcm, hc2, hs, rfl, rfl, rfl, rfl, rfl, rfl, rfl, rfl, trivial⟩
                  · refine CW.seq ?_
                    refine CW.reg ?_
                    refine WL.val rfl (run_move) ?_
                    refine WL.val rfl (run_bF (run_eql rfl rfl) (by omega)) ?_
                    refine WL.nil ?_
                    repeat (first | refine CW.skip ?_ | refine CW.condF rfl ?_)
                    exact ⟨rfl, v, l, hl, hcl, hc1, hs, rfl, rfl, rfl, rfl, rfl, rfl, rfl, rfl, trivial⟩
                clear hs hf
                rintro f w ⟨vx, lx, hx, hcx, hc, hs, hf⟩
                have hobt := hf.chain
                obtain ⟨g, rfl⟩ := hobt
                have hobt : ∃ Z, Lb ++ (Le ++ (allL LB kb ++ allL LE ke)) = Z := ⟨_, rfl⟩
                obtain ⟨Z, hZ⟩ := hobt
                rw [hZ] at hs
                have hxl := (check_parts hc).1
                have hris := check_rising hc
                have hxo := hx.2.1
                have hel := enc_len hxo hc
                have hobt := dec_enc hxo hc hel
                obtain ⟨hde, hdl⟩ := hobt
                have hoo := ownE_ok (k := 2) (by omega)
                have hrl := remR_len n lx
                have hwl := withR_len (x := ownE 2) (l := lx) (p := false)
                have hro := remR_ok n hxo
                have hwo := withR_ok (p := false) hoo hxo
                have hdec := fun {w1 v1} h => decode_at (bs := encB lx) (v := v1) w1 h (by omega)
                simp only [hde, hdl] at hdec
                have hobt : ∃ bs, encB lx = bs := ⟨_, rfl⟩
                obtain ⟨bs, hbs⟩ := hobt
                have henc := fun w1 h => encode_ok (v := vx) (l := lx) w1 h hc
                have hrenc := fun w1 h => encodeR_ok (v := vx) (l := lx) w1 h hcx hc
                simp only [hbs] at hdec henc hrenc hel
                refine CW.seq ?_
                refine CW.reg ?_
                refine WL.val rfl (run_move) ?_
                refine WL.enter rfl (run_call en16 rfl rfl) (henc _ (hx.step0 hs.clear)) ?_
                rintro e w ⟨v12, L12, rfl, hu12, hq⟩
                refine ⟨_, rfl, ?_⟩
                replace hs := hs.call0 hq
                refine WL.val rfl (run_move) ?_
                refine WL.val rfl (run_extract rfl rfl) ?_
                refine WL.val rfl (run_extract rfl rfl) ?_
                refine WL.val rfl (run_assign) ?_
                refine WL.val rfl (run_assign) ?_
                refine WL.nil ?_
                refine CW.seq ?_
                refine CW.reg ?_
                refine WL.val rfl (run_move) ?_
                refine WL.enter rfl (run_call en16 rfl rfl) (henc _ (hx.step0 hs.clear)) ?_
                rintro e w ⟨v14, L14, rfl, hu14, hq⟩
                refine ⟨_, rfl, ?_⟩
                replace hs := hs.call0 hq
                refine WL.val rfl (run_move) ?_
                refine WL.val rfl (run_extract rfl rfl) ?_
                refine WL.val rfl (run_extract rfl rfl) ?_
                refine WL.val rfl (run_assign) ?_
                refine WL.val rfl (run_assign) ?_
                refine WL.nil ?_
                refine CW.seq ?_
                refine CW.reg ?_
                refine WL.val rfl (run_move) ?_
                refine WL.enter rfl (run_call en17 rfl rfl) (hrenc _ (hx.step0 hs.clear)) ?_
                rintro e w ⟨v16, L16, rfl, hu16, hq⟩
                refine ⟨_, rfl, ?_⟩
                replace hs := hs.call0 hq
                refine WL.val rfl (run_move) ?_
                refine WL.val rfl (run_extract rfl rfl) ?_
                refine WL.val rfl (run_extract rfl rfl) ?_
                refine WL.val rfl (run_assign) ?_
                refine WL.val rfl (run_assign) ?_
                refine WL.nil ?_
                refine CW.seq <| CW.seq ?_
                refine CW.reg ?_
                refine WL.val rfl (run_move) ?_
                refine WL.val rfl (run_toString Try.underlying29 Try.underlying9 Try.underlying5 rfl (hu12.slH (fun p hp => hs.has p (by simp [hp])))) ?_
                refine WL.val rfl (run_move) ?_
                refine WL.val rfl (run_toString Try.underlying29 Try.underlying9 Try.underlying5 rfl (hu16.slH (fun p hp => hs.has p (by simp [hp])))) ?_
                refine WL.val rfl (run_bF (run_strNe rfl rfl) (by exact fun h => h rfl)) ?_
                refine WL.val rfl (run_move) ?_
                refine WL.yes rfl rfl rfl ?_; refine WL.val rfl (run_move) ?_
                refine WL.yes rfl rfl rfl ?_
                refine WL.val rfl (run_toString Try.underlying29 Try.underlying9 Try.underlying5 rfl (hu14.slH (fun p hp => hs.has p (by simp [hp])))) ?_
                refine WL.yes rfl rfl rfl ?_; refine WL.val rfl (run_move) ?_
                refine WL.yes rfl rfl rfl ?_
                refine WL.val rfl (run_toString Try.underlying29 Try.underlying9 Try.underlying5 rfl (hu16.slH (fun p hp => hs.has p (by simp [hp])))) ?_
                refine WL.yes rfl rfl rfl ?_
                refine WL.val rfl (run_bF (run_strNe rfl rfl) (by exact fun h => h rfl)) ?_
                refine WL.val rfl (run_pickF rfl) ?_
                refine WL.nil ?_
                refine CW.cond rfl (fun h => ?_) (fun h => ?_)
                · cases h
                repeat (first | refine CW.seq ?_ | refine CW.skip ?_)
                refine CW.reg ?_
                refine WL.val rfl (run_move) ?_
                refine WL.enter rfl (run_call en18 rfl rfl) (lend2_spec _ (hu16.slH (fun p hp => hs.has p (by simp [hp]))) (by omega)) ?_
                rintro e w ⟨b18, rfl, hq⟩
                refine ⟨_, rfl, ?_⟩
                replace hs := hs.call0 hq
                refine WL.val rfl (run_assign) ?_
                refine WL.nil ?_
                replace hs : Step [] ((b18, LendS bs) :: (L16 ++ (L14 ++ (L12 ++ Z)))) w0 w := hs
                refine CW.seq ?_
                refine CW.reg ?_
                refine WL.val rfl (run_move) ?_
                refine WL.enter rfl (run_call en19 rfl rfl) (hdec (lent2 hs)) ?_
                rintro e w ⟨v19, L19, rfl, hu19, ho19, hl19, hq⟩
                refine ⟨_, rfl, ?_⟩
                replace hs := hs.call0 hq
                refine WL.val rfl (run_move) ?_
                refine WL.val rfl (run_extract rfl rfl) ?_
                refine WL.val rfl (run_extract rfl rfl) ?_
                refine WL.val rfl (run_assign) ?_
                refine WL.val rfl (run_assign) ?_
                refine WL.nil ?_
                refine CW.seq ?_
                refine CW.reg ?_
                refine WL.val rfl (run_move) ?_
                refine WL.enter rfl (run_call en19 rfl rfl) (hdec (lent2 (Step.dropL hs))) ?_
                rintro e w ⟨v21, L21, rfl, hu21, ho21, hl21, hq⟩
                refine ⟨_, rfl, ?_⟩
                replace hs := hs.call0 hq
                refine WL.val rfl (run_move) ?_
                refine WL.val rfl (run_extract rfl rfl) ?_
                refine WL.val rfl (run_extract rfl rfl) ?_
                refine WL.val rfl (run_assign) ?_
                refine WL.val rfl (run_assign) ?_
                refine WL.nil ?_
                refine CW.seq ?_
                refine CW.reg ?_
                refine WL.val rfl (run_move) ?_
                refine WL.val rfl (run_move) ?_
                refine WL.enter rfl (run_call en24 rfl rfl) (lessS_spec (l := lx) (n := n) _ (hx.step0 hs.clear) hris (by omega)) ?_
                rintro e w ⟨v23, L23, rfl, hu23, hq⟩
                refine ⟨_, rfl, ?_⟩
                replace hs := hs.call0 hq
                refine WL.val rfl (run_assign) ?_
                refine WL.nil ?_
                refine CW.seq ?_
                refine CW.reg ?_
                refine WL.val rfl (run_move) ?_
                refine WL.val rfl (run_build rfl ((bld_ent _ _ _))) ?_
                refine WL.enter rfl (run_call en28 rfl rfl) (withS_spec (l := lx) (x := ownE 2) _ (hx.step0 hs.clear) hris (by omega) hoo) ?_
                rintro e w ⟨v24, L24, rfl, hu24, hq⟩
                refine ⟨_, rfl, ?_⟩
                replace hs := hs.call0 hq
                refine WL.val rfl (run_assign) ?_
                refine WL.nil ?_
                refine CW.seq <| CW.seq ?_
                refine CW.reg ?_
                refine WL.val rfl (run_move) ?_
                refine WL.val rfl (run_move) ?_
                refine WL.enter rfl (run_call en22 rfl rfl) (same_true rfl _ (hu19.esH ho19 (by omega) (fun p hp => hs.has p (by simp [hp]))) (hx.step0 hs.clear)) ?_
                rintro e w ⟨rfl, hq⟩
                refine ⟨_, rfl, ?_⟩
                replace hs := hs.callE hq
                refine WL.val rfl (run_not rfl) ?_
                refine WL.val rfl (run_move) ?_
                refine WL.yes rfl rfl rfl ?_; refine WL.val rfl (run_move) ?_
                refine WL.yes rfl rfl rfl ?_; refine WL.val rfl (run_move) ?_
                refine WL.yes rfl rfl rfl ?_
                refine WL.enter rfl (run_call en22 rfl rfl) (same_true rfl _ (hu21.esH ho21 (by omega) (fun p hp => hs.has p (by simp [hp]))) (hx.step0 hs.clear)) ?_
                rintro e w ⟨rfl, hq⟩
                refine ⟨_, rfl, ?_⟩
                replace hs := hs.callE hq
                refine WL.yes rfl rfl rfl ?_; (first | refine WL.val rfl (run_notB rfl) ?_ | refine WL.val rfl (run_not rfl) ?_)
                refine WL.val rfl (run_pickF rfl) ?_
                refine WL.val rfl (run_move) ?_
                refine WL.yes rfl rfl rfl ?_; refine WL.val rfl (run_move) ?_
                refine WL.yes rfl rfl rfl ?_; refine WL.val rfl (run_move) ?_
                refine WL.yes rfl rfl rfl ?_; refine WL.val rfl (run_move) ?_
                refine WL.yes rfl rfl rfl ?_
                refine WL.enter rfl (run_call en25 rfl rfl) (lessR_spec (l := lx) (n := n) _ (hx.step0 hs.clear) (by omega)) ?_
                rintro e w ⟨v108, L108, rfl, hu108, hq⟩
                refine ⟨_, rfl, ?_⟩
                replace hs := hs.call0 hq
                refine WL.yes rfl rfl rfl ?_
                refine WL.enter rfl (run_call en22 rfl rfl) (same_true rfl _ (hu23.esH hro (by omega) (fun p hp => hs.has p (by simp [hp]))) (hu108.esH hro (by omega) (fun p hp => hs.has p (by simp [hp])))) ?_
                rintro e w ⟨rfl, hq⟩
                refine ⟨_, rfl, ?_⟩
                replace hs := hs.callE hq
                refine WL.yes rfl rfl rfl ?_; (first | refine WL.val rfl (run_notB rfl) ?_ | refine WL.val rfl (run_not rfl) ?_)
                refine WL.val rfl (run_pickF rfl) ?_
                refine WL.val rfl (run_move) ?_
                refine WL.yes rfl rfl rfl ?_; refine WL.val rfl (run_move) ?_
                refine WL.yes rfl rfl rfl ?_; refine WL.val rfl (run_move) ?_
                refine WL.yes rfl rfl rfl ?_
                refine WL.val rfl (run_build rfl ((bld_ent _ _ _))) ?_
                refine WL.yes rfl rfl rfl ?_
                refine WL.enter rfl (run_call en29 rfl rfl) (withR_spec (l := lx) (x := ownE 2) _ (hx.step0 hs.clear) (by omega) hoo) ?_
                rintro e w ⟨v116, L116, rfl, hu116, hwo116, hq⟩
                refine ⟨_, rfl, ?_⟩
                replace hs := hs.call0 hq
                refine WL.yes rfl rfl rfl ?_
                refine WL.enter rfl (run_call en22 rfl rfl) (same_true rfl _ (hu24.esH hwo (by omega) (fun p hp => hs.has p (by simp [hp]))) (hu116.esH hwo (by omega) (fun p hp => hs.has p (by simp [hp])))) ?_
                rintro e w ⟨rfl, hq⟩
                refine ⟨_, rfl, ?_⟩
                replace hs := hs.callE hq
                refine WL.yes rfl rfl rfl ?_; (first | refine WL.val rfl (run_notB rfl) ?_ | refine WL.val rfl (run_not rfl) ?_)
                refine WL.val rfl (run_pickF rfl) ?_
                refine WL.val rfl (run_move) ?_
                refine WL.yes rfl rfl rfl ?_; refine WL.val rfl (run_move) ?_
                refine WL.yes rfl rfl rfl ?_; refine WL.val rfl (run_move) ?_
                refine WL.yes rfl rfl rfl ?_
                refine WL.enter rfl (run_call en21 rfl rfl) (kept2_spec _ (hu16.slH (fun p hp => hs.has p (by simp [hp]))) (by omega) (hs.has (b18, LendS bs) (by simp))) ?_
                rintro e w ⟨rfl, hq⟩
                refine ⟨_, rfl, ?_⟩
                replace hs := Step.dropR (L1 := L24 ++ (L23 ++ (L21 ++ (L19 ++ (L14 ++ (L12 ++ Z)))))) (Step.call (L1 := [_]) (L' := []) (hs.perm perm_kept) hq)
                refine WL.yes rfl rfl rfl ?_; (first | refine WL.val rfl (run_notB rfl) ?_ | refine WL.val rfl (run_not rfl) ?_)
                refine WL.val rfl (run_pickF rfl) ?_
                refine WL.nil ?_
                refine CW.cond rfl (fun h => ?_) (fun h => ?_)
                · cases h
                rw [← hZ] at hs
                replace hs : Step [] ((L24 ++ (L23 ++ (L21 ++ (L19 ++ (L14 ++ L12))))) ++ (Lb ++ (Le ++ (allL LB kb ++ allL LE ke)))) w0 w := by simpa only [List.append_assoc] using hs
                have hobt : ∃ K, L24 ++ (L23 ++ (L21 ++ (L19 ++ (L14 ++ L12)))) = K := ⟨_, rfl⟩
                obtain ⟨K, hK⟩ := hobt
                rw [hK] at hs
                have hc2' : Cells1 [v12, v14] := fun x hx => by
                  rcases List.mem_cons.1 hx with rfl | hx
                  · exact hu12.one
                  · rw [List.mem_singleton.1 hx]; exact hu14.one
                have hc4' : Cells1 [v19, v21, v23, v24] := fun x hx => by
                  rcases List.mem_cons.1 hx with rfl | hx
                  · exact hu19.one
                  rcases List.mem_cons.1 hx with rfl | hx
                  · exact hu21.one
                  rcases List.mem_cons.1 hx with rfl | hx
                  · exact hu23.one
                  · rw [List.mem_singleton.1 hx]; exact hu24.one
                repeat (first | refine CW.seq ?_ | refine CW.skip ?_)
                refine CW.reg ?_
                refine WL.val rfl (run_move) ?_
                refine WL.val rfl (run_move) ?_
                refine WL.val rfl (run_move) ?_
                refine WL.buildSlice (cs := [v12, v14]) (vs := [(0, v12), (1, v14)]) Try.underlying56 ty29 rfl (by decide) rfl (filledA2 hu12.one hu14.one) rfl hs (fun b129 w hs => ?_)
                refine WL.append Try.underlying56 Try.underlying56 ty29 rfl (by decide) rfl rfl (hvb) (hs.perm (perm_mid (A := _ :: K) (B := Lb))) ((Sl.mk rfl hs.a0 : Sl w 1 (.slice (some ⟨b129, 0, none⟩) 2 2) 2 [v12, v14])) (hc2') (by first | omega | (simp only [List.length_append, List.length_cons, List.length_nil]; omega)) rfl (fun v130 Lv130 w hv130 hs => ?_)
                refine WL.val rfl (run_assign) ?_
                refine WL.nil ?_
                replace hs : Step [] ((Lv130 ++ ((b129, blk 29 [v12, v14]) :: K)) ++ (Le ++ (allL LB kb ++ allL LE ke))) w0 w := by
                  rw [List.append_assoc]
                  exact hs
                refine CW.reg ?_
                refine WL.val rfl (run_move) ?_
                refine WL.val rfl (run_move) ?_
                refine WL.val rfl (run_move) ?_
                refine WL.val rfl (run_move) ?_
                refine WL.val rfl (run_move) ?_
                refine WL.buildSlice (cs := [v19, v21, v23, v24]) (vs := [(0, v19), (1, v21), (2, v23), (3, v24)]) Try.underlying57 ty22 rfl (by decide) rfl (filledA4 hu19.one hu21.one hu23.one hu24.one) rfl hs (fun b136 w hs => ?_)
                refine WL.append Try.underlying57 Try.underlying57 ty22 rfl (by decide) rfl rfl (hve) (hs.perm (perm_mid (A := _ :: (Lv130 ++ (_ :: K))) (B := Le))) ((Sl.mk rfl hs.a0 : Sl w 1 (.slice (some ⟨b136, 0, none⟩) 4 4) 4 [v19, v21, v23, v24])) (hc4') (by first | omega | (simp only [List.length_append, List.length_cons, List.length_nil]; omega)) rfl (fun v137 Lv137 w hv137 hs => ?_)
                refine WL.val rfl (run_assign) ?_
                refine WL.nil ?_
                have h5 : Step [] (Lv137 ++ ((b136, blk 22 [v19, v21, v23, v24]) :: (Lv130 ++ ((b129, blk 29 [v12, v14]) :: ((L24 ++ (L23 ++ (L21 ++ (L19 ++ (L14 ++ L12))))) ++ (allL LB kb ++ allL LE ke)))))) w0 w := by
                  rw [hK]
                  simpa only [List.append_assoc, List.cons_append] using hs
                replace hs := Step.dropR (h5.perm perm_round)
                rw [show allL LB kb ++ [L12, L14].flatten = allL (extF LB kb [L12, L14] []) (kb + 2) from allL_ext.symm, show allL LE ke ++ [L19, L21, L23, L24].flatten = allL (extF LE ke [L19, L21, L23, L24] []) (ke + 4) from allL_ext.symm] at hs
                have e1 : 4 * t + 2 * (i + 1) = kb + 2 := by omega
                have e2 : 8 * t + 4 * (i + 1) = ke + 4 := by omega
                have hB' := own_ext (N := kb + 2) (lv := [v12, v14]) (ln := [bs.length, bs.length]) (lx := [u8s bs, u8s bs]) (lL := [L12, L14]) rfl rfl rfl rfl hB (fun j a b c d h1 h2 h3 h4 => by
                  match j, h1, h2, h3, h4 with
                  | 0, h1, h2, h3, h4 => cases h1; cases h2; cases h3; cases h4; exact ⟨hu12, by omega⟩
                  | 1, h1, h2, h3, h4 => cases h1; cases h2; cases h3; cases h4; exact ⟨hu14, by omega⟩)
                have hE' := own_ext (N := ke + 4) (lv := [v19, v21, v23, v24]) (ln := [lx.length, lx.length, (remR n lx).length, (withR (ownE 2) false lx).length]) (lx := [rows lx, rows lx, rows (remR n lx), rows (withR (ownE 2) false lx)]) (lL := [L19, L21, L23, L24]) rfl rfl rfl rfl hE (fun j a b c d h1 h2 h3 h4 => by
                  match j, h1, h2, h3, h4 with
                  | 0, h1, h2, h3, h4 => cases h1; cases h2; cases h3; cases h4; exact ⟨hu19, by omega⟩
                  | 1, h1, h2, h3, h4 => cases h1; cases h2; cases h3; cases h4; exact ⟨hu21, by omega⟩
                  | 2, h1, h2, h3, h4 => cases h1; cases h2; cases h3; cases h4; exact ⟨hu23, by omega⟩
                  | 3, h1, h2, h3, h4 => cases h1; cases h2; cases h3; cases h4; exact ⟨hu24, by omega⟩)
                have hmB : (List.range kb).map vB ++ [v12, v14] = (List.range (kb + 2)).map (extF vB kb [v12, v14] .nilFunc) := extF_map.symm
                have hmE : (List.range ke).map vE ++ [v19, v21, v23, v24] = (List.range (ke + 4)).map (extF vE ke [v19, v21, v23, v24] .nilFunc) := extF_map.symm
                rw [hmB] at hv130
                rw [hmE] at hv137
                refine CW.reg ?_
                refine WL.val rfl (run_move) ?_
                refine WL.val rfl (run_add (c := ((i + 1 : Nat) : Int)) rfl rfl (by omega) (by omega)) ?_
                refine WL.val rfl (run_assign) ?_
                refine WL.nil ?_
                refine (show _ ∧ _ from ⟨rfl, _, ?_, i + 1, v130, v137, _, _, _, _, _, _, _, _, Lv130, Lv137, by omega, rfl, (by rw [e1]; exact hB'), (by rw [e2]; exact hE'), (by rw [e1]; exact hv130), (by rw [e2]; exact hv137), (by rw [e1, e2]; exact hs), rfl, rfl, rfl, rfl, rfl, rfl, rfl, trivial⟩)
                omega
              · cases h
            · obtain rfl : i = 2 := by omega
              refine CW.seq <| CW.seq ?_
              refine CW.reg ?_
              refine WL.val rfl (run_move) ?_
              refine WL.val rfl (run_bF (run_lss rfl rfl) (by omega)) ?_
              refine WL.nil ?_
              repeat (first | refine CW.exit ?_ | refine CW.condF rfl ?_)
              refine CW.reg ?_
              refine WL.val rfl (run_move) ?_
              refine WL.val rfl (run_add (c := ((t + 1 : Nat) : Int)) rfl rfl (by omega) (by omega)) ?_
              refine WL.val rfl (run_assign) ?_
              refine WL.nil ?_
              have e1 : 4 * (t + 1) = 4 * t + 2 * 2 := by omega
              have e2 : 8 * (t + 1) = 8 * t + 4 * 2 := by omega
              refine (show _ ∧ _ from ⟨rfl, _, ?_, t + 1, vb, ve, vB, nB, xB, LB, vE, nE, xE, LE, Lb, Le, by omega, rfl, (by rw [e1]; exact hB), (by rw [e2]; exact hE), (by rw [e1]; exact hvb), (by rw [e2]; exact hve), (by rw [e1, e2]; exact hs), rfl, rfl, rfl, rfl, rfl, rfl, trivial⟩)
              omega
        · cases h
      · obtain rfl : t = 2 := by omega
        refine CW.seq <| CW.seq ?_
        refine CW.reg ?_
        refine WL.val rfl (run_move) ?_
        refine WL.val rfl (run_bF (run_lss rfl rfl) (by omega)) ?_
        refine WL.nil ?_
        repeat (first | refine CW.exit ?_ | refine CW.condF rfl ?_)
        exact ⟨rfl, vb, ve, vB, nB, xB, LB, vE, nE, xE, LE, Lb, Le, hB, hE, hvb, hve, hs, rfl, rfl, rfl, rfl, rfl, trivial⟩
  clear hs
  rintro f w ⟨vb, ve, vB, nB, xB, LB, vE, nE, xE, LE, Lb, Le, hB, hE, hvb, hve, hs, hf⟩
  have hobt := hve.some1 (by decide)
  obtain ⟨bE, cE, mE, hveq, hLe, hcE⟩ := hobt
  have hobt := hvb.some1 (by decide)
  obtain ⟨bB, cB, mB, hvbq, hLb, hcB⟩ := hobt
  rw [hveq, hvbq] at hf
  have hobt := hf.chain
  obtain ⟨g, rfl⟩ := hobt
  rw [hLe, hLb] at hs
  have hl1 := (check_parts hc1).1
  have hm1 := (check_parts hc2).1
  refine CW.seq ?_
  refine CW.reg ?_
  refine WL.buildSlice (cs := []) Try.underlying22 ty48 rfl (by decide) rfl (by simp [Filled, Instr.fill]) rfl hs (fun b138 w hs => ?_)
  refine WL.val rfl (run_move) ?_
  refine WL.append Try.underlying22 Try.underlying22 ty48 rfl (by decide) rfl rfl ((OwnSl.mk (k := 0) (by simp))) (hs) (hl.1.step0 hs.clear) (rows_cells1 l) (by first | omega | (simp only [List.length_append, List.length_cons, List.length_nil]; omega)) rfl (fun v140 Lv140 w hv140 hs => ?_)
  refine WL.val rfl (run_assign) ?_
  refine WL.nil ?_
  rw [Nat.zero_add, List.nil_append] at hv140
  refine CW.seq ?_
  refine CW.reg ?_
  refine WL.buildSlice (cs := []) Try.underlying22 ty48 rfl (by decide) rfl (by simp [Filled, Instr.fill]) rfl hs (fun b141 w hs => ?_)
  refine WL.val rfl (run_move) ?_
  refine WL.append Try.underlying22 Try.underlying22 ty48 rfl (by decide) rfl rfl ((OwnSl.mk (k := 0) (by simp))) (hs) (hm.1.step0 hs.clear) (rows_cells1 m) (by first | omega | (simp only [List.length_append, List.length_cons, List.length_nil]; omega)) rfl (fun v143 Lv143 w hv143 hs => ?_)
  refine WL.val rfl (run_assign) ?_
  refine WL.nil ?_
  rw [Nat.zero_add, List.nil_append] at hv143
  have h6 : Step [] (Lv143 ++ (Lv140 ++ ([(bB, blk 29 ((List.range 8).map vB ++ mB))] ++ ([(bE, blk 22 ((List.range 16).map vE ++ mE))] ++ (allL LB 8 ++ allL LE 16))))) w0 w := hs
  clear hs
  have hs : Step [] ((Lv143 ++ (Lv140 ++ ([(bB, blk 29 ((List.range 8).map vB ++ mB))] ++ ([(bE, blk 22 ((List.range 16).map vE ++ mE))] ++ allL LB 8)))) ++ allL LE 16) w0 w := by simpa only [List.append_assoc] using h6
  have kE : (bE, blk 22 ((List.range 16).map vE ++ mE)) ∈ (Lv143 ++ (Lv140 ++ ([(bB, blk 29 ((List.range 8).map vB ++ mB))] ++ ([(bE, blk 22 ((List.range 16).map vE ++ mE))] ++ allL LB 8)))) := by simp
  have kB : (bB, blk 29 ((List.range 8).map vB ++ mB)) ∈ (Lv143 ++ (Lv140 ++ [(bB, blk 29 ((List.range 8).map vB ++ mB)), (bE, blk 22 ((List.range 16).map vE ++ mE))])) := by simp
  have hgE := fun {w} (hs : Step [] ((Lv143 ++ (Lv140 ++ ([(bB, blk 29 ((List.range 8).map vB ++ mB))] ++ ([(bE, blk 22 ((List.range 16).map vE ++ mE))] ++ allL LB 8)))) ++ allL LE 16) w0 w) => grownE_spec (cA := cE) (w0 := w) (by decide) (by decide) (At.of_blk (hs.has (bE, blk 22 ((List.range 16).map vE ++ mE)) (List.mem_append_left _ kE))).left (fun q hq => (hE q hq).1) (fun q hq => (hE q hq).2) (Step.own0 (Step.dropL hs)) (by
    intro hmem
    have hn := hs.nodup
    rw [List.map_append, List.nodup_append] at hn
    exact hn.2.2 bE (List.mem_map.2 ⟨_, kE, rfl⟩) bE hmem rfl)
  have hgB := fun {w} (hs : Step [] ((Lv143 ++ (Lv140 ++ [(bB, blk 29 ((List.range 8).map vB ++ mB)), (bE, blk 22 ((List.range 16).map vE ++ mE))])) ++ allL LB 8) w0 w) => grownB_spec (cA := cB) (w0 := w) (by decide) (by decide) (At.of_blk (hs.has (bB, blk 29 ((List.range 8).map vB ++ mB)) (List.mem_append_left _ kB))).left (fun q hq => (hB q hq).1) (fun q hq => (hB q hq).2) (Step.own0 (Step.dropL hs)) (by
    intro hmem
    have hn := hs.nodup
    rw [List.map_append, List.nodup_append] at hn
    exact hn.2.2 bB (List.mem_map.2 ⟨_, kB, rfl⟩) bB hmem rfl)
  refine CW.seq ?_
  refine CW.reg ?_
  refine WL.val rfl (run_move) ?_
  refine WL.enter rfl (run_call en30 rfl rfl) (hgE hs) ?_
  rintro e w ⟨rfl, hq⟩
  refine ⟨_, rfl, ?_⟩
  replace hs := Step.call (L1 := allL LE 16) (L' := []) hs.append_comm hq
  replace hs : Step [] ((Lv143 ++ (Lv140 ++ [(bB, blk 29 ((List.range 8).map vB ++ mB)), (bE, blk 22 ((List.range 16).map vE ++ mE))])) ++ allL LB 8) w0 w := by simpa [List.append_assoc] using hs
  refine WL.val rfl (run_move) ?_
  refine WL.yes rfl rfl rfl ?_; refine WL.val rfl (run_move) ?_
  refine WL.yes rfl rfl rfl ?_
  refine WL.enter rfl (run_call en31 rfl rfl) (hgB hs) ?_
  rintro e w ⟨rfl, hq⟩
  refine ⟨_, rfl, ?_⟩
  replace hs := Step.call (L1 := allL LB 8) (L' := []) hs.append_comm hq
  refine WL.val rfl (run_pickT rfl) ?_
  refine WL.val rfl (run_move) ?_
  refine WL.yes rfl rfl rfl ?_; refine WL.val rfl (run_move) ?_
  refine WL.yes rfl rfl rfl ?_; refine WL.val rfl (run_move) ?_
  refine WL.yes rfl rfl rfl ?_
  refine WL.enter rfl (run_call en22 rfl rfl) (same_true rfl _ (hl.step0 hs.clear) (hv140.esH hl.2.1 hl.2.2 (fun p hp => hs.has p (by simp [hp])))) ?_
  rintro e w ⟨rfl, hq⟩
  refine ⟨_, rfl, ?_⟩
  replace hs := hs.callE hq
  refine WL.val rfl (run_pickT rfl) ?_
  refine WL.val rfl (run_move) ?_
  refine WL.yes rfl rfl rfl ?_; refine WL.val rfl (run_move) ?_
  refine WL.yes rfl rfl rfl ?_; refine WL.val rfl (run_move) ?_
  refine WL.yes rfl rfl rfl ?_
  refine WL.enter rfl (run_call en22 rfl rfl) (same_true rfl _ (hm.step0 hs.clear) (hv143.esH hm.2.1 hm.2.2 (fun p hp => hs.has p (by simp [hp])))) ?_
  rintro e w ⟨rfl, hq⟩
  refine ⟨_, rfl, ?_⟩
  replace hs := hs.callE hq
  refine WL.val rfl (run_pickT rfl) ?_
  refine WL.val rfl (run_move) ?_
  refine WL.yes rfl rfl rfl ?_; refine WL.val rfl (run_move) ?_
  refine WL.yes rfl rfl rfl ?_; refine WL.val rfl (run_move) ?_
  refine WL.yes rfl rfl rfl ?_
  refine WL.enter rfl (run_call en32 rfl rfl) (moved_spec _ (hl.step0 hs.clear) hl1) ?_
  rintro e w ⟨rfl, hq⟩
  refine ⟨_, rfl, ?_⟩
  replace hs := hs.callE hq
  refine WL.val rfl (run_pickT rfl) ?_
  refine WL.val rfl (run_assign) ?_
  refine WL.nil ?_
  refine CW.ret ?_
  refine fin_ret1 rfl ?_
  exact ⟨rfl, hs.clear⟩
end Go.Gx
/-! NodeOwn -/
namespace Go.Proofs.Ytkdmkjlchlcebaa.nodeOwn
open Go.ChangeShapes Go.WideShapes Go.ChangeAt Go.RowKit
set_option linter.unusedVariables false

theorem own : ownKnob Try.prog.godebug = none := by kernel_rfl
theorem laid : laidOutB Try.prog = true := by kernel_rfl

set_option maxRecDepth 100000 in
theorem lifted (os : Os) (started : os.Started) (H : Type) (enc : TypeId × Value → H) :
    ReturnsInHanded {} Try.checked os 9 .any (Rows.nodeOwnSpec.pre6 enc Try.prog Try.f9 Rows.nodeOwnRow.domain false) (Rows.nodeOwnSpec.post enc Try.prog Try.f9 false true false false) := by
  refine returnsInHanded_of_change (C := Try.checked) own started (by kernel_rfl) Try.func9
    (ChangeSpec.witness6 (enc := enc) (C := Try.checked) false ⟨#[], #[.slice none 0 0, .slice none 0 0, Go.Gx.str []], []⟩ 12 (by kernel_rfl) (by kernel_rfl) (by kernel_rfl) (by kernel_rfl)) ?_
  intro W base args ds gs before hval0 hW hcnd _
  have hval : ∀ (j : Nat) t v, Try.f9.params[j]? = some t → args[j]? = some v → Value.okWide Try.prog W .any base t v := hval0
  have hW' := hW
  obtain ⟨p, q, hA0, hV, rfl, hfz, hnd⟩ := hW
  have hA : DataW.TrodAll enc Try.prog W 0 (fun _ => true) true Try.f9.params.toList args.toList ds p := hA0
  rw [Try.params9] at hA hval
  obtain ⟨rfl, rfl⟩ := trodVars_none hV
  obtain ⟨vs, hargs, hA⟩ : ∃ vs, args = vs.toArray ∧ DataW.TrodAll enc Try.prog W 0 (fun _ => true) true [22, 22, 9] vs ds p := ⟨args.toList, rfl, hA⟩
  obtain rfl := hargs
  have hA1 := hA
  obtain ⟨v0, vs0, d0, ds0, p0, q0, rfl, rfl, rfl, h0, hA⟩ := trodAll_cons hA
  obtain ⟨v1, vs1, d1, ds1, p1, q1, rfl, rfl, rfl, h1, hA⟩ := trodAll_cons hA
  obtain ⟨v2, vs2, d2, ds2, p2, q2, rfl, rfl, rfl, h2, hA⟩ := trodAll_cons hA
  obtain ⟨rfl, rfl, rfl⟩ := trodAll_nil hA
  clear hA hval0
  simp only [List.append_nil] at hW' hA1 hfz hnd
  obtain ⟨l0, he0, hr0, hn0⟩ := Go.Gx.open_es (hval 0 22 v0 rfl rfl) h0
  obtain ⟨l1, he1, hr1, hn1⟩ := Go.Gx.open_es (hval 1 22 v1 rfl rfl) h1
  obtain ⟨s2, hv2, hm2, hn2⟩ := Go.Gx.open_str (hval 2 9 v2 rfl rfl) h2
  subst hv2
  refine (Go.Gx.nodeown_spec W he0 hr0 he1 hr1).mono fun e W' ⟨he, hg⟩ => ?_
  subst he
  have hb := hg.below
  have hlt := fun x hx => hW'.lt x hx
  have hst := Go.Gx.trodAll_stays laid hb hA1 (by simpa using hlt) (by intro t ht; simp only [List.mem_cons, List.not_mem_nil, or_false] at ht; rcases ht with rfl | rfl | rfl <;> exact ⟨by kernel_rfl, of_decide_eq_true (by kernel_rfl)⟩)
  refine ⟨_, rfl, [d0, d1, d2], [], _, [], _, [], hW', trodAll_cons_mk (shut_bool Try.underlying4 _) trodAll_mk0, hst, rfl, hb.frame _, fun h => by cases h⟩

theorem over : Rows.nodeOwnRow.holds Try.pinned (OpenSpec.ofChange Rows.nodeOwnSpec) :=
  OpenClaim.holds_of_wide 9 Try.f9 rfl rfl rfl rfl rfl rfl rfl ⟨rfl, rfl, rfl, rfl, rfl⟩ rfl rfl rfl rfl rfl (by kernel_rfl) Try.func9 (by kernel_rfl)
    (of_decide_eq_true (by kernel_rfl)) (by unfold Func.isWrapper; first | (rw [if_pos (by decide +kernel)]; kernel_rfl) | (rw [if_neg (by decide +kernel)]; exact ⟨rfl, rfl⟩))
    (fun os started H enc _ => lifted os started H enc)

/-- The statement. -/
theorem proved : Rows.NodeOwnSaid :=
  over
#print axioms proved
end Go.Proofs.Ytkdmkjlchlcebaa.nodeOwn
