/- Words and laws of no program, for any seat: what a call leaves, slices, bytes, order of texts. -/
import Derived.Test.YtepaojbhjgefiaaGreatDoorYNSpec
namespace Go.Gx.Gy
set_option linter.unusedVariables false
set_option linter.unusedSimpArgs false

theorem Step.own {S : List Nat} {L1 L : List (Nat × Obj)} {w0 w : World} (h : Step S (L1 ++ L) w0 w) : Step (L1.map (·.1)) L1 w w :=
  Step.start h.dropR.nodup h.dropR.has
theorem OwnSl.one {E sz k : Nat} {v : Value} {xs : List Value} {Lv : List (Nat × Obj)} (h : OwnSl E sz v k xs Lv) : v.oneCell' = true := by
  have hobt := h.form
  obtain ⟨a, c, rfl⟩ := hobt
  rfl
theorem u8s_len (a : List UInt8) : (u8s a).length = a.length := by simp [u8s]
theorem Sl.own1 {S : List Nat} {L : List (Nat × Obj)} {w0 w : World} {b T n c : Nat} {cs : List Value} (hs : Step S ((b, blk T cs) :: L) w0 w) {sz : Nat} (hl : cs.length = n * sz) : Sl w sz (.slice (some ⟨b, 0, none⟩) n c) n cs :=
  .mk hl (At.of_blk hs.hd)
theorem OwnSl.outside {E sz k : Nat} {v : Value} {xs : List Value} {Lv : List (Nat × Obj)} {S : List Nat} (h : OwnSl E sz v k xs Lv) (hd : ∀ p ∈ Lv, p.1 ∉ S) : Outside v S := by
  obtain ⟨hl, ⟨rfl, rfl, rfl⟩ | ⟨b, cap, more, rfl, rfl, hc⟩⟩ := h
  · trivial
  · exact hd _ (List.mem_singleton.2 rfl)
/-- What was there before is outside what is new, and outside what is ours but not S's. -/
theorem Outside.fresh {S S' : List Nat} {L : List (Nat × Obj)} {w0 w : World} {sz n : Nat} {v : Value} {cs : List Value} (hv : Sl w0 sz v n cs) (hne : cs ≠ []) (hs : Step S L w0 w) (hS : Outside v S) (hsub : ∀ k ∈ S', k ∈ L.map (·.1)) : Outside v S' := by
  obtain ⟨hl, ⟨a, c, rfl, rfl⟩ | ⟨b, off, c, rfl, hat⟩⟩ := hv
  · exact absurd (List.eq_nil_of_length_eq_zero (by simpa using hl)) hne
  · intro hk
    have hobt := List.mem_map.1 (hsub _ hk)
    obtain ⟨p, hp, hpb⟩ := hobt
    have hlt := hat.lt hne
    rcases hs.new p hp with h1 | h1
    · exact hS (hpb ▸ h1)
    · have : p.1 = b := hpb
      omega
section
variable {P : Program} {f : Slots} {w : World} {d : Option Tmp} {ty : TypeId} {pos : String} {af : Array Edge} {x y : Operand} {T T' : TypeId} {k k' : IntKind}
end
theorem Step.cast {S : List Nat} {b : Nat} {T : TypeId} {cs cs' : List Value} {L : List (Nat × Obj)} {w0 w : World} (h : Step S ((b, blk T cs) :: L) w0 w) (e : cs = cs') : Step S ((b, blk T cs') :: L) w0 w := e ▸ h
theorem fold_splice (off : Nat) : ∀ (vs : List Value) (k : Nat) (cs : List Value), off + k + vs.length ≤ cs.length → (vs.zipIdx k).foldl (fun (a : Array Value) (x : Value × Nat) => a.setIfInBounds (off + x.2) x.1) cs.toArray = (splice cs (off + k) vs).toArray
  | [], k, cs, _ => by rw [splice_nil]; rfl
  | v :: vs, k, cs, h => by
    simp only [List.length_cons] at h
    rw [List.zipIdx_cons, List.foldl_cons, List.setIfInBounds_toArray, fold_splice off vs (k + 1) _ (by rw [List.length_set]; omega), ← Nat.add_assoc, splice_cons v vs (by omega)]
theorem filled1 {sz : Nat} {zs cs : List Value} (h : cs.length = sz) (hz : zs.length = sz) : Filled sz 1 zs [(0, .agg cs.toArray)] cs := by
  have e : ((Value.agg cs.toArray).cells.zipIdx.foldl (fun (a : Array Value) (x : Value × Nat) => a.setIfInBounds (0 * sz + x.2) x.1) (List.replicate 1 zs).flatten.toArray) = cs.toArray := by
    have h1 := fold_splice 0 cs 0 zs (by omega)
    have h2 : splice zs 0 cs = cs := by simp [splice, List.drop_of_length_le (show zs.length ≤ cs.length by omega)]
    simp only [Value.cells, Nat.zero_mul, List.replicate_one, List.flatten_cons, List.flatten_nil, List.append_nil, ← Array.foldl_toList, Array.toList_zipIdx]
    rw [h1, h2]
  unfold Filled
  simp only [Instr.fill]
  rw [if_neg (by simp [Value.cells, h, hz]), e]
theorem OwnSl.room {E sz k : Nat} {v : Value} {xs : List Value} {Lv : List (Nat × Obj)} (h : OwnSl E sz v k xs Lv) (hsz : 0 < sz) : Room v := by
  obtain ⟨hl, ⟨rfl, rfl, rfl⟩ | ⟨b, cap, more, rfl, rfl, hc⟩⟩ := h
  · exact Nat.le_refl 0
  · show k ≤ cap
    rw [List.length_append, hl] at hc
    exact Nat.le_of_mul_le_mul_right (by omega : k * sz ≤ cap * sz) hsz
theorem Sl.form {w : World} {sz n : Nat} {v : Value} {cs : List Value} (h : Sl w sz v n cs) : ∃ a c, v = .slice a n c := by
  obtain ⟨_, ⟨_, c, rfl, h0⟩ | ⟨b, off, c, rfl, _⟩⟩ := h
  · exact ⟨_, _, by rw [h0]⟩
  · exact ⟨_, _, rfl⟩
def rnd (a : Int) (n : Nat) : Nat := (a % (n : Int)).toNat
theorem Sl.cut {w : World} {sz b off n lo hi m : Nat} {cs : List Value} (hat : At w b off cs) (hl : cs.length = n * sz) (h1 : lo ≤ hi) (h2 : hi ≤ n) (h3 : hi ≤ m) : Sl w sz (cutSl sz b off lo hi m) (hi - lo) ((cs.take (hi * sz)).drop (lo * sz)) := by
  have hle : hi * sz ≤ n * sz := Nat.mul_le_mul_right _ h2
  have hll : lo * sz ≤ hi * sz := Nat.mul_le_mul_right _ h1
  unfold cutSl
  refine .mk ?_ ?_
  · rw [List.length_drop, List.length_take, hl, Nat.min_eq_left hle, Nat.sub_mul]
  · split
    · have : hi = lo := by omega
      subst this
      rw [List.drop_take]
      simp
      exact At.nil
    · exact (hat.take (hi * sz)).drop (lo * sz)
theorem bytesLess_trans : ∀ {a b c : List UInt8}, Op.bytesLess a b = true → Op.bytesLess b c = true → Op.bytesLess a c = true
  | [], b :: y, c :: z, _, _ => rfl
  | a :: x, b :: y, c :: z, h1, h2 => by
    simp only [Op.bytesLess, Bool.or_eq_true, decide_eq_true_eq, Bool.and_eq_true, beq_iff_eq] at h1 h2 ⊢
    rcases h1 with h1 | ⟨rfl, h1⟩
    · rcases h2 with h2 | ⟨rfl, h2⟩
      · exact .inl (UInt8.lt_trans h1 h2)
      · exact .inl h1
    · rcases h2 with h2 | ⟨rfl, h2⟩
      · exact .inl h2
      · exact .inr ⟨rfl, bytesLess_trans h1 h2⟩
  | [], [], _, h, _ => by cases h
  | [], _ :: _, [], _, h => by cases h
  | _ :: _, [], _, h, _ => by cases h
  | _ :: _, _ :: _, [], _, h => by cases h
theorem splice_mid {A M R vs : List Value} {off : Nat} (ho : off = A.length) (h : vs.length = M.length) : splice (A ++ M ++ R) off vs = A ++ vs ++ R := by
  subst ho
  simp [splice, List.append_assoc, h]
theorem OwnSl.some1 {E sz k : Nat} {v : Value} {xs : List Value} {Lv : List (Nat × Obj)} (h : OwnSl E sz v k xs Lv) (hk : 0 < k) : ∃ b cap more, v = .slice (some ⟨b, 0, none⟩) k cap ∧ Lv = [(b, blk E (xs ++ more))] ∧ (xs ++ more).length = cap * sz := by
  obtain ⟨hl, ⟨h1, h0, _⟩ | h⟩ := h
  · omega
  · exact h
theorem bytesLess_tri {a b : List UInt8} (h : Op.bytesLess a b = false) (hne : a ≠ b) : Op.bytesLess b a = true := by
  rw [← bytesLess_gt a b, h]
  simpa using hne
def strs (l : List (List UInt8)) : List Value := l.map str
theorem strs_len (l : List (List UInt8)) : (strs l).length = l.length := by simp [strs]
theorem filled_s (v z : Value) (h : v.cells = #[v]) : Filled 1 1 [z] [(0, v)] [v] := by
  simp [Filled, Instr.fill, h]
theorem OwnSl.of_blk {E sz b cap k : Nat} {big : List Value} (h : big.length = cap * sz) (hk : k ≤ cap) : OwnSl E sz (.slice (some ⟨b, 0, none⟩) k cap) k (big.take (k * sz)) [(b, blk E big)] := by
  have hle : k * sz ≤ cap * sz := Nat.mul_le_mul_right _ hk
  exact ⟨by rw [List.length_take, h]; omega, .inr ⟨b, cap, big.drop (k * sz), rfl, by rw [List.take_append_drop], by rw [List.take_append_drop]; exact h⟩⟩
end Go.Gx.Gy
