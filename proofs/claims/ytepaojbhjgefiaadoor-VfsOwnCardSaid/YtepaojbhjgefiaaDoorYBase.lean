/- Words and laws of no program, for any seat: what a call leaves, slices, bytes, order of texts. -/
import Derived.Test.YtepaojbhjgefiaaDoorYNSpec
namespace Go.Gx.Gy
set_option linter.unusedVariables false
set_option linter.unusedSimpArgs false

theorem bytesLess_nil (s : List UInt8) : Op.bytesLess [] s = true ↔ s ≠ [] := by cases s <;> simp [Op.bytesLess]
theorem Step.own {S : List Nat} {L1 L : List (Nat × Obj)} {w0 w : World} (h : Step S (L1 ++ L) w0 w) : Step (L1.map (·.1)) L1 w w :=
  Step.start h.dropR.nodup h.dropR.has
theorem Step.own0 {S : List Nat} {L1 : List (Nat × Obj)} {w0 w : World} (h : Step S L1 w0 w) : Step (L1.map (·.1)) L1 w w := Step.start h.nodup h.has
theorem Step.rot1 {S : List Nat} {p : Nat × Obj} {L : List (Nat × Obj)} {w0 w : World} (h : Step S (p :: L) w0 w) : Step S (L ++ [p]) w0 w := Step.append_comm (L1 := [p]) h
theorem OwnSl.one {E sz k : Nat} {v : Value} {xs : List Value} {Lv : List (Nat × Obj)} (h : OwnSl E sz v k xs Lv) : v.oneCell' = true := by
  have hobt := h.form
  obtain ⟨a, c, rfl⟩ := hobt
  rfl
theorem u8s_append (a b : List UInt8) : u8s (a ++ b) = u8s a ++ u8s b := by simp [u8s]
theorem u8s_len (a : List UInt8) : (u8s a).length = a.length := by simp [u8s]
theorem Sl.of_own {S : List Nat} {L : List (Nat × Obj)} {w0 w : World} {b T n c : Nat} {cs more : List Value} (hs : Step S L w0 w) (hm : (b, blk T (cs ++ more)) ∈ L) {sz : Nat} (hl : cs.length = n * sz) : Sl w sz (.slice (some ⟨b, 0, none⟩) n c) n cs :=
  .mk hl (At.of_blk (hs.get hm)).left
theorem Sl.own1 {S : List Nat} {L : List (Nat × Obj)} {w0 w : World} {b T n c : Nat} {cs : List Value} (hs : Step S ((b, blk T cs) :: L) w0 w) {sz : Nat} (hl : cs.length = n * sz) : Sl w sz (.slice (some ⟨b, 0, none⟩) n c) n cs :=
  .mk hl (At.of_blk hs.hd)
theorem Step.disj {S : List Nat} {L1 L2 : List (Nat × Obj)} {w0 w : World} (h : Step S (L1 ++ L2) w0 w) : ∀ p ∈ L1, p.1 ∉ L2.map (·.1) := by
  intro p hp hm
  have hn := h.nodup
  rw [List.map_append, List.nodup_append] at hn
  exact hn.2.2 p.1 (List.mem_map_of_mem hp) p.1 hm rfl
theorem OwnSl.outside {E sz k : Nat} {v : Value} {xs : List Value} {Lv : List (Nat × Obj)} {S : List Nat} (h : OwnSl E sz v k xs Lv) (hd : ∀ p ∈ Lv, p.1 ∉ S) : Outside v S := by
  obtain ⟨hl, ⟨rfl, rfl, rfl⟩ | ⟨b, cap, more, rfl, rfl, hc⟩⟩ := h
  · trivial
  · exact hd _ (List.mem_singleton.2 rfl)
/-- What was there before is outside what is new, and outside what is ours but not S's. -/
theorem Outside.fresh {S S' : List Nat} {L : List (Nat × Obj)} {w0 w : World} {sz n : Nat} {v : Value} {cs : List Value} (hv : Sl w0 sz v n cs) (hne : cs ≠ []) (hs : Step S L w0 w) (hS : Outside v S) (hsub : ∀ k ∈ S', k ∈ L.map (·.1)) : Outside v S' := by
  obtain ⟨hl, ⟨a, c, rfl, rfl⟩ | ⟨b, off, c, rfl, hat⟩⟩ := hv
  · exact absurd (List.eq_nil_of_length_eq_zero (by simpa using hl)) hne
  · intro hk
    have hobt := List.mem_map.1 (hsub _ hk)
    obtain ⟨p, hp, hpb⟩ := hobt
    have hlt := hat.lt hne
    rcases hs.new p hp with h1 | h1
    · exact hS (hpb ▸ h1)
    · have : p.1 = b := hpb
      omega
section
variable {P : Program} {f : Slots} {w : World} {d : Option Tmp} {ty : TypeId} {pos : String} {af : Array Edge} {x y : Operand} {T T' : TypeId} {k k' : IntKind}
theorem run_shrN {u j : Nat} (hx : ev f x = .int k u) (hy : ev f y = .int k' (8 * j : Nat)) (hj : 8 * j < k.bits) :
    (execOp (ev f) ⟨d, .binOp .shr T x y T', ty, pos, af, none⟩).run P w = .ok (.value (.int k (u / 256 ^ j : Nat))) w := by
  rw [run_shr hx hy (by omega)]
  have h1 : min ((8 * j : Nat) : Int).toNat k.bits = 8 * j := by rw [Int.toNat_natCast]; omega
  rw [h1, Int.fdiv_eq_ediv_of_nonneg _ (by exact Int.le_of_lt (Int.pow_pos (by decide)))]
  have e : (2 : Int) ^ (8 * j) = ((256 ^ j : Nat) : Int) := by
    rw [show (256 : Nat) = 2 ^ 8 from rfl, ← Nat.pow_mul]
    exact (Int.natCast_pow 2 (8 * j)).symm
  rw [e, Int.natCast_ediv]
theorem run_convU8 {u : Nat} {ds : TypeDesc} (hs : P.underlying T = some ds) (ht : P.underlying T' = some (.int .u8)) (hx : ev f x = .int k u) :
    (execOp (ev f) ⟨d, .convert T T' x, ty, pos, af, none⟩).run P w = .ok (.value (.int .u8 (UInt8.ofNat u).toNat)) w := by
  rw [run_convInt hs ht hx]
  congr 3
theorem run_convU64 {u : Nat} {ds : TypeDesc} (hs : P.underlying T = some ds) (ht : P.underlying T' = some (.int .u64)) (hx : ev f x = .int k u) (hu : u < 18446744073709551616) :
    (execOp (ev f) ⟨d, .convert T T' x, ty, pos, af, none⟩).run P w = .ok (.value (.int .u64 u)) w := by
  rw [run_convInt hs ht hx]
  have : IntKind.u64.wrap (u : Int) = u := by
    have e : (2 : Int) ^ IntKind.u64.bits = 18446744073709551616 := by decide
    simp only [IntKind.wrap, IntKind.signed, Bool.false_and, Bool.false_eq_true, if_false, e]
    omega
  rw [this]
theorem run_convI64 {a : Int} {ds : TypeDesc} (hs : P.underlying T = some ds) (ht : P.underlying T' = some (.int .i64)) (hx : ev f x = .int k a) (hu : -9223372036854775808 ≤ a ∧ a ≤ 9223372036854775807) :
    (execOp (ev f) ⟨d, .convert T T' x, ty, pos, af, none⟩).run P w = .ok (.value (.int .i64 a)) w := by
  rw [run_convInt hs ht hx, wrap_i64 hu]
end
theorem Step.cast {S : List Nat} {b : Nat} {T : TypeId} {cs cs' : List Value} {L : List (Nat × Obj)} {w0 w : World} (h : Step S ((b, blk T cs) :: L) w0 w) (e : cs = cs') : Step S ((b, blk T cs') :: L) w0 w := e ▸ h
theorem fold_splice (off : Nat) : ∀ (vs : List Value) (k : Nat) (cs : List Value), off + k + vs.length ≤ cs.length → (vs.zipIdx k).foldl (fun (a : Array Value) (x : Value × Nat) => a.setIfInBounds (off + x.2) x.1) cs.toArray = (splice cs (off + k) vs).toArray
  | [], k, cs, _ => by rw [splice_nil]; rfl
  | v :: vs, k, cs, h => by
    simp only [List.length_cons] at h
    rw [List.zipIdx_cons, List.foldl_cons, List.setIfInBounds_toArray, fold_splice off vs (k + 1) _ (by rw [List.length_set]; omega), ← Nat.add_assoc, splice_cons v vs (by omega)]
theorem filled1 {sz : Nat} {zs cs : List Value} (h : cs.length = sz) (hz : zs.length = sz) : Filled sz 1 zs [(0, .agg cs.toArray)] cs := by
  have e : ((Value.agg cs.toArray).cells.zipIdx.foldl (fun (a : Array Value) (x : Value × Nat) => a.setIfInBounds (0 * sz + x.2) x.1) (List.replicate 1 zs).flatten.toArray) = cs.toArray := by
    have h1 := fold_splice 0 cs 0 zs (by omega)
    have h2 : splice zs 0 cs = cs := by simp [splice, List.drop_of_length_le (show zs.length ≤ cs.length by omega)]
    simp only [Value.cells, Nat.zero_mul, List.replicate_one, List.flatten_cons, List.flatten_nil, List.append_nil, ← Array.foldl_toList, Array.toList_zipIdx]
    rw [h1, h2]
  unfold Filled
  simp only [Instr.fill]
  rw [if_neg (by simp [Value.cells, h, hz]), e]
theorem OwnSl.room {E sz k : Nat} {v : Value} {xs : List Value} {Lv : List (Nat × Obj)} (h : OwnSl E sz v k xs Lv) (hsz : 0 < sz) : Room v := by
  obtain ⟨hl, ⟨rfl, rfl, rfl⟩ | ⟨b, cap, more, rfl, rfl, hc⟩⟩ := h
  · exact Nat.le_refl 0
  · show k ≤ cap
    rw [List.length_append, hl] at hc
    exact Nat.le_of_mul_le_mul_right (by omega : k * sz ≤ cap * sz) hsz
theorem Sl.stepK {S : List Nat} {L : List (Nat × Obj)} {w w' : World} {sz n : Nat} {v : Value} {cs : List Value} (h : Sl w sz v n cs) (hs : Step S L w w') (hS : cs = [] ∨ Outside v S) : Sl w' sz v n cs := by
  rcases hS with rfl | hS
  · obtain ⟨hl, h | ⟨b, off, c, hv, _⟩⟩ := h
    · exact ⟨hl, .inl h⟩
    · exact ⟨hl, .inr ⟨b, off, c, hv, At.nil⟩⟩
  · exact h.step hs hS
/-- What a new block is beside what was there. -/
theorem Outside.newer {S : List Nat} {L : List (Nat × Obj)} {w0 w : World} {sz n : Nat} {v : Value} {cs : List Value} (h : Sl w0 sz v n cs) (hs : Step [] L w0 w) (hsub : ∀ k ∈ S, k ∈ L.map (·.1)) : cs = [] ∨ Outside v S := by
  by_cases hc : cs = []
  · exact .inl hc
  · exact .inr (Outside.fresh h hc hs (outside_nil v) hsub)
theorem Step.two {S : List Nat} {p a b : Nat × Obj} {X Y : List (Nat × Obj)} {w0 w : World} (h : Step S (p :: (X ++ (a :: b :: Y))) w0 w) : Step S (p :: a :: b :: (X ++ Y)) w0 w :=
  h.perm (List.Perm.cons _ (List.perm_middle.trans (List.Perm.cons _ List.perm_middle)))
theorem run_sliceSlE {P : Program} {f : Slots} {w : World} {d : Option Tmp} {ty : TypeId} {pos : String} {af : Array Edge} {x : Operand} {T E : TypeId} {len cap : Nat} {agg : Bool} {n bytes : Nat} {zs : List Value} {bk off lo hi m : Nat} {xl xh xm : Option Operand} {v : Value} (ht : P.underlying T = some (.slice E)) (hE : Ty P E agg n bytes zs) (hx : ev f x = .slice (some ⟨bk, off, none⟩) len cap)
    (hl : LoOk (xl.map (ev f)) lo) (hh : HiOk (xh.map (ev f)) hi len) (hm : HiOk (xm.map (ev f)) m cap) (hs : xm.isSome = true → xh.isSome = true)
    (h1 : lo ≤ hi) (h2 : hi ≤ m) (h3 : m ≤ cap) (hv : cutSl n bk off lo hi m = v) :
    (execOp (ev f) ⟨d, .slice T x xl xh xm, ty, pos, af, none⟩).run P w = .ok (.value v) w := by
  rw [← hv]
  exact run_sliceSl ht hE hx hl hh hm hs h1 h2 h3
theorem getD_of {bs : List UInt8} {p : Nat} (h : p < bs.length) : bs.getD p 0 = bs[p] := by simp [h]
theorem cell_u8 {w : World} {a : Option Addr} {n c i : Nat} {s : List UInt8} (h : Sl w 1 (.slice a n c) n (u8s s)) (hi : i < s.length) : ∃ bk off, a = some ⟨bk, off, none⟩ ∧ w.cell? ⟨bk, off + i * 1, none⟩ = some (.int .u8 (s[i]).toNat) := by
  obtain ⟨hl, ⟨_, c1, h1, h0⟩ | ⟨bk, off, c1, h1, hat⟩⟩ := h
  · rw [u8s_len, h0] at hl
    omega
  · cases h1
    exact ⟨bk, off, rfl, by rw [Nat.mul_one]; exact hat.cell (by simp [u8s, hi])⟩
theorem Sl.form {w : World} {sz n : Nat} {v : Value} {cs : List Value} (h : Sl w sz v n cs) : ∃ a c, v = .slice a n c := by
  obtain ⟨_, ⟨_, c, rfl, h0⟩ | ⟨b, off, c, rfl, _⟩⟩ := h
  · exact ⟨_, _, by rw [h0]⟩
  · exact ⟨_, _, rfl⟩
theorem fin_cellTmp {P : Program} {n : Nat} {w : World} {fn : Func} {R : Ending → World → Prop} {f : Slots} {t u : Tmp} {T : TypeId} {A : Addr} {v : Value} (hr : fn.results = #[.cell t T, .tmp u]) (hA : f t = .pointer (some A)) (hv : (loadVar T A).run P w = .ok v w) (h : R (.returned (.tuple #[v, f u])) w) : fin P n fn R .ret f [] w :=
  fun a ha => bodyPost_ret (v := .tuple #[v, f u]) (by simp [results, hr, ha.get, hA, asAddr, hv]) ha.defers h
theorem Step.mid {S : List Nat} (L1 : List (Nat × Obj)) {L2 L3 : List (Nat × Obj)} {w w' : World} (h : Step S (L1 ++ (L2 ++ L3)) w w') : Step S (L1 ++ (L3 ++ L2)) w w' := h.perm (List.Perm.append_left L1 List.perm_append_comm)
def rnd (a : Int) (n : Nat) : Nat := (a % (n : Int)).toNat
theorem rnd_lt {a : Int} {n : Nat} (h : 0 < n) : rnd a n < n := by
  have h1 := Int.emod_nonneg a (show (n : Int) ≠ 0 by omega)
  have h2 := Int.emod_lt_of_pos a (show (0 : Int) < n by omega)
  unfold rnd
  omega
theorem tmod_neg {a : Int} {n : Nat} (h : 0 < n) (hk : a.tmod n < 0) : a.tmod n + n = (rnd a n : Nat) := by
  have h1 := Int.emod_nonneg a (show (n : Int) ≠ 0 by omega)
  have h2 := Int.emod_lt_of_pos a (show (0 : Int) < n by omega)
  have e : a.tmod n + n * a.tdiv n = a := Int.tmod_add_mul_tdiv a n
  have hlo : -(n : Int) < a.tmod n := by
    have := Int.lt_tmod_of_pos a (show (0 : Int) < n by omega)
    omega
  have e2 : a % n = a.tmod n + n := by
    conv => lhs; rw [← e]
    rw [Int.add_mul_emod_self_left, ← Int.add_emod_right, Int.emod_eq_of_lt (by omega) (by omega)]
  unfold rnd
  omega
theorem tmod_pos {a : Int} {n : Nat} (h : 0 < n) (hk : ¬ a.tmod n < 0) : a.tmod n = (rnd a n : Nat) := by
  have h1 := Int.emod_nonneg a (show (n : Int) ≠ 0 by omega)
  have e : a.tmod n + n * a.tdiv n = a := Int.tmod_add_mul_tdiv a n
  have hlt := Int.tmod_lt_of_pos a (show (0 : Int) < n by omega)
  have e2 : a % n = a.tmod n := by
    conv => lhs; rw [← e]
    rw [Int.add_mul_emod_self_left, Int.emod_eq_of_lt (by omega) (by omega)]
  unfold rnd
  omega
theorem Sl.cut {w : World} {sz b off n lo hi m : Nat} {cs : List Value} (hat : At w b off cs) (hl : cs.length = n * sz) (h1 : lo ≤ hi) (h2 : hi ≤ n) (h3 : hi ≤ m) : Sl w sz (cutSl sz b off lo hi m) (hi - lo) ((cs.take (hi * sz)).drop (lo * sz)) := by
  have hle : hi * sz ≤ n * sz := Nat.mul_le_mul_right _ h2
  have hll : lo * sz ≤ hi * sz := Nat.mul_le_mul_right _ h1
  unfold cutSl
  refine .mk ?_ ?_
  · rw [List.length_drop, List.length_take, hl, Nat.min_eq_left hle, Nat.sub_mul]
  · split
    · have : hi = lo := by omega
      subst this
      rw [List.drop_take]
      simp
      exact At.nil
    · exact (hat.take (hi * sz)).drop (lo * sz)
theorem run_shr1 {P : Program} {f : Slots} {w : World} {d : Option Tmp} {ty : TypeId} {pos : String} {af : Array Edge} {x y : Operand} {T T' : TypeId} {k k' : IntKind} {u : Nat} (hx : ev f x = .int k u) (hy : ev f y = .int k' 1) (hk : 1 ≤ k.bits) :
    (execOp (ev f) ⟨d, .binOp .shr T x y T', ty, pos, af, none⟩).run P w = .ok (.value (.int k (u / 2 : Nat))) w := by
  rw [run_shr hx hy (by decide)]
  have e : (2 : Int) ^ min (1 : Int).toNat k.bits = ((2 : Nat) : Int) := by
    have : min (1 : Int).toNat k.bits = 1 := by
      show min 1 k.bits = 1
      omega
    rw [this]
    rfl
  rw [e, Int.fdiv_eq_ediv_of_nonneg _ (by decide), ← Int.natCast_ediv]
theorem bytesLess_trans : ∀ {a b c : List UInt8}, Op.bytesLess a b = true → Op.bytesLess b c = true → Op.bytesLess a c = true
  | [], b :: y, c :: z, _, _ => rfl
  | a :: x, b :: y, c :: z, h1, h2 => by
    simp only [Op.bytesLess, Bool.or_eq_true, decide_eq_true_eq, Bool.and_eq_true, beq_iff_eq] at h1 h2 ⊢
    rcases h1 with h1 | ⟨rfl, h1⟩
    · rcases h2 with h2 | ⟨rfl, h2⟩
      · exact .inl (UInt8.lt_trans h1 h2)
      · exact .inl h1
    · rcases h2 with h2 | ⟨rfl, h2⟩
      · exact .inl h2
      · exact .inr ⟨rfl, bytesLess_trans h1 h2⟩
  | [], [], _, h, _ => by cases h
  | [], _ :: _, [], _, h => by cases h
  | _ :: _, [], _, h, _ => by cases h
  | _ :: _, _ :: _, [], _, h => by cases h
theorem splice_mid {A M R vs : List Value} {off : Nat} (ho : off = A.length) (h : vs.length = M.length) : splice (A ++ M ++ R) off vs = A ++ vs ++ R := by
  subst ho
  simp [splice, List.append_assoc, h]
theorem Step.blkEq {S : List Nat} {b : Nat} {T : TypeId} {cs cs' : List Value} {L : List (Nat × Obj)} {w0 w : World} (e : cs = cs') (h : Step S ((b, blk T cs) :: L) w0 w) : Step S ((b, blk T cs') :: L) w0 w := e ▸ h
theorem OwnSl.some1 {E sz k : Nat} {v : Value} {xs : List Value} {Lv : List (Nat × Obj)} (h : OwnSl E sz v k xs Lv) (hk : 0 < k) : ∃ b cap more, v = .slice (some ⟨b, 0, none⟩) k cap ∧ Lv = [(b, blk E (xs ++ more))] ∧ (xs ++ more).length = cap * sz := by
  obtain ⟨hl, ⟨h1, h0, _⟩ | h⟩ := h
  · omega
  · exact h
theorem bytesLess_tri {a b : List UInt8} (h : Op.bytesLess a b = false) (hne : a ≠ b) : Op.bytesLess b a = true := by
  rw [← bytesLess_gt a b, h]
  simpa using hne
def strs (l : List (List UInt8)) : List Value := l.map str
theorem strs_len (l : List (List UInt8)) : (strs l).length = l.length := by simp [strs]
theorem strs_c1 (l : List (List UInt8)) : Cells1 (strs l) := fun v hv => by
  have hobt := List.mem_map.1 hv
  obtain ⟨s, _, rfl⟩ := hobt
  rfl
theorem str_at {w : World} {a : Option Addr} {n c i : Nat} {l : List (List UInt8)} (h : Sl w 1 (.slice a n c) n (strs l)) (hi : i < l.length) : ∃ bk off, a = some ⟨bk, off, none⟩ ∧ w.cell? ⟨bk, off + i * 1, none⟩ = some (str l[i]) := by
  obtain ⟨hl, ⟨_, c1, h1, h0⟩ | ⟨bk, off, c1, h1, hat⟩⟩ := h
  · rw [strs_len, h0] at hl
    omega
  · cases h1
    exact ⟨bk, off, rfl, by rw [Nat.mul_one]; exact hat.cell (by simp [strs, hi])⟩
theorem str_in {w0 : World} {a : Option Addr} {n c i : Nat} {l : List (List UInt8)} (h : Sl w0 1 (.slice a n c) n (strs l)) (hi : i < l.length) : ∃ bk off, a = some ⟨bk, off, none⟩ ∧ ∀ (w : World) (L : List (Nat × Obj)), Step [] L w0 w → w.cell? ⟨bk, off + i * 1, none⟩ = some (str l[i]) := by
  obtain ⟨hl, ⟨_, c1, h1, h0⟩ | ⟨bk, off, c1, h1, hat⟩⟩ := h
  · rw [strs_len, h0] at hl
    omega
  · cases h1
    exact ⟨bk, off, rfl, fun w L hs => by rw [Nat.mul_one]; exact (hat.step hs (by simp)).cell (by simp [strs, hi])⟩
theorem OwnSl.sl0 {E sz k : Nat} {v : Value} {xs : List Value} {Lv : List (Nat × Obj)} {S : List Nat} {w0 w : World} (h : OwnSl E sz v k xs Lv) (hs : Step S Lv w0 w) : Sl w sz v k xs := h.sl (L := []) (by rw [List.append_nil]; exact hs)
theorem Step.last3 {S : List Nat} {p : Nat × Obj} {A B C : List (Nat × Obj)} {w w' : World} (h : Step S (p :: (A ++ (B ++ C))) w w') : Step S (C ++ (p :: (A ++ B))) w w' :=
  h.perm (by rw [← List.append_assoc]; exact List.perm_append_comm (l₁ := p :: (A ++ B)))
theorem Step.pick2 {S : List Nat} {p : Nat × Obj} {A B C : List (Nat × Obj)} {w w' : World} (h : Step S (C ++ (p :: (A ++ B))) w w') : Step S (A ++ C) w w' := by
  have h1 := h.perm (List.perm_append_comm (l₂ := p :: (A ++ B)))
  have h2 := h1.tail
  have h3 : Step S (A ++ (B ++ C)) w w' := by rw [← List.append_assoc]; exact h2
  exact Step.dropR (Step.mid A h3 |> fun h => by rw [← List.append_assoc] at h; exact h)
theorem filled_s (v z : Value) (h : v.cells = #[v]) : Filled 1 1 [z] [(0, v)] [v] := by
  simp [Filled, Instr.fill, h]
theorem fill_agg {sz i : Nat} {acc cs : List Value} {ps : List (Nat × Value)} (h : cs.length = sz) (hb : i * sz + sz ≤ acc.length) : Instr.fill (fun i => some (i * sz, sz)) acc.toArray ((i, .agg cs.toArray) :: ps) = Instr.fill (fun i => some (i * sz, sz)) (splice acc (i * sz) cs).toArray ps := by
  have e : ((Value.agg cs.toArray).cells.zipIdx.foldl (fun (a : Array Value) (x : Value × Nat) => a.setIfInBounds (i * sz + x.2) x.1) acc.toArray) = (splice acc (i * sz) cs).toArray := by
    have h1 := fold_splice (i * sz) cs 0 acc (by omega)
    simp only [Value.cells, ← Array.foldl_toList, Array.toList_zipIdx]
    rw [h1]
    rfl
  simp only [Instr.fill]
  rw [if_neg (by simp [Value.cells, h]; exact hb), e]
theorem filledP2 {sz : Nat} {zs c1 c2 : List Value} (h1 : c1.length = sz) (h2 : c2.length = sz) (hz : zs.length = sz) : Filled sz 2 zs [(0, .agg c1.toArray), (1, .agg c2.toArray)] (c1 ++ c2) := by
  have hl : (List.replicate 2 zs).flatten.length = 2 * sz := by simp [hz]; omega
  unfold Filled
  rw [fill_agg h1 (by rw [hl]; omega), fill_agg h2 (by rw [length_splice (by rw [hl]; omega), hl]; omega)]
  have e : splice (splice (List.replicate 2 zs).flatten (0 * sz) c1) (1 * sz) c2 = c1 ++ c2 := by
    have e0 : (List.replicate 2 zs).flatten = [] ++ zs ++ zs := by simp [List.replicate]
    rw [e0, splice_mid (A := []) (by simp) (by rw [h1, hz])]
    have := splice_mid (A := c1) (M := zs) (R := []) (vs := c2) (off := 1 * sz) (by omega) (by rw [h2, hz])
    rw [List.append_nil, List.append_nil] at this
    rw [List.nil_append, this]
  rw [e]
  rfl
theorem OwnSl.of_blk {E sz b cap k : Nat} {big : List Value} (h : big.length = cap * sz) (hk : k ≤ cap) : OwnSl E sz (.slice (some ⟨b, 0, none⟩) k cap) k (big.take (k * sz)) [(b, blk E big)] := by
  have hle : k * sz ≤ cap * sz := Nat.mul_le_mul_right _ hk
  exact ⟨by rw [List.length_take, h]; omega, .inr ⟨b, cap, big.drop (k * sz), rfl, by rw [List.take_append_drop], by rw [List.take_append_drop]; exact h⟩⟩
end Go.Gx.Gy
