/- Files in memory: VfsKeeps in plain words. -/
import Derived.Test.YtepaojbhjgefiaaDoorVkA
namespace Go.Gx
open Go.Proofs
set_option linter.unusedVariables false
set_option linter.unusedSimpArgs false
set_option maxRecDepth 100000
def bit1 (z : Int) : Nat := (BitVec.ofInt 64 z).toNat % 2
section
variable {P : Program} {f : Slots} {w : World} {d : Option Tmp} {ty : TypeId} {pos : String} {af : Array Edge} {x y : Operand} {T T' : TypeId}
theorem run_and1 {z : Int} (hx : ev f x = .int .i64 z) (hy : ev f y = .int .i64 1) : (execOp (ev f) ⟨d, .binOp .and T x y T', ty, pos, af, none⟩).run P w = .ok (.value (.int .i64 ((bit1 z : Nat) : Int))) w := by
  have e : bits .and .i64 z 1 = ((bit1 z : Nat) : Int) := by
    have h1 : (BitVec.ofInt 64 z &&& BitVec.ofInt 64 1).toNat = bit1 z := by
      rw [BitVec.toNat_and]
      show (BitVec.ofInt 64 z).toNat &&& 1 = _
      rw [Nat.and_one_is_mod]
      rfl
    show IntKind.i64.wrap (((BitVec.ofInt 64 z &&& BitVec.ofInt 64 1).toNat : Nat) : Int) = _
    rw [h1]
    have : bit1 z < 2 := Nat.mod_lt _ (by decide)
    exact wrap_i64 (by omega)
  simp [execOp, hx, hy, go_sem, e]
end
abbrev HP := List (Nat × Nat)
def hA (hp : HP) : List HT := hp.map fun e => some (0, e.1, e.2)
def pC (hp : HP) : List Value := hp.map fun e => .int .i64 ((e.1 : Nat) : Int)
def kC (hp : HP) : List Value := hp.map fun e => .int .i64 ((e.2 : Nat) : Int)
def nC (n : Nat) : List Value := (List.range n).map fun i => .int .i64 ((i : Nat) : Int)
structure POk (hp : HP) (b : Nat) : Prop where
  len : hp.length ≤ 20
  at_ : ∀ e ∈ hp, e.1 ≤ b ∧ (e.2 = 1 ∨ e.2 = 3)
section
variable {hp : HP} {b n : Nat} {T : List HT} {x y : List UInt8}
theorem hA_som : Som (hA hp) := fun a ha => by
  have hobt := List.mem_map.1 ha
  obtain ⟨e, _, rfl⟩ := hobt
  rfl
theorem hA_len : (hA hp).length = hp.length := by simp [hA]
theorem POk.kok (p : POk hp b) (hb : b ≤ 90000) (hT : Tail1 T) (hx : x.length ≤ 90000) : KOk x (hA hp ++ T) := by
  have h1 := p.len
  refine ⟨by omega, ?_, fun i pl mo hm => ?_⟩
  · rw [List.length_append, hA_len]
    rcases hT with rfl | rfl
    · show hp.length + 0 ≤ 40
      omega
    · show hp.length + 1 ≤ 40
      omega
  · rcases List.mem_append.1 hm with h | h
    · have hobt := List.mem_map.1 h
      obtain ⟨e, he, h2⟩ := hobt
      have h3 := p.at_ e he
      simp only [Option.some.injEq, Prod.mk.injEq] at h2
      obtain ⟨e1, e2, e3⟩ := h2
      exact ⟨e1.symm, by omega, by omega⟩
    · rcases hT with rfl | rfl
      · cases h
      · cases List.mem_singleton.1 h
theorem POk.mono (p : POk hp b) {c : Nat} (h : b ≤ c) : POk hp c := ⟨p.len, fun e he => ⟨Nat.le_trans (p.at_ e he).1 h, (p.at_ e he).2⟩⟩
theorem POk.add (p : POk hp b) {m : Nat} (hl : hp.length < 20) (hm : m = 1 ∨ m = 3) : POk (hp ++ [(0, m)]) b := by
  refine ⟨by simp; omega, fun e he => ?_⟩
  rcases List.mem_append.1 he with h | h
  · exact p.at_ e h
  · rw [List.mem_singleton.1 h]
    exact ⟨Nat.zero_le _, hm⟩
theorem POk.set (p : POk hp b) {i q m : Nat} (hq : q ≤ b) (hm : m = 1 ∨ m = 3) : POk (hp.set i (q, m)) b := by
  refine ⟨by rw [List.length_set]; exact p.len, fun e he => ?_⟩
  rcases List.mem_or_eq_of_mem_set he with h | h
  · exact p.at_ e h
  · rw [h]
    exact ⟨hq, hm⟩
theorem hA_add {m : Nat} : hA (hp ++ [(0, m)]) = hA hp ++ [some (0, 0, m)] := by simp [hA]
theorem pC_add {m : Nat} : pC (hp ++ [(0, m)]) = pC hp ++ [.int .i64 0] := by simp [pC]
theorem kC_add {m : Nat} : kC (hp ++ [(0, m)]) = kC hp ++ [.int .i64 (m : Nat)] := by simp [kC]
theorem nC_add : nC (n + 1) = nC n ++ [.int .i64 (n : Nat)] := by simp [nC, List.range_succ]
theorem hA_get {i q m : Nat} (h : hp[i]? = some (q, m)) : (hA hp ++ T)[i]? = some (some (0, q, m)) := by
  have hlt := (List.getElem?_eq_some_iff.1 h).1
  rw [List.getElem?_append_left (by rw [hA_len]; exact hlt), hA, List.getElem?_map, h]
  rfl
theorem hA_set {i q m : Nat} (h : i < hp.length) : (hA hp ++ T).set i (some (0, q, m)) = hA (hp.set i (q, m)) ++ T := by
  rw [List.set_append_left _ _ (by rw [hA_len]; exact h), hA, hA, List.map_set]
theorem pC_get {i q m : Nat} (h : hp[i]? = some (q, m)) : (pC hp)[i]? = some (.int .i64 (q : Nat)) := by rw [pC, List.getElem?_map, h]; rfl
theorem kC_get {i q m : Nat} (h : hp[i]? = some (q, m)) : (kC hp)[i]? = some (.int .i64 (m : Nat)) := by rw [kC, List.getElem?_map, h]; rfl
theorem nC_get {i : Nat} (h : i < n) : (nC n)[i]? = some (.int .i64 (i : Nat)) := by
  rw [nC, List.getElem?_map, List.getElem?_range h]
  rfl
theorem pC_set {i q m : Nat} : pC (hp.set i (q, m)) = (pC hp).set i (.int .i64 (q : Nat)) := by rw [pC, pC, List.map_set]
theorem kC_set {i q m q' : Nat} (h : hp[i]? = some (q, m)) : kC (hp.set i (q', m)) = kC hp := by
  rw [kC, kC, List.map_set]
  apply List.ext_getElem?
  intro j
  by_cases hj : i = j
  · subst hj
    have hlt := (List.getElem?_eq_some_iff.1 h).1
    rw [List.getElem?_set_self (by simpa using hlt), List.getElem?_map, h]
    rfl
  · rw [List.getElem?_set_ne hj]
/-- What stands in want after k of the bytes. -/
def midL (y b : List UInt8) (a k : Nat) : List UInt8 := y.take a ++ b.take k ++ y.drop (a + k)
theorem midL_zero {a : Nat} : midL y x a 0 = y := by simp [midL]
theorem midL_len {a k : Nat} (h : a + k ≤ y.length) (hk : k ≤ x.length) : (midL y x a k).length = y.length := by
  unfold midL
  simp only [List.length_append, List.length_take, List.length_drop]
  omega
theorem midL_set {a k : Nat} (h : a + k < y.length) (hk : k < x.length) : (midL y x a k).set (a + k) x[k] = midL y x a (k + 1) := by
  unfold midL
  have e1 : (y.take a ++ x.take k).length = a + k := by
    simp only [List.length_append, List.length_take]
    omega
  rw [List.set_append_right _ _ (by rw [e1]; exact Nat.le_refl _), e1, Nat.sub_self, List.drop_eq_getElem_cons h, List.set_cons_zero, ← List.take_append_getElem hk, show a + k + 1 = a + (k + 1) by omega]
  simp only [List.append_assoc, List.singleton_append]
theorem midL_over {a : Nat} : midL (x ++ List.replicate (a + b - x.length) 0) y a y.length = (x ++ List.replicate (a + b - x.length) 0).take a ++ y ++ (x ++ List.replicate (a + b - x.length) 0).drop (a + y.length) := by
  unfold midL
  rw [List.take_of_length_le (Nat.le_refl y.length)]
theorem over_mid {a : Nat} : overL x a y = midL (x ++ List.replicate (a + y.length - x.length) 0) y a y.length := by
  rw [midL_over]
  rfl
theorem u8s_set {i : Nat} {c : UInt8} {m : List Value} (h : i < x.length) : (u8s x ++ m).set i (.int .u8 c.toNat) = u8s (x.set i c) ++ m := by
  rw [List.set_append_left _ _ (by simpa [u8s] using h), u8s, u8s, List.map_set]
end
section
variable {α : Type}
theorem perm_p1 {x : α} {a b c : List α} : (x :: (a ++ (b ++ c))).Perm (b ++ (x :: (a ++ c))) := by
  classical
  exact List.perm_iff_count.2 fun z => by
    simp only [List.count_append, List.count_cons]
    omega
theorem perm_q1 {a b c d : List α} : (a ++ (b ++ (c ++ d))).Perm (a ++ ([] ++ (c ++ (b ++ d)))) := by
  rw [List.nil_append]
  exact (List.perm_append_comm_assoc _ _ _).append_left a
theorem perm_q2 {x : α} {a b d : List α} : (a ++ (b ++ ([x] ++ d))).Perm (x :: (b ++ (a ++ d))) := by
  classical
  exact List.perm_iff_count.2 fun z => by
    simp only [List.count_append, List.count_cons, List.count_nil]
    omega
theorem perm_q3 {x y : α} {a b : List α} : (x :: y :: (a ++ b)).Perm (a ++ (x :: y :: b)) := by
  classical
  exact List.perm_iff_count.2 fun z => by
    simp only [List.count_append, List.count_cons]
    omega
theorem perm_q4 {x y : α} {a b : List α} : (x :: y :: (a ++ b)).Perm (a ++ ([x] ++ ([y] ++ b))) := by
  classical
  exact List.perm_iff_count.2 fun z => by
    simp only [List.count_append, List.count_cons, List.count_nil]
    omega
theorem perm_p2 {x : α} {a b c : List α} : (b ++ (x :: (a ++ c))).Perm (x :: (a ++ (b ++ c))) := perm_p1.symm
theorem perm_p3 {x : α} {a b c d : List α} : (x :: (a ++ (b ++ (c ++ d)))).Perm (c ++ (x :: (a ++ (b ++ d)))) := by
  classical
  exact List.perm_iff_count.2 fun z => by
    simp only [List.count_append, List.count_cons]
    omega
theorem perm_p4 {x : α} {a b c d : List α} : (x :: (a ++ (b ++ (c ++ d)))).Perm (d ++ (x :: (a ++ (b ++ c)))) := by
  classical
  exact List.perm_iff_count.2 fun z => by
    simp only [List.count_append, List.count_cons]
    omega
theorem perm_p5 {x : α} {a b c d : List α} : (x :: (a ++ (b ++ (c ++ d)))).Perm (a ++ (b ++ (c ++ (x :: d)))) := by
  classical
  exact List.perm_iff_count.2 fun z => by
    simp only [List.count_append, List.count_cons]
    omega
end
end Go.Gx
