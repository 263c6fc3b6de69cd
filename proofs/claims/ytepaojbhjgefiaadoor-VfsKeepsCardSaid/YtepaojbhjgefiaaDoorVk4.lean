/- Files in memory: known. -/
import Derived.Test.YtepaojbhjgefiaaDoorVk3
import Derived.DeepKeys
namespace Go.Gx
open Go.Proofs
set_option linter.unusedVariables false
set_option linter.unusedSimpArgs false
set_option maxRecDepth 100000
section
variable {α : Type} {S : List Nat} {L : List (Nat × Obj)} {p : Nat × Obj} {w0 w : World}
theorem perm_k3 {a : α} {l : List α} : (a :: l).Perm (l ++ [a]) := (List.perm_append_singleton a l).symm
theorem Step.fresh1 (hs : Step S (p :: L) w0 w) : p.1 ∉ L.map (·.1) := by
  have hn := Step.nodup hs
  rw [List.map_cons, List.nodup_cons] at hn
  exact hn.1
end
section
variable {E sz k : Nat} {v : Value} {xs : List Value} {S : List Nat} {L R Lv : List (Nat × Obj)} {w0 w : World}
theorem OwnSl.apart (h : OwnSl E sz v k xs Lv) (hs : Step S (Lv ++ (L ++ R)) w0 w) : Outside v (L.map (·.1)) := h.outside fun p hp hm => by
  have hn := Step.nodup hs
  rw [List.map_append, List.nodup_append] at hn
  have hobt := List.mem_map.1 hm
  obtain ⟨q, hq, he⟩ := hobt
  exact hn.2.2 _ (List.mem_map_of_mem hp) q.1 (List.mem_map_of_mem (List.mem_append.2 (.inl hq))) he.symm
end
theorem Ty.cellsOf {P : Program} {T : TypeId} {agg : Bool} {n b : Nat} {zs : List Value} (h : Ty P T agg n b zs) : P.cellsOf T = n := by
  have hobt := h.info
  obtain ⟨i, z, hi, hs, _⟩ := hobt
  simp [Program.cellsOf, hi, hs]
section
variable {P : Program} {f : Slots} {w : World} {d : Option Tmp} {ty : TypeId} {pos : String} {af : Array Edge} {x y : Operand} {T T' : TypeId}
theorem run_equal_agg {xs ys : List Value} {lx ly : List Lit} {D : Nat} {p : Prop} [Decidable p] (hp : lx = ly ↔ p) (hk : P.keyTypeAt 5 T = true) (hfx : Value.formed P T (.agg xs.toArray) = true) (hfy : Value.formed P T (.agg ys.toArray) = true) (hx : P.keyLits D T xs = some lx) (hy : P.keyLits D T ys = some ly) :
    (Op.equalIn 10000 T (.agg xs.toArray) (.agg ys.toArray)).run P w = .ok (decide p) w := by
  have hobt := run_equalIn_deep 9995 5 T hk w D D (.agg xs.toArray) (.agg ys.toArray) lx ly hfx hfy (by simpa [Value.cells] using hx) (by simpa [Value.cells] using hy)
  obtain ⟨r, hr, hiff⟩ := hobt
  have e : r = decide p := by
    by_cases h : p
    · simp [h, hiff.2 (hp.2 h)]
    · simp [h]
      cases r
      · rfl
      · exact absurd (hp.1 (hiff.1 rfl)) h
  rw [← e]
  exact hr
theorem run_eqlAgg {xs ys : List Value} {lx ly : List Lit} {D : Nat} {p : Prop} [Decidable p] (hp : lx = ly ↔ p) (hk : P.keyTypeAt 5 T = true) (hfx : Value.formed P T (.agg xs.toArray) = true) (hfy : Value.formed P T (.agg ys.toArray) = true) (hg : P.eqGuardType P.depth T = false) (hx : ev f x = .agg xs.toArray) (hy : ev f y = .agg ys.toArray) (hlx : P.keyLits D T xs = some lx) (hly : P.keyLits D T ys = some ly) :
    (execOp (ev f) ⟨d, .binOp .eql T x y T', ty, pos, af, none⟩).run P w = .ok (.value (.bool (decide p))) w := by
  simp [execOp, hx, hy, run_eqGuard_agg w .eql T x y _ _ hg, run_eql_struct, run_equal_agg hp hk hfx hfy hlx hly]
end
def i64s (a : Int) : Prop := -9223372036854775808 ≤ a ∧ a ≤ 9223372036854775807
instance (a : Int) : Decidable (i64s a) := inferInstanceAs (Decidable (_ ∧ _))
theorem int_lits {a : Int} (h : i64s a) : Tryd.prog.keyLits 3 3 [.int .i64 a] = some [.int .i64 a] := by
  have hw : (Lit.int .i64 a).wf = true := WalkArith.wf_i64 (by unfold i64s at h; omega)
  unfold Program.keyLits
  simp only [Tryd.underlying3, hw, and_self, if_true]
theorem quo_lits {a b c : Int} (ha : i64s a) (hb : i64s b) (hc : i64s c) : Tryd.prog.keyLits 4 30 (quoC a b c) = some [.int .i64 a, .int .i64 b, .int .i64 c] := by
  unfold Program.keyLits
  simp only [Tryd.underlying30, ty30.cellsOf, quoC]
  rw [if_pos ⟨rfl, by kernel_rfl⟩]
  simp only [List.mapM_cons, List.mapM_nil, ty3.cellsOf]
  simp [int_lits ha, int_lits hb, int_lits hc]
theorem quo_key : Tryd.prog.keyTypeAt 5 30 = true := by kernel_rfl
theorem quo_guard : Tryd.prog.eqGuardType Tryd.prog.depth 30 = false := by kernel_rfl
theorem quo_formed {a b c : Int} : Value.formed Tryd.prog 30 (.agg (quoC a b c).toArray) = true := by
  simp only [Value.formed, Tryd.underlying30, ty30.cellsOf]
  simp [quoC]
section
variable {f : Slots} {w : World} {d : Option Tmp} {ty : TypeId} {pos : String} {af : Array Edge} {x y : Operand} {T' : TypeId} {a b c a' b' c' : Int}
theorem run_eqQuo (ha : i64s a) (hb : i64s b) (hc : i64s c) (ha' : i64s a') (hb' : i64s b') (hc' : i64s c') (hx : ev f x = .agg (quoC a b c).toArray) (hy : ev f y = .agg (quoC a' b' c').toArray) :
    (execOp (ev f) ⟨d, .binOp .eql 30 x y T', ty, pos, af, none⟩).run Tryd.prog w = .ok (.value (.bool (decide (a = a' ∧ b = b' ∧ c = c')))) w :=
  run_eqlAgg (by simp) quo_key quo_formed quo_formed quo_guard hx hy (quo_lits ha hb hc) (quo_lits ha' hb' hc')
end
def w0V : VS := newV 9 2 2
def w1V : VS := ⟨[([97, 47, 98], [])], [([], 1), ([97], 1)], [some (0, 0, 1)], 9, 2, 2, 0, 1⟩
def w2V : VS := ⟨[([97, 47, 98], [7, 8])], [([], 1), ([97], 1)], [some (0, 2, 1)], 9, 2, 2, 2, 1⟩
def w3V : VS := ⟨[([97, 47, 98], [7, 8])], [([], 1), ([97], 1)], [some (0, 2, 1), some (0, 0, 0)], 9, 2, 2, 2, 2⟩
def w4V : VS := ⟨[([97, 47, 98], [7, 8])], [([], 1), ([97], 1)], [some (0, 2, 1), some (0, 2, 0)], 9, 2, 2, 2, 2⟩
theorem w01 : w0V.open [97, 47, 46, 47, 98] 5 = (0, 0, w1V) := by
  have h1 : cleanE [97, 47, 46, 47, 98] = 0 ∧ cleanS [97, 47, 46, 47, 98] = [97, 47, 98] := by decide
  unfold VS.open
  rw [if_neg (by omega), h1.1, h1.2]
  rfl
theorem w12 : w1V.write 0 [7, 8] = (0, w2V) := rfl
theorem w23 : w2V.open [97, 47, 98] 0 = (1, 0, w3V) := by
  have h1 : cleanE [97, 47, 98] = 0 ∧ cleanS [97, 47, 98] = [97, 47, 98] := by decide
  unfold VS.open
  rw [if_neg (by omega), h1.1, h1.2]
  rfl
theorem w34 : w3V.read 1 9 = ([7, 8], 0, w4V) := rfl
theorem w0s : w0V.Sane := by
  refine ⟨⟨by decide, by decide, by decide, by decide, fun i pl mo h => (by cases h), by decide, by decide, by decide, by decide, by decide⟩, by decide, by decide, by decide, by decide, by decide, by decide, by decide⟩
theorem w1k : w1V.Ok := by
  refine ⟨by decide, by decide, by decide, by decide, fun i pl mo h => ?_, by decide, by decide, by decide, by decide, by decide⟩
  have h1 := List.mem_singleton.1 h
  cases h1
  decide
theorem w2s : w2V.Sane := by
  refine ⟨⟨by decide, by decide, by decide, by decide, fun i pl mo h => ?_, by decide, by decide, by decide, by decide, by decide⟩, by decide, by decide, by decide, by decide, by decide, by decide, by decide⟩
  have h1 := List.mem_singleton.1 h
  cases h1
  decide
theorem w3k : w3V.Ok := by
  refine ⟨by decide, by decide, by decide, by decide, fun i pl mo h => ?_, by decide, by decide, by decide, by decide, by decide⟩
  rcases List.mem_cons.1 h with h1 | h1
  · cases h1
    decide
  · cases List.mem_singleton.1 h1
    decide
theorem w4k : w4V.Ok := by
  refine ⟨by decide, by decide, by decide, by decide, fun i pl mo h => ?_, by decide, by decide, by decide, by decide, by decide⟩
  rcases List.mem_cons.1 h with h1 | h1
  · cases h1
    decide
  · cases List.mem_singleton.1 h1
    decide
theorem w4items : w4V.items = 2 := rfl
end Go.Gx
