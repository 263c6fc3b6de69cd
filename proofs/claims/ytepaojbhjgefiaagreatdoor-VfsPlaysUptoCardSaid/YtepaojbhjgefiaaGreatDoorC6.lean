/- Files in memory: one file "x", several handles. No program in sight. Files in memory: New of nothing. Files in memory: reads, the walk. Files in memory: known. Files in memory: known, the walk. -/
import Derived.Test.YtepaojbhjgefiaaGreatDoorC5
import Derived.Test.YtepaojbhjgefiaaGreatDoorC1
import Derived.DeepKeys
set_option linter.unusedVariables false
set_option linter.unusedSimpArgs false
/-! Vk1 -/
namespace Go.Gx
open Go.Proofs Go.Proofs.Tryz
set_option maxRecDepth 100000
abbrev HT := Option (Nat × Nat × Nat)
def fs0 : VS := ⟨[], [([], 0)], [], 100000, 5, 60, 0, 0⟩
/-- The file x with these bytes, these handles. -/
def ks (x : List UInt8) (H : List HT) : VS := ⟨[([120], x)], [([], 1)], H, 100000, 5, 60, x.length, (H.filter Option.isSome).length⟩
structure KOk (x : List UInt8) (H : List HT) : Prop where
 x : x.length ≤ 100000
 h : H.length ≤ 40
 at_ : ∀ i pl mo, some (i, pl, mo) ∈ H → i = 0 ∧ pl ≤ 100000 ∧ mo ≤ 3
section
variable {x : List UInt8} {H A T : List HT} {e : HT}
/-- All of these stand. -/
def Som (A : List HT) : Prop := ∀ a ∈ A, a.isSome
/-- What may stand behind them. -/
def Tail1 (T : List HT) : Prop := T = [] ∨ T = [none]
theorem filter_set {i : Nat} {h h' : Nat × Nat × Nat} (hi : H[i]? = some (some h)) : ((H.set i (some h')).filter Option.isSome).length = (H.filter Option.isSome).length := by
 induction H generalizing i with
 | nil => rfl
 | cons a H ih =>
  cases i with
  | zero =>
   simp only [List.getElem?_cons_zero, Option.some.injEq] at hi
   subst hi
   simp
  | succ i =>
   rw [List.getElem?_cons_succ] at hi
   rw [List.set_cons_succ, List.filter_cons, List.filter_cons]
   split
   ·rw [List.length_cons, List.length_cons, ih hi]
   ·exact ih hi
end
end Go.Gx
/-! Vk2 -/
namespace Go.Gx
open Go.Proofs Go.Proofs.Tryz
set_option maxRecDepth 100000
section
variable {α : Type}
theorem perm_k1 {a b c d e : α} : [a, b, c, d, e].Perm [e, a, d, b, c] := by
 classical
 exact List.perm_iff_count.2 fun x => by
  simp only [List.count_cons, List.count_nil]
  omega
end
theorem check_nil (w0 : World) : Calls Tryz.prog 43 #[.slice none 0 0] w0 fun e w' => ∃ L', e = .returned (.int .i64 0) ∧ Step [] L' w0 w' := by
 have hs : Step [] [] w0 w0 := Step.refl w0
 refine calls (n := 96) Tryz.func43 rfl rfl rfl ?_
 refine cQ <| cR <| wa rfl <| wZ <| cQ <| cQ <| cR <| wm rfl <| wV rfl (run_lenSl underlying22 rfl) <| wV rfl (run_bF (run_geq rfl rfl) (by omega)) <| wZ ?_
 refine cC rfl (fun h => ?_) (fun h => ?_)
 ·cases h
 repeat (first | refine cQ ?_ | refine cK ?_)
 refine cR ?_
 refine WL.makeMapS rfl hs (fun b15 w hs => ?_)
 refine WL.mapInsS (d := []) underlying129 underlying9 rfl rfl rfl (hs) (fun w hs => ?_)
 refine wm rfl <| wa rfl <| wZ <| cQ <| cR <| wa rfl <| wZ <| cQ <| cQ <| cR <| wm rfl <| wV rfl (run_lenSl underlying22 rfl) <| wm rfl <| wZ <| CW.block ?_
 refine CW.loop (fun z f w' => z = 0 ∧ ∃ L, Step [] L w0 w' ∧ Holds f [(4, .int .i64 0), (18, .int .i64 0), (19, .int .i64 0)]) (m := 0) ?_ ?_
 ·exact ⟨rfl, _, hs, rfl, rfl, rfl, trivial⟩
 ·clear hs
  rintro z f w ⟨rfl, L, hs, hf⟩
  have hobt := hf.chain
  obtain ⟨g, rfl⟩ := hobt
  refine cQ <| cR <| wV rfl (run_bF (run_lss rfl rfl) (by omega)) <| wZ <| cQ ?_
  refine cC rfl (fun h => ?_) (fun h => ?_)
  ·cases h
  repeat (first | refine cQ ?_ | refine CW.exit ?_)
  refine cR <| wm rfl <| wV rfl (run_bF (run_gtr rfl rfl) (by omega)) <| wZ ?_
  refine cC rfl (fun h => ?_) (fun h => ?_)
  ·cases h
  repeat (first | refine cQ ?_ | refine cK ?_)
  refine cR <| wa rfl <| wZ ?_
  refine CW.ret ?_
  refine fin_ret1 rfl ?_
  exact ⟨_, rfl, hs⟩
def newV (a b c : Int) : VS := ⟨[], [([], 0)], [], min a 67108864, min b 65535, min c 64, 0, 0⟩
theorem bld_dir0 (w : World) : (Instr.build 74 #[]).run Tryz.prog w = .ok (.agg #[str [], .int .i64 ((0 : Nat) : Int)]) w := by kernel_rfl
theorem bld_FS (mf md : Nat) (a b c : Int) (w : World) : (Instr.build 61 #[(0, .map (some mf)), (1, .map (some md)), (3, .agg (quoC a b c).toArray)]).run Tryz.prog w = .ok (.agg #[.map (some mf), .map (some md), .slice none 0 0, .int .i64 a, .int .i64 b, .int .i64 c, .int .i64 ((0 : Nat) : Int), .int .i64 ((0 : Nat) : Int)]) w := by kernel_rfl
theorem newV_rep {mf md bd bf : Nat} {a b c : Int} : VRep bf (newV a b c) [(bf, blk 61 (fsC mf md (.slice none 0 0) (newV a b c))), (mf, mapS [] 0), (md, mapS [([], .pointer (some ⟨bd, 0, none⟩), 0)] 1), (bd, blk 74 [str [], .int .i64 ((0 : Nat) : Int)])] :=
 ⟨mf, md, .slice none 0 0, [], [], [⟨[], bd, 0⟩], [], ⟨rfl, OwnSl.nil _ _, fun r h => (by cases h), fun h hm => (by cases hm), rfl, rfl, rfl⟩⟩
theorem new_nil {a b c : Int} (ha : 0 ≤ a) (hb : 0 ≤ b) (w0 : World) : Calls Tryz.prog 13 #[.slice none 0 0, .agg (quoC a b c).toArray] w0 fun e w' => ∃ bf L', e = .returned (.tuple #[.pointer (some ⟨bf, 0, none⟩), .int .i64 0]) ∧ VRep bf (newV a b c) L' ∧ Step [] L' w0 w' := by
 have hs : Step [] [] w0 w0 := Step.refl w0
 refine calls (n := 63) Tryz.func13 rfl rfl rfl ?_
 refine cQ <| cR ?_
 refine WL.box (cs := (quoC a b c)) rfl rfl rfl hs (fun b3 w hs => ?_)
 refine wa rfl <| wa rfl <| wZ <| cQ <| cQ <| cR <| wm rfl ?_
 refine wE rfl (run_call en43 rfl rfl) (check_nil _) ?_
 rintro e w ⟨L1, rfl, hq⟩
 refine ⟨_, rfl, ?_⟩
 replace hs := (hs.call0 hq).dropL
 refine wa rfl <| wZ <| cQ <| cR <| wm rfl <| wV rfl (run_bF (run_neq rfl rfl) (by decide)) <| wZ ?_
 refine cC rfl (fun h => ?_) (fun h => ?_)
 ·cases h
 repeat (first | refine cQ ?_ | refine cK ?_)
 refine cR ?_
 refine WL.makeMapS rfl hs (fun b15 w hs => ?_)
 refine WL.makeMapS rfl hs (fun b16 w hs => ?_)
 refine wV rfl (run_build rfl (bld_dir0 _)) ?_
 refine WL.box (cs := [str [], .int .i64 ((0 : Nat) : Int)]) rfl rfl rfl hs (fun b18 w hs => ?_)
 refine WL.mapInsS (d := []) underlying58 underlying9 rfl rfl rfl ((hs.perm (List.Perm.swap _ _ _))) (fun w hs => ?_)
 refine wm rfl <| wV rfl (run_field (o' := 0) underlying24 rfl ty3 rfl rfl rfl) <| wV rfl (run_load1 ty3 rfl (hs.c3 (v := .int .i64 a) rfl)) <| wV rfl (run_minE rfl rfl rfl) <| wV rfl (run_field (o' := 1) underlying24 rfl ty3 rfl rfl rfl) <| wV rfl (run_load1 ty3 rfl (hs.c3 (v := .int .i64 b) rfl)) <| wV rfl (run_minE rfl rfl rfl) <| wV rfl (run_field (o' := 2) underlying24 rfl ty3 rfl rfl rfl) <| wV rfl (run_load1 ty3 rfl (hs.c3 (v := .int .i64 c) rfl)) <| wV rfl (run_minE rfl rfl rfl) <| wV rfl (run_build rfl ((bld_quo _ _ _ _))) <| wV rfl (run_build rfl (bld_FS _ _ _ _ _ _)) ?_
 refine WL.box (cs := (fsC b15 b16 (.slice none 0 0) (newV a b c))) rfl rfl rfl hs (fun b31 w hs => ?_)
 refine wa rfl <| wZ <| cQ <| cQ <| cR <| wm rfl <| wV rfl (run_lenSl underlying22 rfl) <| wm rfl <| wZ ?_
 replace hs : Step [] [(b31, blk 61 (fsC b15 b16 (.slice none 0 0) (newV a b c))), (b16, mapS [([], .pointer (some ⟨b18, 0, none⟩), 0)] 1), (b18, blk 74 [str [], .int .i64 ((0 : Nat) : Int)]), (b15, mapS [] 0), (b3, blk 24 (quoC a b c))] w0 w := hs
 replace hs := (hs.perm perm_k1).tail
 refine CW.block ?_
 refine CW.loop (fun z f w' => z = 0 ∧ Step [] [(b31, blk 61 (fsC b15 b16 (.slice none 0 0) (newV a b c))), (b15, mapS [] 0), (b16, mapS [([], .pointer (some ⟨b18, 0, none⟩), 0)] 1), (b18, blk 74 [str [], .int .i64 ((0 : Nat) : Int)])] w0 w' ∧ Holds f [(0, .slice none 0 0), (7, .pointer (some ⟨b31, 0, none⟩)), (33, .int .i64 0), (34, .int .i64 0)]) (m := 0) ?_ ?_
 ·exact ⟨rfl, hs, rfl, rfl, rfl, rfl, trivial⟩
 ·clear hs
  rintro z f w ⟨rfl, hs, hf⟩
  have hobt := hf.chain
  obtain ⟨g, rfl⟩ := hobt
  refine cQ <| cR <| wV rfl (run_bF (run_lss rfl rfl) (by omega)) <| wZ <| cQ ?_
  refine cC rfl (fun h => ?_) (fun h => ?_)
  ·cases h
  repeat (first | refine cQ ?_ | refine CW.block ?_ | refine CW.exit ?_)
  refine CW.quietT (l1 := [_, _, _, _, _, _, _, _, _, _]) (l2 := [_]) 10 rfl mixedP rfl (by kernel_rfl) hs ?_
  refine qm rfl <| qn rfl rfl <| qV rfl (fun w hs => run_field (o' := 6) underlying61 rfl ty3 rfl rfl rfl) <| qV rfl (fun w hs => run_load1 ty3 rfl (hs.c0 (v := .int .i64 ((0 : Nat) : Int)) rfl)) <| qm rfl <| qn rfl rfl <| qV rfl (fun w hs => run_field (o' := 3) underlying61 rfl ty24 rfl rfl rfl) <| qV rfl (fun w hs => run_field (o' := 0) underlying24 rfl ty3 rfl rfl rfl) <| qV rfl (fun w hs => run_load1 ty3 rfl (hs.c0 (v := .int .i64 (min a 67108864)) rfl)) <| qV rfl (fun w hs => run_bF (run_gtr rfl rfl) (by omega)) ?_
  refine QL.nil (fun w hs => ?_)
  refine wa rfl <| wZ ?_
  refine cC rfl (fun h => ?_) (fun h => ?_)
  ·cases h
  refine cQ <| cR <| wm rfl <| wV rfl (run_lenSl underlying22 rfl) <| wm rfl <| wn rfl rfl <| wV rfl (run_field (o' := 3) underlying61 rfl ty24 rfl rfl rfl) <| wV rfl (run_field (o' := 1) underlying24 rfl ty3 rfl rfl rfl) <| wV rfl (run_load1 ty3 rfl (hs.c0 (v := .int .i64 (min b 65535)) rfl)) <| wV rfl (run_bF (run_gtr rfl rfl) (by omega)) <| wa rfl <| wZ ?_
  refine cC rfl (fun h => ?_) (fun h => ?_)
  ·cases h
  repeat (first | refine cQ ?_ | refine cK ?_)
  refine cR <| wm rfl <| wa rfl <| wa rfl <| wZ ?_
  refine CW.ret ?_
  refine fin_ret2 rfl ?_
  exact ⟨b31, _, rfl, newV_rep, hs⟩
end Go.Gx
/-! Vk3 -/
namespace Go.Gx
open Go.Proofs Go.Proofs.Tryz
set_option maxRecDepth 100000
section
variable {P : Program} {f : Slots} {w : World} {d : Option Tmp} {ty : TypeId} {pos : String} {af : Array Edge} {x y : Operand} {T T' E : TypeId}
theorem run_quoN {n m : Nat} (hx : ev f x = .int .i64 n) (hy : ev f y = .int .i64 m) (hm : m ≠ 0) (hn : n < 9223372036854775808) : (execOp (ev f) ⟨d, .binOp .quo T x y T', ty, pos, af, none⟩).run P w = .ok (.value (.int .i64 ((n / m : Nat) : Int))) w := by
 rw [run_quoW hx hy (by omega)]
 have e : (n : Int).tdiv m = ((n / m : Nat) : Int) := by rw [Int.ofNat_tdiv]
 have h2 : n / m ≤ n := Nat.div_le_self n m
 have hobt : ∃ q, n / m = q := ⟨_, rfl⟩
 obtain ⟨q, hq⟩ := hobt
 rw [hq] at h2
 rw [e, hq, wrap_i64 (by omega)]
end
section
variable {α : Type}
end
section
variable {S : List Nat} {L L' : List (Nat × Obj)} {w0 w w' : World}
theorem Step.own1 (h : Step S L w0 w) : Step (L.map (·.1)) L w w := by
 have h1 : Step S (L ++ []) w0 w := by rw [List.append_nil]; exact h
 exact h1.own
theorem Step.call1 (h : Step S L w0 w) (hc : Step (L.map (·.1)) L' w w') : Step S L' w0 w' := by
 have h1 : Step S (L ++ []) w0 w := by rw [List.append_nil]; exact h
 have h2 := h1.call hc
 rwa [List.append_nil] at h2
end
section
variable {x : List UInt8} {A T : List HT}
end
section
variable {bf : Nat} {x : List UInt8} {A T : List HT} {L : List (Nat × Obj)} {w0 : World}
end
end Go.Gx
/-! Vk4 -/
namespace Go.Gx
open Go.Proofs Go.Proofs.Tryz
set_option maxRecDepth 100000
section
variable {α : Type} {S : List Nat} {L : List (Nat × Obj)} {p : Nat × Obj} {w0 w : World}
theorem perm_k3 {a : α} {l : List α} : (a :: l).Perm (l ++ [a]) := (List.perm_append_singleton a l).symm
theorem Step.fresh1 (hs : Step S (p :: L) w0 w) : p.1 ∉ L.map (·.1) := by
 have hn := Step.nodup hs
 rw [List.map_cons, List.nodup_cons] at hn
 exact hn.1
end
section
variable {E sz k : Nat} {v : Value} {xs : List Value} {S : List Nat} {L R Lv : List (Nat × Obj)} {w0 w : World}
end
theorem Ty.cellsOf {P : Program} {T : TypeId} {agg : Bool} {n b : Nat} {zs : List Value} (h : Ty P T agg n b zs) : P.cellsOf T = n := by
 have hobt := h.info
 obtain ⟨i, z, hi, hs, _⟩ := hobt
 simp [Program.cellsOf, hi, hs]
section
variable {P : Program} {f : Slots} {w : World} {d : Option Tmp} {ty : TypeId} {pos : String} {af : Array Edge} {x y : Operand} {T T' : TypeId}
theorem run_equal_agg {xs ys : List Value} {lx ly : List Lit} {D : Nat} {p : Prop} [Decidable p] (hp : lx = ly ↔ p) (hk : P.keyTypeAt 5 T = true) (hfx : Value.formed P T (.agg xs.toArray) = true) (hfy : Value.formed P T (.agg ys.toArray) = true) (hx : P.keyLits D T xs = some lx) (hy : P.keyLits D T ys = some ly) :
  (Op.equalIn 10000 T (.agg xs.toArray) (.agg ys.toArray)).run P w = .ok (decide p) w := by
 have hobt := run_equalIn_deep 9995 5 T hk w D D (.agg xs.toArray) (.agg ys.toArray) lx ly hfx hfy (by simpa [Value.cells] using hx) (by simpa [Value.cells] using hy)
 obtain ⟨r, hr, hiff⟩ := hobt
 have e : r = decide p := by
  by_cases h : p
  ·simp [h, hiff.2 (hp.2 h)]
  ·simp [h]
   cases r
   ·rfl
   ·exact absurd (hp.1 (hiff.1 rfl)) h
 rw [← e]
 exact hr
theorem run_eqlAgg {xs ys : List Value} {lx ly : List Lit} {D : Nat} {p : Prop} [Decidable p] (hp : lx = ly ↔ p) (hk : P.keyTypeAt 5 T = true) (hfx : Value.formed P T (.agg xs.toArray) = true) (hfy : Value.formed P T (.agg ys.toArray) = true) (hg : P.eqGuardType P.depth T = false) (hx : ev f x = .agg xs.toArray) (hy : ev f y = .agg ys.toArray) (hlx : P.keyLits D T xs = some lx) (hly : P.keyLits D T ys = some ly) :
  (execOp (ev f) ⟨d, .binOp .eql T x y T', ty, pos, af, none⟩).run P w = .ok (.value (.bool (decide p))) w := by
 simp [execOp, hx, hy, run_eqGuard_agg w .eql T x y _ _ hg, run_eql_struct, run_equal_agg hp hk hfx hfy hlx hly]
end
def i64s (a : Int) : Prop := -9223372036854775808 ≤ a ∧ a ≤ 9223372036854775807
instance (a : Int) : Decidable (i64s a) := inferInstanceAs (Decidable (_ ∧ _))
theorem int_lits {a : Int} (h : i64s a) : Tryz.prog.keyLits 3 3 [.int .i64 a] = some [.int .i64 a] := by
 have hw : (Lit.int .i64 a).wf = true := WalkArith.wf_i64 (by unfold i64s at h; omega)
 unfold Program.keyLits
 simp only [Tryz.underlying3, hw, and_self, if_true]
theorem quo_lits {a b c : Int} (ha : i64s a) (hb : i64s b) (hc : i64s c) : Tryz.prog.keyLits 4 24 (quoC a b c) = some [.int .i64 a, .int .i64 b, .int .i64 c] := by
 unfold Program.keyLits
 simp only [Tryz.underlying24, ty24.cellsOf, quoC]
 rw [if_pos ⟨rfl, by kernel_rfl⟩]
 simp only [List.mapM_cons, List.mapM_nil, ty3.cellsOf]
 simp [int_lits ha, int_lits hb, int_lits hc]
theorem quo_key : Tryz.prog.keyTypeAt 5 24 = true := by kernel_rfl
theorem quo_guard : Tryz.prog.eqGuardType Tryz.prog.depth 24 = false := by kernel_rfl
theorem quo_formed {a b c : Int} : Value.formed Tryz.prog 24 (.agg (quoC a b c).toArray) = true := by
 simp only [Value.formed, Tryz.underlying24, ty24.cellsOf]
 simp [quoC]
section
variable {f : Slots} {w : World} {d : Option Tmp} {ty : TypeId} {pos : String} {af : Array Edge} {x y : Operand} {T' : TypeId} {a b c a' b' c' : Int}
theorem run_eqQuo (ha : i64s a) (hb : i64s b) (hc : i64s c) (ha' : i64s a') (hb' : i64s b') (hc' : i64s c') (hx : ev f x = .agg (quoC a b c).toArray) (hy : ev f y = .agg (quoC a' b' c').toArray) :
  (execOp (ev f) ⟨d, .binOp .eql 24 x y T', ty, pos, af, none⟩).run Tryz.prog w = .ok (.value (.bool (decide (a = a' ∧ b = b' ∧ c = c')))) w :=
 run_eqlAgg (by simp) quo_key quo_formed quo_formed quo_guard hx hy (quo_lits ha hb hc) (quo_lits ha' hb' hc')
end
def w0V : VS := newV 9 2 2
def w1V : VS := ⟨[([97, 47, 98], [])], [([], 1), ([97], 1)], [some (0, 0, 1)], 9, 2, 2, 0, 1⟩
def w2V : VS := ⟨[([97, 47, 98], [7, 8])], [([], 1), ([97], 1)], [some (0, 2, 1)], 9, 2, 2, 2, 1⟩
def w3V : VS := ⟨[([97, 47, 98], [7, 8])], [([], 1), ([97], 1)], [some (0, 2, 1), some (0, 0, 0)], 9, 2, 2, 2, 2⟩
def w4V : VS := ⟨[([97, 47, 98], [7, 8])], [([], 1), ([97], 1)], [some (0, 2, 1), some (0, 2, 0)], 9, 2, 2, 2, 2⟩
theorem w01 : w0V.open [97, 47, 46, 47, 98] 5 = (0, 0, w1V) := by
 have h1 : cleanE [97, 47, 46, 47, 98] = 0 ∧ cleanS [97, 47, 46, 47, 98] = [97, 47, 98] := by decide
 unfold VS.open
 rw [if_neg (by omega), h1.1, h1.2]
 rfl
theorem w12 : w1V.write 0 [7, 8] = (0, w2V) := rfl
theorem w34 : w3V.read 1 9 = ([7, 8], 0, w4V) := rfl
theorem w23 : w2V.open [97, 47, 98] 0 = (1, 0, w3V) := by
 have h1 : cleanE [97, 47, 98] = 0 ∧ cleanS [97, 47, 98] = [97, 47, 98] := by decide
 unfold VS.open
 rw [if_neg (by omega), h1.1, h1.2]
 rfl
theorem w0s : w0V.Sane := by
 refine ⟨⟨by decide, by decide, by decide, by decide, fun i pl mo h => (by cases h), by decide, by decide, by decide, by decide, by decide⟩, by decide, by decide, by decide, by decide, by decide, by decide, fun i pl mo h => by cases h⟩
theorem w1k : w1V.Ok := by
 refine ⟨by decide, by decide, by decide, by decide, fun i pl mo h => ?_, by decide, by decide, by decide, by decide, by decide⟩
 have h1 := List.mem_singleton.1 h
 cases h1
 decide
theorem w2s : w2V.Sane := by
 refine ⟨⟨by decide, by decide, by decide, by decide, fun i pl mo h => ?_, by decide, by decide, by decide, by decide, by decide⟩, by decide, by decide, by decide, by decide, by decide, by decide, fun i pl mo h => ?_⟩
 ·have h1 := List.mem_singleton.1 h
  cases h1
  decide
 ·have h1 := List.mem_singleton.1 h
  cases h1
  decide
theorem w3k : w3V.Ok := by
 refine ⟨by decide, by decide, by decide, by decide, fun i pl mo h => ?_, by decide, by decide, by decide, by decide, by decide⟩
 rcases List.mem_cons.1 h with h1 | h1
 ·cases h1
  decide
 ·cases List.mem_singleton.1 h1
  decide
theorem w4k : w4V.Ok := by
 refine ⟨by decide, by decide, by decide, by decide, fun i pl mo h => ?_, by decide, by decide, by decide, by decide, by decide⟩
 rcases List.mem_cons.1 h with h1 | h1
 ·cases h1
  decide
 ·cases List.mem_singleton.1 h1
  decide
end Go.Gx
/-! Vk5 -/
namespace Go.Gx
open Go.Proofs Go.Proofs.Tryz
set_option maxRecDepth 100000
set_option maxHeartbeats 4000000 in
theorem known_spec {w0 : World} (hg : Gl w0) : Calls Tryz.prog 5 #[] w0 (Ret0 (.bool true) w0) := by
 have hs : Step [] [] w0 w0 := Step.refl w0
 have hz : ∀ {L : List (Nat × Obj)} {w : World}, Step [] L w0 w → 0 ∉ L.map (·.1) := fun hs => hs.zero (by simp) hg
 have c1 := fun {w L bf} (hR : VRep bf w0V L) (hs : Step [] L w0 w) => open_spec (w0 := w) (p := [97, 47, 46, 47, 98]) (mode := 5) hR w0s (hg.stepS hs (by simp)) (hz hs) hs.own1 (by decide)
 simp only [w01] at c1
 have c2 := fun {w L bf v} (hR : VRep bf w1V L) (hw : Step (L.map (·.1)) L w w) (hv : ∀ {L' w'}, Step (L.map (·.1)) L' w w' → Sl w' 1 v 2 (u8s [7, 8])) => write_spec (w0 := w) (h := 0) (b := [7, 8]) hR w1k hw (by decide) hv
 simp only [w12] at c2
 have c3 := fun {w L R bf} (hR : VRep bf w2V L) (hs : Step [] (L ++ R) w0 w) => open_spec (w0 := w) (p := [97, 47, 98]) (mode := 0) hR w2s (hg.stepS hs (by simp)) (hz hs.dropR) hs.own (by decide)
 simp only [w23] at c3
 have c4 := fun {w L bf} (hR : VRep bf w3V L) (hw : Step (L.map (·.1)) L w w) => read_spec (w0 := w) (h := 1) (n := 9) hR w3k hw (by decide)
 simp only [w34] at c4
 have c5 : ∀ {w L bf}, VRep bf w4V L → (∀ p ∈ L, w.heap[p.1]? = some p.2) → Calls Tryz.prog 9 #[.pointer (some ⟨bf, 0, none⟩)] w (Ret0 (.agg (quoC 2 2 2).toArray) w) := fun ⟨mf, md, vh, Lh, Fs, Ds, Hs, o⟩ hw => used_spec o w4k (by decide) hw
 refine calls (n := 75) Tryz.func5 rfl rfl rfl ?_
 refine cQ <| cR <| wa rfl <| wZ <| cQ <| cR <| wV rfl (run_build rfl (bld_quo _ _ _ _)) ?_
 refine wE rfl (run_call en13 rfl rfl) (new_nil (by decide) (by decide) _) ?_
 rintro e w ⟨bf, L0, rfl, hR0, hq⟩
 refine ⟨_, rfl, ?_⟩
 replace hs := hs.call1 hq
 refine wm rfl <| wx rfl rfl rfl <| wx rfl rfl rfl <| wa rfl <| wa rfl <| wZ <| cQ <| cQ <| cR <| wm rfl <| wV rfl (run_ptrNil underlying26 rfl rfl) <| wm rfl <| WL.yes rfl rfl rfl <| wm rfl <| WL.yes rfl rfl rfl <| wV rfl (run_bF (run_neq rfl rfl) (by decide)) <| wV rfl (run_pickF rfl) <| wZ ?_
 refine cC rfl (fun h => ?_) (fun h => ?_)
 ·cases h
 replace hR0 : VRep bf w0V L0 := hR0
 repeat (first | refine cQ ?_ | refine cK ?_)
 refine cR <| wm rfl ?_
 refine wE rfl (run_call en14 rfl rfl) (c1 hR0 hs) ?_
 rintro e w ⟨L1, rfl, hR1, hq⟩
 refine ⟨_, rfl, ?_⟩
 replace hs := hs.call1 hq
 refine wm rfl <| wx rfl rfl rfl <| wx rfl rfl rfl <| wa rfl <| wa rfl <| wZ <| cQ <| cR <| wm rfl <| wm rfl ?_
 refine WL.buildSlice (cs := (u8s [7, 8])) underlying38 ty5 rfl (by decide) rfl (by rfl) rfl hs (fun b27 w hs => ?_)
 refine wE rfl (run_call en15 rfl rfl) (c2 hR1 hs.tail.own1 (fun h => Sl.step (.own1 hs rfl) h hs.fresh1)) ?_
 rintro e w ⟨L2, rfl, hR2, hq⟩
 refine ⟨_, rfl, ?_⟩
 replace hs := (hs.perm perm_k3).call hq
 refine wa rfl <| wZ <| cQ <| cR <| wm rfl ?_
 refine wE rfl (run_call en14 rfl rfl) (c3 hR2 hs) ?_
 rintro e w ⟨L3, rfl, hR3, hq⟩
 refine ⟨_, rfl, ?_⟩
 replace hs := hs.call hq
 refine wm rfl <| wx rfl rfl rfl <| wx rfl rfl rfl <| wa rfl <| wa rfl <| wZ <| cQ <| cR <| wm rfl <| wm rfl ?_
 refine wE rfl (run_call en16 rfl rfl) (c4 hR3 hs.own) ?_
 rintro e w ⟨v4, Lv4, L4, rfl, hu4, hR4, hq⟩
 refine ⟨_, rfl, ?_⟩
 replace hs := hs.call hq
 refine wm rfl <| wx rfl rfl rfl <| wx rfl rfl rfl <| wa rfl <| wa rfl <| wZ ?_
 have hm4 : ∀ {w : World} {R}, Step [] (R ++ ((Lv4 ++ L4) ++ [(b27, blk 5 (u8s [7, 8]))])) w0 w → Sl w 1 v4 2 (u8s [7, 8]) := fun hs => hu4.slW fun p hp => hs.has p (by simp [hp])
 have hm5 : ∀ {w : World} {R}, Step [] (R ++ ((Lv4 ++ L4) ++ [(b27, blk 5 (u8s [7, 8]))])) w0 w → ∀ p ∈ L4, w.heap[p.1]? = some p.2 := fun hs p hp => hs.has p (by simp [hp])
 refine cQ <| cR <| wm rfl <| wV rfl (run_bT (run_eql rfl rfl) (by rfl)) <| wm rfl <| WL.yes rfl rfl rfl <| wm rfl <| WL.yes rfl rfl rfl <| wV rfl (run_bT (run_eql rfl rfl) (by rfl)) <| wV rfl (run_pickT rfl) <| wm rfl <| WL.yes rfl rfl rfl <| wm rfl <| WL.yes rfl rfl rfl <| wV rfl (run_bT (run_eql rfl rfl) (by rfl)) <| wV rfl (run_pickT rfl) <| wm rfl <| WL.yes rfl rfl rfl <| wm rfl <| WL.yes rfl rfl rfl <| wV rfl (run_bT (run_eql rfl rfl) (by rfl)) <| wV rfl (run_pickT rfl) <| wm rfl <| WL.yes rfl rfl rfl <| wm rfl <| WL.yes rfl rfl rfl <| wV rfl (run_bT (run_eql rfl rfl) (by rfl)) <| wV rfl (run_pickT rfl) <| wm rfl <| WL.yes rfl rfl rfl <| wm rfl ?_
 refine WL.yes rfl rfl rfl <| wV rfl (run_bT (run_eql rfl rfl) (by rfl)) <| wV rfl (run_pickT rfl) <| wm rfl <| WL.yes rfl rfl rfl <| wm rfl <| WL.yes rfl rfl rfl <| wV rfl (run_toString underlying38 underlying9 underlying5 rfl (hm4 (R := []) hs)) <| WL.yes rfl rfl rfl ?_
 refine WL.buildSlice (cs := (u8s [7, 8])) (vs := [(0, .int .u8 7), (1, .int .u8 8)]) underlying38 ty5 rfl (by decide) rfl (by rfl) rfl hs (fun b65 w hs => ?_)
 refine WL.yes rfl rfl rfl <| wV rfl (run_toString underlying38 underlying9 underlying5 rfl (Sl.own1 (n := 2) (cs := u8s [7, 8]) hs rfl)) <| WL.yes rfl rfl rfl <| wV rfl (run_bT (run_strEq rfl rfl) (by rfl)) <| wV rfl (run_pickT rfl) <| wm rfl <| WL.yes rfl rfl rfl <| wm rfl <| WL.yes rfl rfl rfl ?_
 refine wE rfl (run_call en9 rfl rfl) (c5 hR4 (hm5 (R := [_]) hs)) ?_
 rintro e w ⟨rfl, hq⟩
 refine ⟨_, rfl, ?_⟩
 replace hs := hs.callE hq
 refine WL.yes rfl rfl rfl <| wV rfl (run_build rfl (bld_quo _ _ _ _)) <| WL.yes rfl rfl rfl <| wV rfl (run_bT (run_eqQuo (by decide) (by decide) (by decide) (by decide) (by decide) (by decide) rfl rfl) (by decide)) <| wV rfl (run_pickT rfl) <| wa rfl <| wZ ?_
 refine CW.ret ?_
 refine fin_ret1 rfl ?_
 exact ⟨rfl, hs.clear⟩
end Go.Gx
