/- '==' on arrays and structs: by their literals. No program in sight. -/
import Derived.Test.YtkdmkjlchlcebaaNSpec
import Derived.DeepKeys
namespace Go.Gx
set_option linter.unusedVariables false
set_option linter.unusedSimpArgs false

theorem mapM_some' {α β : Type} {f : α → Option β} {g : α → β} : ∀ (l : List α), (∀ x ∈ l, f x = some (g x)) → l.mapM f = some (l.map g)
  | [], _ => rfl
  | x :: l, h => by
    rw [List.mapM_cons, h x (by simp), mapM_some' l (fun y hy => h y (by simp [hy]))]
    rfl

theorem Ty.cellsOf {P : Program} {T : TypeId} {agg : Bool} {n b : Nat} {zs : List Value} (h : Ty P T agg n b zs) : P.cellsOf T = n := by
  have hobt := h.info
  obtain ⟨i, z, hi, hs, _⟩ := hobt
  simp [Program.cellsOf, hi, hs]

def u8l (l : List UInt8) : List Lit := l.map fun c => .int .u8 c.toNat

theorem u8l_inj {a b : List UInt8} (h : u8l a = u8l b) : a = b := by
  refine (List.map_inj_right (f := fun (c : UInt8) => Lit.int .u8 c.toNat) ?_).1 h
  intro x y hxy
  injection hxy with _ h1
  have : x.toNat = y.toNat := by omega
  exact UInt8.toNat_inj.1 this

theorem flatten_single {α β : Type} (l : List α) (g : α → β) : (l.map fun x => [g x]).flatten = l.map g := by
  induction l with
  | nil => rfl
  | cons a l ih => simp [ih]

theorem lits_u8 {P : Program} {T E : TypeId} {n d bT bE : Nat} {zT zE : List Value} {l : List UInt8} (hT : P.underlying T = some (.array n E)) (hE : P.underlying E = some (.int .u8)) (tT : Ty P T true n bT zT) (tE : Ty P E false 1 bE zE) (hl : l.length = n) :
    P.keyLits (d + 2) T (u8s l) = some (u8l l) := by
  have hone : ∀ c : UInt8, P.keyLits (d + 1) E [.int .u8 c.toNat] = some [.int .u8 c.toNat] := fun c => by
    have hw : (Lit.int .u8 c.toNat).wf = true := by
      have := c.toNat_lt
      simp only [Lit.wf, IntKind.min, IntKind.max, IntKind.signed, IntKind.bits, Bool.and_eq_true, decide_eq_true_eq]
      simp
      omega
    unfold Program.keyLits
    simp [hE, hw]
  have hm : (List.range n).mapM (fun i => P.keyLits (d + 1) E (((u8s l).drop (i * P.cellsOf E)).take (P.cellsOf E))) = some ((List.range n).map fun i => [Lit.int .u8 (l.getD i 0).toNat]) := by
    refine mapM_some' _ fun i hi => ?_
    have hi' : i < l.length := by rw [hl]; exact List.mem_range.1 hi
    rw [tE.cellsOf, Nat.mul_one, ← hone]
    congr 1
    rw [List.drop_eq_getElem_cons (by simpa [u8s] using hi')]
    simp [u8s, List.getElem?_eq_getElem hi']
  have hlen : (u8s l).length = P.cellsOf T := by rw [tT.cellsOf, ← hl]; simp [u8s]
  unfold Program.keyLits
  simp only [hT, hlen, if_true, hm, Option.map_some, Option.some.injEq]
  rw [flatten_single (List.range n) (fun i => Lit.int .u8 (l.getD i 0).toNat)]
  apply List.ext_getElem?
  intro i
  by_cases hi : i < n
  · simp [u8l, hi, List.getElem?_eq_getElem (show i < l.length by omega)]
  · simp [u8l, hi, List.getElem?_eq_none (show l.length ≤ i by omega)]

section
variable {P : Program} {f : Slots} {w : World} {d : Option Tmp} {ty : TypeId} {pos : String} {af : Array Edge} {x y : Operand} {T T' : TypeId}

theorem run_equal_agg {xs ys : List Value} {lx ly : List Lit} {D : Nat} {p : Prop} [Decidable p] (hp : lx = ly ↔ p) (hk : P.keyTypeAt 5 T = true) (hfx : Value.formed P T (.agg xs.toArray) = true) (hfy : Value.formed P T (.agg ys.toArray) = true) (hx : P.keyLits D T xs = some lx) (hy : P.keyLits D T ys = some ly) :
    (Op.equalIn 10000 T (.agg xs.toArray) (.agg ys.toArray)).run P w = .ok (decide p) w := by
  have hobt := run_equalIn_deep 9995 5 T hk w D D (.agg xs.toArray) (.agg ys.toArray) lx ly hfx hfy (by simpa [Value.cells] using hx) (by simpa [Value.cells] using hy)
  obtain ⟨r, hr, hiff⟩ := hobt
  have e : r = decide p := by
    by_cases h : p
    · simp [h, hiff.2 (hp.2 h)]
    · simp [h]
      cases r
      · rfl
      · exact absurd (hp.1 (hiff.1 rfl)) h
  rw [← e]
  exact hr

theorem run_eqlAgg {xs ys : List Value} {lx ly : List Lit} {D : Nat} {p : Prop} [Decidable p] (hp : lx = ly ↔ p) (hk : P.keyTypeAt 5 T = true) (hfx : Value.formed P T (.agg xs.toArray) = true) (hfy : Value.formed P T (.agg ys.toArray) = true) (hg : P.eqGuardType P.depth T = false) (hx : ev f x = .agg xs.toArray) (hy : ev f y = .agg ys.toArray) (hlx : P.keyLits D T xs = some lx) (hly : P.keyLits D T ys = some ly) :
    (execOp (ev f) ⟨d, .binOp .eql T x y T', ty, pos, af, none⟩).run P w = .ok (.value (.bool (decide p))) w := by
  simp [execOp, hx, hy, run_eqGuard_agg w .eql T x y _ _ hg, run_eql_struct, run_equal_agg hp hk hfx hfy hlx hly]
theorem run_neqAgg {xs ys : List Value} {lx ly : List Lit} {D : Nat} {p : Prop} [Decidable p] (hp : lx = ly ↔ p) (hk : P.keyTypeAt 5 T = true) (hfx : Value.formed P T (.agg xs.toArray) = true) (hfy : Value.formed P T (.agg ys.toArray) = true) (hg : P.eqGuardType P.depth T = false) (hx : ev f x = .agg xs.toArray) (hy : ev f y = .agg ys.toArray) (hlx : P.keyLits D T xs = some lx) (hly : P.keyLits D T ys = some ly) :
    (execOp (ev f) ⟨d, .binOp .neq T x y T', ty, pos, af, none⟩).run P w = .ok (.value (.bool (decide (¬ p)))) w := by
  have e : (!decide p) = decide (¬ p) := by by_cases h : p <;> simp [h]
  simp only [execOp, hx, hy, Sem.run_bind, run_eqGuard_agg w .neq T x y _ _ hg, Result.andThen_ok, run_neq_struct, run_equal_agg hp hk hfx hfy hlx hly, Sem.run_pure, e]
end

def Ent.lits (x : Ent) : List Lit := .string x.name :: .int .i64 x.kind :: u8l x.dig
theorem Ent.lits_iff {x y : Ent} : x.lits = y.lits ↔ x = y := by
  constructor
  · intro h
    obtain ⟨n, k, g⟩ := x
    obtain ⟨n', k', g'⟩ := y
    simp only [Ent.lits, List.cons.injEq, Lit.string.injEq, Lit.int.injEq, true_and] at h
    obtain ⟨rfl, rfl, h⟩ := h
    rw [u8l_inj h]
  · rintro rfl; rfl
end Go.Gx
