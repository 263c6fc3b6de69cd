/- What one operation does, an operation a law: in the words of the frame as a function and of owned blocks. No program in sight. -/
import Derived.Test.YtepaojbhjgefiaaDoorMem
namespace Go.Gx
set_option linter.unusedVariables false
set_option linter.unusedSimpArgs false

def isAggD : TypeDesc → Bool | .struct _ | .array _ _ => true | _ => false
def isAggV : Value → Bool | .agg _ | .tuple _ => true | _ => false
/-- What the tables say of a type: is it a struct or an array; how many cells, how many bytes; its zero's cells. -/
structure Ty (P : Program) (T : TypeId) (agg : Bool) (n bytes : Nat) (zs : List Value) : Prop where
  und : ∃ d, P.underlying T = some d ∧ isAggD d = agg
  info : ∃ i z, P.info? T = some i ∧ i.size = n ∧ i.bytes = bytes ∧ i.zero = some z ∧ z.cells = zs.toArray ∧ isAggV z = agg

theorem ty_of {P : Program} {T : TypeId} {d : TypeDesc} {agg : Bool} {n b : Nat} {z : Value} {zs : List Value} (hu : P.underlying T = some d) (ha : isAggD d = agg)
    (hi : (P.info? T).map (fun i => (i.zero, i.size, i.bytes)) = some (some z, n, b)) (hc : z.cells = zs.toArray) (hz : isAggV z = agg) : Ty P T agg n b zs := by
  refine ⟨⟨d, hu, ha⟩, ?_⟩
  cases h : P.info? T with
  | none => rw [h] at hi; cases hi
  | some i =>
    rw [h] at hi
    simp only [Option.map_some, Option.some.injEq, Prod.mk.injEq] at hi
    exact ⟨i, z, rfl, hi.2.1, hi.2.2, hi.1, hc, hz⟩

def str (l : List UInt8) : Value := .string ⟨⟨l⟩⟩
def u8s (l : List UInt8) : List Value := l.map fun c => .int .u8 c.toNat

section
variable {P : Program} {f : Slots} {w : World} {d : Option Tmp} {ty : TypeId} {pos : String} {af : Array Edge} {x y z : Operand} {T T' : TypeId} {a b : Int} {k : IntKind}

theorem run_move : (execOp (ev f) ⟨d, .move x, ty, pos, af, none⟩).run P w = .ok (.value (ev f x)) w := rfl
theorem run_assign : (execOp (ev f) ⟨d, .assign x, ty, pos, af, none⟩).run P w = .ok (.value (ev f x)) w := rfl
theorem run_pickT (hx : ev f x = .bool true) : (execOp (ev f) ⟨d, .pick x y z, ty, pos, af, none⟩).run P w = .ok (.value (ev f y)) w := by
  simp [execOp, hx, asBool]
theorem run_pickF (hx : ev f x = .bool false) : (execOp (ev f) ⟨d, .pick x y z, ty, pos, af, none⟩).run P w = .ok (.value (ev f z)) w := by
  simp [execOp, hx, asBool]
theorem run_nilCheck {A : Addr} (hx : ev f x = .pointer (some A)) : (execOp (ev f) ⟨d, .nilCheck x, ty, pos, af, none⟩).run P w = .ok (.value (.pointer (some A))) w := by
  simp [execOp, hx]
theorem run_extract {vs : Array Value} {i : Nat} {v : Value} (hx : ev f x = .tuple vs) (hi : vs[i]? = some v) : (execOp (ev f) ⟨d, .extract x i, ty, pos, af, none⟩).run P w = .ok (.value v) w := by
  simp [execOp, hx, Instr.extract, hi]
theorem run_notB {p : Prop} [Decidable p] (hx : ev f x = .bool (decide p)) : (execOp (ev f) ⟨d, .unOp .not T x, ty, pos, af, none⟩).run P w = .ok (.value (.bool (decide (¬ p)))) w := by
  have e : (!decide p) = decide (¬ p) := by by_cases h : p <;> simp [h]
  rw [← e]
  simp [execOp, hx, Op.unary]
theorem run_not {b : Bool} (hx : ev f x = .bool b) : (execOp (ev f) ⟨d, .unOp .not T x, ty, pos, af, none⟩).run P w = .ok (.value (.bool !b)) w := by
  simp [execOp, hx, Op.unary]

theorem run_bT {p : Prop} [Decidable p] {o : Op} (h : (execOp (ev f) ⟨d, o, ty, pos, af, none⟩).run P w = .ok (.value (.bool (decide p))) w) (hp : p) : (execOp (ev f) ⟨d, o, ty, pos, af, none⟩).run P w = .ok (.value (.bool true)) w := by
  rw [h, decide_eq_true hp]
theorem run_bF {p : Prop} [Decidable p] {o : Op} (h : (execOp (ev f) ⟨d, o, ty, pos, af, none⟩).run P w = .ok (.value (.bool (decide p))) w) (hp : ¬ p) : (execOp (ev f) ⟨d, o, ty, pos, af, none⟩).run P w = .ok (.value (.bool false)) w := by
  rw [h, decide_eq_false hp]
theorem run_bE {b b' : Bool} {o : Op} (h : (execOp (ev f) ⟨d, o, ty, pos, af, none⟩).run P w = .ok (.value (.bool b)) w) (hb : b = b') : (execOp (ev f) ⟨d, o, ty, pos, af, none⟩).run P w = .ok (.value (.bool b')) w := by
  rw [h, hb]
section ints
variable (hx : ev f x = .int k a) (hy : ev f y = .int k b)
include hx hy
theorem run_lss : (execOp (ev f) ⟨d, .binOp .lss T x y T', ty, pos, af, none⟩).run P w = .ok (.value (.bool (decide (a < b)))) w := by simp [execOp, hx, hy, go_sem]
theorem run_leq : (execOp (ev f) ⟨d, .binOp .leq T x y T', ty, pos, af, none⟩).run P w = .ok (.value (.bool (decide (a ≤ b)))) w := by simp [execOp, hx, hy, go_sem]
theorem run_gtr : (execOp (ev f) ⟨d, .binOp .gtr T x y T', ty, pos, af, none⟩).run P w = .ok (.value (.bool (decide (b < a)))) w := by simp [execOp, hx, hy, go_sem]
theorem run_geq : (execOp (ev f) ⟨d, .binOp .geq T x y T', ty, pos, af, none⟩).run P w = .ok (.value (.bool (decide (b ≤ a)))) w := by simp [execOp, hx, hy, go_sem]
theorem run_eql : (execOp (ev f) ⟨d, .binOp .eql T x y T', ty, pos, af, none⟩).run P w = .ok (.value (.bool (decide (a = b)))) w := by
  simp [execOp, hx, hy, go_sem]; rfl
theorem run_neq : (execOp (ev f) ⟨d, .binOp .neq T x y T', ty, pos, af, none⟩).run P w = .ok (.value (.bool (decide (a ≠ b)))) w := by
  have e : (a != b) = decide (a ≠ b) := by by_cases h : a = b <;> simp [h]
  simp only [execOp, hx, hy, eqGuard_at_int, binOp_neq, e]
  rfl
theorem run_addW : (execOp (ev f) ⟨d, .binOp .add T x y T', ty, pos, af, none⟩).run P w = .ok (.value (.int k (k.wrap (a + b)))) w := by simp [execOp, hx, hy, go_sem]
theorem run_subW : (execOp (ev f) ⟨d, .binOp .sub T x y T', ty, pos, af, none⟩).run P w = .ok (.value (.int k (k.wrap (a - b)))) w := by simp [execOp, hx, hy, go_sem]
theorem run_mulW : (execOp (ev f) ⟨d, .binOp .mul T x y T', ty, pos, af, none⟩).run P w = .ok (.value (.int k (k.wrap (a * b)))) w := by simp [execOp, hx, hy, go_sem]
theorem run_rem (hb : b ≠ 0) : (execOp (ev f) ⟨d, .binOp .rem T x y T', ty, pos, af, none⟩).run P w = .ok (.value (.int k (a.tmod b))) w := by simp [execOp, hx, hy, go_sem, Op.intDiv, hb]
theorem run_quoW (hb : b ≠ 0) : (execOp (ev f) ⟨d, .binOp .quo T x y T', ty, pos, af, none⟩).run P w = .ok (.value (.int k (k.wrap (a.tdiv b)))) w := by simp [execOp, hx, hy, go_sem, Op.intDiv, hb]
end ints

theorem wrap_i64 {a : Int} (h : -9223372036854775808 ≤ a ∧ a ≤ 9223372036854775807) : IntKind.i64.wrap a = a := IntWalk.i64_in _ (by omega)

section i64s
variable (hx : ev f x = .int .i64 a) (hy : ev f y = .int .i64 b)
include hx hy
theorem run_add {c : Int} (hc : a + b = c) (h : -9223372036854775808 ≤ c ∧ c ≤ 9223372036854775807) : (execOp (ev f) ⟨d, .binOp .add T x y T', ty, pos, af, none⟩).run P w = .ok (.value (.int .i64 c)) w := by
  rw [run_addW hx hy, hc, wrap_i64 h]
theorem run_sub {c : Int} (hc : a - b = c) (h : -9223372036854775808 ≤ c ∧ c ≤ 9223372036854775807) : (execOp (ev f) ⟨d, .binOp .sub T x y T', ty, pos, af, none⟩).run P w = .ok (.value (.int .i64 c)) w := by
  rw [run_subW hx hy, hc, wrap_i64 h]
theorem run_mul {c : Int} (hc : a * b = c) (h : -9223372036854775808 ≤ c ∧ c ≤ 9223372036854775807) : (execOp (ev f) ⟨d, .binOp .mul T x y T', ty, pos, af, none⟩).run P w = .ok (.value (.int .i64 c)) w := by
  rw [run_mulW hx hy, hc, wrap_i64 h]
end i64s

theorem run_shr {k' : IntKind} {s : Int} (hx : ev f x = .int k a) (hy : ev f y = .int k' s) (hs : 0 ≤ s) :
    (execOp (ev f) ⟨d, .binOp .shr T x y T', ty, pos, af, none⟩).run P w = .ok (.value (.int k (a.fdiv (2 ^ min s.toNat k.bits)))) w := by
  have : ¬ s < 0 := by omega
  simp [execOp, hx, hy, go_sem, Op.shift, this]
theorem run_shl {k' : IntKind} {s : Int} (hx : ev f x = .int k a) (hy : ev f y = .int k' s) (hs : 0 ≤ s) :
    (execOp (ev f) ⟨d, .binOp .shl T x y T', ty, pos, af, none⟩).run P w = .ok (.value (.int k (k.wrap (a * 2 ^ min s.toNat k.bits)))) w := by
  have : ¬ s < 0 := by omega
  simp [execOp, hx, hy, go_sem, Op.shift, this]

theorem run_convInt {k k' : IntKind} {ds : TypeDesc} (hs : P.underlying T = some ds) (ht : P.underlying T' = some (.int k')) (hx : ev f x = .int k a) :
    (execOp (ev f) ⟨d, .convert T T' x, ty, pos, af, none⟩).run P w = .ok (.value (.int k' (k'.wrap a))) w := by
  simp [execOp, hx, convert, run_underlying hs, run_underlying ht, Conv.intToInt]

section strs
variable {s t : List UInt8}
theorem toList_str (s : List UInt8) : (ByteArray.mk ⟨s⟩).toList = s := by rw [ByteArray.toList_eq]
theorem run_strEq (hx : ev f x = str s) (hy : ev f y = str t) : (execOp (ev f) ⟨d, .binOp .eql T x y T', ty, pos, af, none⟩).run P w = .ok (.value (.bool (decide (s = t)))) w := by
  have e : (s == t) = decide (s = t) := by by_cases h : s = t <;> simp [h]
  rw [← e]
  simp [execOp, hx, hy, str, go_sem, binOp, Op.stringOp, toList_str]
theorem run_strNe (hx : ev f x = str s) (hy : ev f y = str t) : (execOp (ev f) ⟨d, .binOp .neq T x y T', ty, pos, af, none⟩).run P w = .ok (.value (.bool (decide (s ≠ t)))) w := by
  have e : (!(s == t)) = decide (s ≠ t) := by by_cases h : s = t <;> simp [h]
  rw [← e]
  simp [execOp, hx, hy, str, go_sem, binOp, Op.stringOp, toList_str]
theorem run_strLt (hx : ev f x = str s) (hy : ev f y = str t) : (execOp (ev f) ⟨d, .binOp .lss T x y T', ty, pos, af, none⟩).run P w = .ok (.value (.bool (Op.bytesLess s t))) w := by
  simp [execOp, hx, hy, str, go_sem, binOp, Op.stringOp, toList_str]
theorem run_strGt (hx : ev f x = str s) (hy : ev f y = str t) : (execOp (ev f) ⟨d, .binOp .gtr T x y T', ty, pos, af, none⟩).run P w = .ok (.value (.bool (!(Op.bytesLess s t || s == t)))) w := by
  simp [execOp, hx, hy, str, go_sem, binOp, Op.stringOp, toList_str]
theorem run_strGe (hx : ev f x = str s) (hy : ev f y = str t) : (execOp (ev f) ⟨d, .binOp .geq T x y T', ty, pos, af, none⟩).run P w = .ok (.value (.bool (!(Op.bytesLess s t)))) w := by
  simp [execOp, hx, hy, str, go_sem, binOp, Op.stringOp, toList_str]
theorem run_strIdx {i : Nat} {c : UInt8} (ht : P.underlying T = some .string) (hx : ev f x = str s) (hy : ev f y = .int k i) (hi : s[i]? = some c) :
    (execOp (ev f) ⟨d, .index T x y, ty, pos, af, none⟩).run P w = .ok (.value (.int .u8 c.toNat)) w := by
  have h1 : (ByteArray.mk ⟨s⟩)[i]? = some c := by
    have hobt := List.getElem?_eq_some_iff.1 hi
    obtain ⟨hlt, he⟩ := hobt
    have hlt' : i < (ByteArray.mk ⟨s⟩).size := hlt
    rw [getElem?_pos (ByteArray.mk ⟨s⟩) i hlt']
    exact congrArg some he
  simp [execOp, hx, hy, str, Instr.index, asIntOf, run_underlying ht, h1]
theorem run_lenStr (ht : P.underlying T = some .string) (hx : ev f x = str s) :
    (execOp (ev f) ⟨d, .call { callee := .builtin .len, args := #[x], argTypes := #[T] }, ty, pos, af, none⟩).run P w = .ok (.value (.int .i64 s.length)) w := by
  have hsz : (ByteArray.mk ⟨s⟩).size = s.length := rfl
  simp [execOp, hx, str, resolve, invoke, builtin, Builtin.len_, run_underlying ht, goInt, hsz]
theorem run_sliceStr {lo hi : Nat} {xl xh : Option Operand} (ht : P.underlying T = some .string) (hx : ev f x = str s)
    (hl : match xl with | some o => ev f o = .int .i64 lo | none => lo = 0) (hh : match xh with | some o => ev f o = .int .i64 hi | none => hi = s.length) (h1 : lo ≤ hi) (h2 : hi ≤ s.length) :
    (execOp (ev f) ⟨d, .slice T x xl xh none, ty, pos, af, none⟩).run P w = .ok (.value (str ((s.take hi).drop lo))) w := by
  have hsz : (ByteArray.mk ⟨s⟩).size = s.length := rfl
  have hex : (ByteArray.mk ⟨s⟩).extract lo hi = ⟨⟨(s.take hi).drop lo⟩⟩ := by
    apply ByteArray.ext
    rw [ByteArray.data_extract]
    simp [List.drop_take]
  cases xl with
  | none =>
    simp only at hl
    subst hl
    cases xh with
    | none =>
      simp only at hh
      subst hh
      simp [execOp, hx, str, Instr.sliceAt, Instr.slice, run_underlying ht, Instr.sliceBounds, hsz, hex]
    | some o =>
      simp only at hh
      simp [execOp, hx, hh, str, Instr.sliceAt, Instr.slice, run_underlying ht, Instr.sliceBounds, Instr.sliceBound, asIntOf, hsz, hex, h2]
  | some o' =>
    simp only at hl
    cases xh with
    | none =>
      simp only at hh
      subst hh
      simp [execOp, hx, hl, str, Instr.sliceAt, Instr.slice, run_underlying ht, Instr.sliceBounds, Instr.sliceBound, asIntOf, hsz, hex, h1]
    | some o =>
      simp only at hh
      simp [execOp, hx, hl, hh, str, Instr.sliceAt, Instr.slice, run_underlying ht, Instr.sliceBounds, Instr.sliceBound, asIntOf, hsz, hex, h2, h1]
end strs

section slices
variable {E : TypeId} {ad : Option Addr} {len cap : Nat}
theorem run_lenSl (ht : P.underlying T = some (.slice E)) (hx : ev f x = .slice ad len cap) :
    (execOp (ev f) ⟨d, .call { callee := .builtin .len, args := #[x], argTypes := #[T] }, ty, pos, af, none⟩).run P w = .ok (.value (.int .i64 len)) w := by
  simp [execOp, hx, resolve, invoke, builtin, Builtin.len_, run_underlying ht, goInt]
theorem run_capSl (ht : P.underlying T = some (.slice E)) (hx : ev f x = .slice ad len cap) :
    (execOp (ev f) ⟨d, .call { callee := .builtin .cap, args := #[x], argTypes := #[T] }, ty, pos, af, none⟩).run P w = .ok (.value (.int .i64 cap)) w := by
  simp [execOp, hx, resolve, invoke, builtin, Builtin.cap_, run_underlying ht, goInt]

theorem add_off (b o n : Nat) : Addr.add ⟨b, o, none⟩ n = ⟨b, o + n, none⟩ := Addr.add_lit b o n

theorem run_sizeOf {agg : Bool} {n bytes : Nat} {zs : List Value} (hE : Ty P E agg n bytes zs) (w : World) : (sizeOf E).run P w = .ok n w := by
  have hobt := hE.info
  obtain ⟨i, z, hi, hs, _⟩ := hobt
  simp [sizeOf, typeInfo, hi, hs]

theorem run_ixSl {agg : Bool} {n bytes : Nat} {zs : List Value} {bk off : Nat} {i : Int} (ht : P.underlying T = some (.slice E)) (hE : Ty P E agg n bytes zs) (hx : ev f x = .slice (some ⟨bk, off, none⟩) len cap) (hy : ev f y = .int k i)
    (h : 0 ≤ i ∧ i < len) : (execOp (ev f) ⟨d, .indexAddr T x y, ty, pos, af, none⟩).run P w = .ok (.value (.pointer (some ⟨bk, off + i.toNat * n, none⟩))) w := by
  simp [execOp, hx, hy, Instr.indexAt, asIntOf, run_underlying ht, h, run_sizeOf hE, add_off]
theorem run_ixSlN {agg : Bool} {n bytes : Nat} {zs : List Value} {bk off i : Nat} (ht : P.underlying T = some (.slice E)) (hE : Ty P E agg n bytes zs) (hx : ev f x = .slice (some ⟨bk, off, none⟩) len cap) (hy : ev f y = .int k i)
    (h : i < len) : (execOp (ev f) ⟨d, .indexAddr T x y, ty, pos, af, none⟩).run P w = .ok (.value (.pointer (some ⟨bk, off + i * n, none⟩))) w := by
  rw [run_ixSl ht hE hx hy (by omega), Int.toNat_natCast]
theorem run_ixArrN {agg : Bool} {n bytes : Nat} {zs : List Value} {bk off m i : Nat} (ht : P.underlying T = some (.array m E)) (hE : Ty P E agg n bytes zs) (hx : ev f x = .pointer (some ⟨bk, off, none⟩)) (hy : ev f y = .int k i)
    (h : i < m) : (execOp (ev f) ⟨d, .indexAddr T x y, ty, pos, af, none⟩).run P w = .ok (.value (.pointer (some ⟨bk, off + i * n, none⟩))) w := by
  simp [execOp, hx, hy, Instr.indexAt, asIntOf, run_underlying ht, h, run_sizeOf hE, add_off, Instr.sureAddr]
theorem run_ixArr {agg : Bool} {n bytes : Nat} {zs : List Value} {bk off m : Nat} {i : Int} (ht : P.underlying T = some (.array m E)) (hE : Ty P E agg n bytes zs) (hx : ev f x = .pointer (some ⟨bk, off, none⟩)) (hy : ev f y = .int k i)
    (h : 0 ≤ i ∧ i < m) : (execOp (ev f) ⟨d, .indexAddr T x y, ty, pos, af, none⟩).run P w = .ok (.value (.pointer (some ⟨bk, off + i.toNat * n, none⟩))) w := by
  simp [execOp, hx, hy, Instr.indexAt, asIntOf, run_underlying ht, h, run_sizeOf hE, add_off, Instr.sureAddr]

/-- A slice of a slice: the bounds by number; where nothing is left behind its start the address stays. -/
def cutSl (sz bk off lo hi m : Nat) : Value := .slice (some ⟨bk, if m = lo then off else off + lo * sz, none⟩) (hi - lo) (m - lo)
def LoOk (v : Option Value) (lo : Nat) : Prop := match v with | some o => o = .int .i64 lo | none => lo = 0
def HiOk (v : Option Value) (hi len : Nat) : Prop := match v with | some o => o = .int .i64 hi | none => hi = len
theorem run_bounds {isS : Bool} {lo hi m : Nat} {vl vh vm : Option Value} (hs : vm.isSome = true → vh.isSome = true)
    (hl : LoOk vl lo) (hh : HiOk vh hi len) (hm : HiOk vm m cap)
    (h1 : lo ≤ hi) (h2 : hi ≤ m) (h3 : m ≤ cap) : (Instr.sliceBounds isS len cap vl vh vm).run P w = .ok (lo, hi, m) w := by
  cases vl <;> cases vh <;> cases vm <;> simp only [LoOk, HiOk] at hl hh hm <;>
    first
    | (exfalso; simp at hs; done)
    | (try subst hl
       try subst hh
       try subst hm
       simp [Instr.sliceBounds, Instr.sliceBound, asIntOf, *])
theorem cut_addr {bk off lo m n : Nat} : (if m = lo then (some ⟨bk, off, none⟩ : Option Addr) else Option.map (fun (x : Addr) => x.add (lo * n)) (some ⟨bk, off, none⟩)) = some ⟨bk, if m = lo then off else off + lo * n, none⟩ := by
  split <;> simp [add_off]
theorem cut_addr' {bk off lo m n : Nat} : (if m = lo then (⟨bk, off, none⟩ : Addr) else Addr.add ⟨bk, off, none⟩ (lo * n)) = ⟨bk, if m = lo then off else off + lo * n, none⟩ := by
  split <;> simp [add_off]
theorem run_sliceSl {agg : Bool} {n bytes : Nat} {zs : List Value} {bk off lo hi m : Nat} {xl xh xm : Option Operand} (ht : P.underlying T = some (.slice E)) (hE : Ty P E agg n bytes zs) (hx : ev f x = .slice (some ⟨bk, off, none⟩) len cap)
    (hl : LoOk (xl.map (ev f)) lo) (hh : HiOk (xh.map (ev f)) hi len) (hm : HiOk (xm.map (ev f)) m cap) (hs : xm.isSome = true → xh.isSome = true)
    (h1 : lo ≤ hi) (h2 : hi ≤ m) (h3 : m ≤ cap) :
    (execOp (ev f) ⟨d, .slice T x xl xh xm, ty, pos, af, none⟩).run P w = .ok (.value (cutSl n bk off lo hi m)) w := by
  have hb := run_bounds (P := P) (w := w) (isS := true) (by simpa using hs) hl hh hm h1 h2 h3
  simp only [execOp, hx, Instr.sliceAt, Instr.slice, Sem.run_bind, run_underlying ht, Result.andThen_ok, hb, run_sizeOf hE, Sem.run_pure, cutSl, cut_addr]
theorem run_sliceSl0 {agg : Bool} {n bytes : Nat} {zs : List Value} {bk off hi m : Nat} {xh xm : Option Operand} (ht : P.underlying T = some (.slice E)) (hE : Ty P E agg n bytes zs) (hx : ev f x = .slice (some ⟨bk, off, none⟩) len cap)
    (hh : HiOk (xh.map (ev f)) hi len) (hm : HiOk (xm.map (ev f)) m cap) (hs : xm.isSome = true → xh.isSome = true)
    (h2 : hi ≤ m) (h3 : m ≤ cap) :
    (execOp (ev f) ⟨d, .slice T x none xh xm, ty, pos, af, none⟩).run P w = .ok (.value (.slice (some ⟨bk, off, none⟩) hi m)) w := by
  rw [run_sliceSl (lo := 0) (xl := none) ht hE hx rfl hh hm hs (Nat.zero_le _) h2 h3]
  simp [cutSl]
theorem run_sliceSlP {agg : Bool} {n bytes : Nat} {zs : List Value} {bk off lo hi m : Nat} {o : Operand} {xh xm : Option Operand} (ht : P.underlying T = some (.slice E)) (hE : Ty P E agg n bytes zs) (hx : ev f x = .slice (some ⟨bk, off, none⟩) len cap)
    (hl : ev f o = .int .i64 lo) (hh : HiOk (xh.map (ev f)) hi len) (hm : HiOk (xm.map (ev f)) m cap) (hs : xm.isSome = true → xh.isSome = true)
    (h1 : lo ≤ hi) (h2 : hi ≤ m) (h3 : m ≤ cap) (h4 : lo ≠ m) :
    (execOp (ev f) ⟨d, .slice T x (some o) xh xm, ty, pos, af, none⟩).run P w = .ok (.value (.slice (some ⟨bk, off + lo * n, none⟩) (hi - lo) (m - lo))) w := by
  rw [run_sliceSl (lo := lo) (xl := some o) ht hE hx hl hh hm hs h1 h2 h3]
  rw [cutSl, if_neg (fun e => h4 e.symm)]
theorem run_sliceArr {agg : Bool} {n bytes : Nat} {zs : List Value} {bk off lo hi m : Nat} {xl xh : Option Operand} (ht : P.underlying T = some (.array m E)) (hE : Ty P E agg n bytes zs) (hx : ev f x = .pointer (some ⟨bk, off, none⟩))
    (hl : LoOk (xl.map (ev f)) lo) (hh : HiOk (xh.map (ev f)) hi m)
    (h1 : lo ≤ hi) (h2 : hi ≤ m) :
    (execOp (ev f) ⟨d, .slice T x xl xh none, ty, pos, af, none⟩).run P w = .ok (.value (cutSl n bk off lo hi m)) w := by
  have hb := run_bounds (P := P) (w := w) (isS := false) (len := m) (cap := m) (vl := xl.map (ev f)) (vh := xh.map (ev f)) (vm := none) (by simp) hl hh rfl h1 h2 (Nat.le_refl _)
  simp only [execOp, hx, Instr.sliceAt, Instr.sureAddr, Option.map_none, Sem.run_bind, run_underlying ht, Result.andThen_ok, hb, run_sizeOf hE, Sem.run_pure, cutSl, cut_addr']
theorem run_sliceNil {agg : Bool} {n bytes : Nat} {zs : List Value} {xl xh : Option Operand} (ht : P.underlying T = some (.slice E)) (hE : Ty P E agg n bytes zs) (hx : ev f x = .slice none 0 0)
    (hl : LoOk (xl.map (ev f)) 0) (hh : HiOk (xh.map (ev f)) 0 0) :
    (execOp (ev f) ⟨d, .slice T x xl xh none, ty, pos, af, none⟩).run P w = .ok (.value (.slice none 0 0)) w := by
  have hb := run_bounds (P := P) (w := w) (isS := true) (len := 0) (cap := 0) (lo := 0) (hi := 0) (m := 0) (vl := xl.map (ev f)) (vh := xh.map (ev f)) (vm := none) (by simp) hl hh rfl (Nat.le_refl _) (Nat.le_refl _) (Nat.le_refl _)
  simp only [execOp, hx, Instr.sliceAt, Instr.slice, Option.map_none, Sem.run_bind, run_underlying ht, Result.andThen_ok, hb, run_sizeOf hE, Sem.run_pure]
  rfl
end slices

section bools
variable {a b : Bool}
theorem run_eqlB (hT : P.underlying T = some .bool) (hx : ev f x = .bool a) (hy : ev f y = .bool b) : (execOp (ev f) ⟨d, .binOp .eql T x y T', ty, pos, af, none⟩).run P w = .ok (.value (.bool (a == b))) w := by
  have h0 : ∀ d, (Op.equalIn (d + 1) T (.bool a) (.bool b)).run P w = .ok (a == b) w := fun d => by simp [Op.equalIn, run_underlying hT]
  have h : (Op.equal T (.bool a) (.bool b)).run P w = .ok (a == b) w := h0 9999
  simp [execOp, hx, hy, eqGuard, binOp, h]
theorem run_neqB (hT : P.underlying T = some .bool) (hx : ev f x = .bool a) (hy : ev f y = .bool b) : (execOp (ev f) ⟨d, .binOp .neq T x y T', ty, pos, af, none⟩).run P w = .ok (.value (.bool (a != b))) w := by
  have h0 : ∀ d, (Op.equalIn (d + 1) T (.bool a) (.bool b)).run P w = .ok (a == b) w := fun d => by simp [Op.equalIn, run_underlying hT]
  have h : (Op.equal T (.bool a) (.bool b)).run P w = .ok (a == b) w := h0 9999
  simp [execOp, hx, hy, eqGuard, binOp, h]
  cases a <;> cases b <;> rfl
end bools

theorem run_field {bk off : Nat} {i o' : Nat} {fs : Array Field} {fd : Field} {agg : Bool} {n bytes : Nat} {zs : List Value} (ht : P.underlying T = some (.struct fs)) (hf : fs[i]? = some fd) (hE : Ty P fd.type agg n bytes zs) (hn : Nat.beq n 0 = false) (ho : fd.offset = o') (hx : ev f x = .pointer (some ⟨bk, off, none⟩)) :
    (execOp (ev f) ⟨d, .fieldAddr T x i, ty, pos, af, none⟩).run P w =   .ok (.value (.pointer (some ⟨bk, off + o', none⟩))) w := by
  subst ho
  have hn' : n ≠ 0 := fun e => by subst e; cases hn
  simp [execOp, hx, Instr.fieldAt, run_underlying ht, hf, Instr.sureAddr, fieldPlace, run_sizeOf hE, hn', add_off]

section loads
variable {agg : Bool} {n bytes : Nat} {zs : List Value}
theorem run_isAgg (hT : Ty P T agg n bytes zs) (w : World) : (isAgg T).run P w = .ok agg w := by
  have hobt := hT.und
  obtain ⟨d, hd, hm⟩ := hobt
  simp only [isAgg, Sem.run_bind, run_underlying hd, Result.andThen_ok]
  cases d <;> simp only [isAggD] at hm <;> subst hm <;> rfl

theorem run_load1 {A : Addr} {v : Value} (hT : Ty P T false n bytes zs) (hx : ev f x = .pointer (some A)) (hv : w.cell? A = some v) :
    (execOp (ev f) ⟨d, .load T x, ty, pos, af, none⟩).run P w = .ok (.value v) w := by
  simp [execOp, hx, Instr.loadAt, Instr.sureAddr, loadVar, run_isAgg hT, hv]

theorem run_loadCells_at {bk off : Nat} {cs : List Value} (h : At w bk off cs) : (loadCells ⟨bk, off, none⟩ cs.length).run P w = .ok cs.toArray w :=
  run_loadCells_list w _ cs fun j v hj => by rw [add_off]; exact h j v hj

theorem run_loadVar1 {A : Addr} {v : Value} (hT : Ty P T false n bytes zs) (hv : w.cell? A = some v) : (loadVar T A).run P w = .ok v w := by
  simp [loadVar, run_isAgg hT, hv]
theorem run_loadVarN {bk off : Nat} {cs : List Value} (hT : Ty P T true n bytes zs) (hl : cs.length = n) (h : At w bk off cs) : (loadVar T ⟨bk, off, none⟩).run P w = .ok (.agg cs.toArray) w := by
  simp only [loadVar, Sem.run_bind, run_isAgg hT, Result.andThen_ok, if_true, run_sizeOf hT, ← hl, run_loadCells_at h, Sem.run_pure]

theorem run_loadN {bk off : Nat} {cs : List Value} (hT : Ty P T true n bytes zs) (hx : ev f x = .pointer (some ⟨bk, off, none⟩)) (hl : cs.length = n) (h : At w bk off cs) :
    (execOp (ev f) ⟨d, .load T x, ty, pos, af, none⟩).run P w = .ok (.value (.agg cs.toArray)) w := by
  simp [execOp, hx, Instr.loadAt, Instr.sureAddr, run_loadVarN hT hl h]
end loads

/-- The function may be entered. -/
structure En (P : Program) (F : FuncId) : Prop where
  ok : ∃ fn, P.funcs[F]? = some fn ∧ fn.body.isNone = false ∧ (fn.name == "runtime.NumGoroutine") = false

theorem run_call {F : FuncId} {fo : Operand} {args : Array Operand} {ats : Array TypeId} {vs : List Value} (hF : En P F)
    (hx : ev f fo = .func (.func F) #[] #[]) (hv : args.toList.map (ev f) = vs) :
    (execOp (ev f) ⟨d, .call { callee := .value fo, args, argTypes := ats }, ty, pos, af, none⟩).run P w = .ok (.enter F vs.toArray) w := by
  have e : args.map (ev f) = vs.toArray := by rw [← hv]; apply Array.ext'; simp
  have hobt := hF.ok
  obtain ⟨fn, hf, hb, hn⟩ := hobt
  have hcf : ∀ vas : Array Value, (callFunc F vas).run P w = .ok (.enter F vas) w := fun vas => by
    simp only [callFunc, Sem.run_bind, run_program, Result.andThen_ok, hf, hn, hb, Bool.false_eq_true, if_false, Sem.run_pure]
  simp [execOp, resolve, hx, Deferred.ofValue, invoke, hcf, e]

theorem run_makeFunc {fnv : Fn} {first captured : Array Operand} : (execOp (ev f) ⟨d, .makeFunc fnv first captured, ty, pos, af, none⟩).run P w = .ok (.value (.func fnv (first.map (ev f)) (captured.map (ev f)))) w := by
  simp [execOp, Instr.makeFunc]
end
end Go.Gx
