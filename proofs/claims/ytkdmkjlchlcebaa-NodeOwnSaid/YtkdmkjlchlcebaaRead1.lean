/- mint's Reader: Fail, take, number, Num, Most, Bytes, Text. -/
import Derived.Test.YtkdmkjlchlcebaaRSpec
import Derived.Test.YtkdmkjlchlcebaaMint2
namespace Go.Gx
open Go.Proofs
set_option linter.unusedVariables false
set_option linter.unusedSimpArgs false
set_option maxRecDepth 100000

theorem run_sliceSlE {P : Program} {f : Slots} {w : World} {d : Option Tmp} {ty : TypeId} {pos : String} {af : Array Edge} {x : Operand} {T E : TypeId} {len cap : Nat} {agg : Bool} {n bytes : Nat} {zs : List Value} {bk off lo hi m : Nat} {xl xh xm : Option Operand} {v : Value} (ht : P.underlying T = some (.slice E)) (hE : Ty P E agg n bytes zs) (hx : ev f x = .slice (some ⟨bk, off, none⟩) len cap)
    (hl : LoOk (xl.map (ev f)) lo) (hh : HiOk (xh.map (ev f)) hi len) (hm : HiOk (xm.map (ev f)) m cap) (hs : xm.isSome = true → xh.isSome = true)
    (h1 : lo ≤ hi) (h2 : hi ≤ m) (h3 : m ≤ cap) (hv : cutSl n bk off lo hi m = v) :
    (execOp (ev f) ⟨d, .slice T x xl xh xm, ty, pos, af, none⟩).run P w = .ok (.value v) w := by
  rw [← hv]
  exact run_sliceSl ht hE hx hl hh hm hs h1 h2 h3

/-- A Reader's block, while it reads, and behind a fault. -/
def RB (b : Nat) (bv : Value) (p : Nat) : Nat × Obj := (b, blk 104 [bv, .int .i64 p, .bool false, .int .i64 0])
def RF (b : Nat) (bv : Value) (p : Nat) (e : Int) : Nat × Obj := (b, blk 104 [bv, .int .i64 p, .bool true, .int .i64 e])
def pv (b : Nat) : Value := .iface 106 (.agg #[.pointer (some ⟨b, 0, none⟩)])
def pch (b : Nat) : List PanicEntry := [{ v := pv b, recovered := false }]
/-- What the Reader reads. -/
structure RdOk (w : World) (b : Nat) (bs : List UInt8) (bv : Value) (p : Nat) : Prop where
  own : Step [b] [RB b bv p] w w
  sl : Sl w 1 bv bs.length (u8s bs)
  out : Outside bv [b]
  room : Room bv
  len : bs.length ≤ 1048576
def Thrown (b : Nat) (bv : Value) (er : Int) (w0 : World) : Ending → World → Prop := fun e w' => ∃ p, e = .panicked (pch b) ∧ Step [b] [RF b bv p er] w0 w'

theorem RdOk.next {w w' : World} {b p q : Nat} {bs : List UInt8} {bv : Value} {L : List (Nat × Obj)} (h : RdOk w b bs bv p) (hs : Step [b] (RB b bv q :: L) w w') : RdOk w' b bs bv q :=
  ⟨Step.own (L1 := [_]) hs, h.sl.step hs h.out, h.out, h.room, h.len⟩

theorem fail_none {b p : Nat} {bs : List UInt8} {bv : Value} (w0 : World) (h : RdOk w0 b bs bv p) : Calls Try.prog 48 #[.pointer (some ⟨b, 0, none⟩), .int .i64 0] w0 fun e w' => e = .returned (.tuple #[]) ∧ Step [b] [RB b bv p] w0 w' := by
  have hs := h.own
  unfold RB at hs
  refine calls (n := 23) Try.func48 rfl rfl rfl ?_
  repeat (first | refine CW.seq ?_ | refine CW.block ?_ | refine CW.skip ?_ | refine CW.label ?_ | refine CW.exit ?_ | refine CW.condT rfl ?_ | refine CW.condF rfl ?_)
  refine CW.reg ?_
  refine WL.val rfl (run_move) ?_
  refine WL.val rfl (run_nilCheck rfl) ?_
  refine WL.val rfl (run_field (o' := 2) Try.underlying104 rfl ty4 rfl rfl rfl) ?_
  refine WL.val rfl (run_load1 ty4 rfl (hs.c0 rfl)) ?_
  first | refine WL.val rfl (run_notB rfl) ?_ | refine WL.val rfl (run_not rfl) ?_
  refine WL.val rfl (run_move) ?_
  refine WL.yes rfl rfl rfl ?_
  refine WL.val rfl (run_move) ?_
  refine WL.yes rfl rfl rfl ?_
  refine WL.val rfl (run_bF (run_neq rfl rfl) (by decide)) ?_
  first | refine WL.val rfl (run_pickT rfl) ?_ | refine WL.val rfl (run_pickF rfl) ?_
  refine WL.nil ?_
  repeat (first | refine CW.seq ?_ | refine CW.block ?_ | refine CW.skip ?_ | refine CW.label ?_ | refine CW.exit ?_ | refine CW.condT rfl ?_ | refine CW.condF rfl ?_)
  refine fin_end0 rfl ?_
  exact ⟨rfl, hs⟩

theorem bld_ended (b : Nat) (w : World) : (Instr.build 106 #[(0, .pointer (some ⟨b, 0, none⟩))]).run Try.prog w = .ok (.agg #[.pointer (some ⟨b, 0, none⟩)]) w := by kernel_rfl

theorem fail_throw {b p : Nat} {bs : List UInt8} {bv : Value} {er : Int} (w0 : World) (h : RdOk w0 b bs bv p) (he : er ≠ 0) : Calls Try.prog 48 #[.pointer (some ⟨b, 0, none⟩), .int .i64 er] w0 (Thrown b bv er w0) := by
  have hs := h.own
  unfold RB at hs
  refine calls (n := 23) Try.func48 rfl rfl rfl ?_
  repeat (first | refine CW.seq ?_ | refine CW.block ?_ | refine CW.skip ?_ | refine CW.label ?_ | refine CW.exit ?_ | refine CW.condT rfl ?_ | refine CW.condF rfl ?_)
  refine CW.reg ?_
  refine WL.val rfl (run_move) ?_
  refine WL.val rfl (run_nilCheck rfl) ?_
  refine WL.val rfl (run_field (o' := 2) Try.underlying104 rfl ty4 rfl rfl rfl) ?_
  refine WL.val rfl (run_load1 ty4 rfl (hs.c0 rfl)) ?_
  first | refine WL.val rfl (run_notB rfl) ?_ | refine WL.val rfl (run_not rfl) ?_
  refine WL.val rfl (run_move) ?_
  refine WL.yes rfl rfl rfl ?_
  refine WL.val rfl (run_move) ?_
  refine WL.yes rfl rfl rfl ?_
  refine WL.val rfl (run_bT (run_neq rfl rfl) (by exact he)) ?_
  first | refine WL.val rfl (run_pickT rfl) ?_ | refine WL.val rfl (run_pickF rfl) ?_
  refine WL.nil ?_
  repeat (first | refine CW.seq ?_ | refine CW.block ?_ | refine CW.skip ?_ | refine CW.label ?_ | refine CW.exit ?_ | refine CW.condT rfl ?_ | refine CW.condF rfl ?_)
  refine CW.reg ?_
  refine WL.val rfl (run_move) ?_
  refine WL.val rfl (run_move) ?_
  refine WL.val rfl (run_move) ?_
  refine WL.val rfl (run_nilCheck rfl) ?_
  refine WL.val rfl (run_field (o' := 2) Try.underlying104 rfl ty4 rfl rfl rfl) ?_
  refine WL.store1 ty4 rfl rfl (rfl) (hs) (by first | (simp; done) | omega | (simp only [List.length_append, List.length_replicate, List.length_cons, List.length_nil, List.length_set]; omega) | (simp [Ent.cells, u8s]; done) | exact Nat.le_of_ble_eq_true rfl) (fun w hs => ?_)
  refine WL.val rfl (run_nilCheck rfl) ?_
  refine WL.val rfl (run_field (o' := 3) Try.underlying104 rfl ty25 rfl rfl rfl) ?_
  refine WL.store1 ty25 rfl rfl (rfl) (hs) (by first | (simp; done) | omega | (simp only [List.length_append, List.length_replicate, List.length_cons, List.length_nil, List.length_set]; omega) | (simp [Ent.cells, u8s]; done) | exact Nat.le_of_ble_eq_true rfl) (fun w hs => ?_)
  refine WL.nil ?_
  repeat (first | refine CW.seq ?_ | refine CW.block ?_ | refine CW.skip ?_ | refine CW.label ?_ | refine CW.exit ?_ | refine CW.condT rfl ?_ | refine CW.condF rfl ?_)
  refine CW.reg ?_
  refine WL.val rfl (run_move) ?_
  refine WL.val rfl (run_build rfl (bld_ended _ _)) ?_
  refine WL.val rfl (run_mkIface Try.underlying106 rfl) ?_
  refine WL.panic (run_panicI rfl) ?_
  exact fin_panic ⟨p, rfl, hs⟩

theorem RdOk.form {w : World} {b p : Nat} {bs : List UInt8} {bv : Value} (h : RdOk w b bs bv p) : ∃ a c, bv = .slice a bs.length c := by
  have hobt := h.sl
  obtain ⟨_, ⟨_, c, rfl, h0⟩ | ⟨bb, off, c, rfl, _⟩⟩ := hobt
  · exact ⟨_, _, by rw [h0]⟩
  · exact ⟨_, _, rfl⟩

theorem take_ok {b p k : Nat} {bs : List UInt8} {bv : Value} (w0 : World) (h : RdOk w0 b bs bv p) (hk : p + k ≤ bs.length) (hne : 0 < bs.length) : Calls Try.prog 84 #[.pointer (some ⟨b, 0, none⟩), .int .i64 k] w0 fun e w' => ∃ a c, e = .returned (.slice a k c) ∧ Sl w' 1 (.slice a k c) k (u8s ((bs.drop p).take k)) ∧ Outside (.slice a k c) [b] ∧ Step [b] [RB b bv (p + k)] w0 w' := by
  have hs := h.own
  unfold RB at hs
  have hlen := h.len
  have hobt := id h.sl
  obtain ⟨_, ⟨_, c, rfl, h0⟩ | ⟨bb, off, c, rfl, hat⟩⟩ := hobt
  · omega
  have hc : bs.length ≤ c := h.room
  have hbb : bb ∉ [b] := h.out
  have hcut : cutSl 1 bb off p (p + k) c = .slice (some ⟨bb, if c = p then off else off + p * 1, none⟩) k (c - p) := by
    rw [cutSl, show p + k - p = k by omega]
  refine calls (n := 44) Try.func84 rfl rfl rfl ?_
  repeat (first | refine CW.seq ?_ | refine CW.block ?_ | refine CW.skip ?_ | refine CW.label ?_ | refine CW.exit ?_ | refine CW.condT rfl ?_ | refine CW.condF rfl ?_)
  refine CW.reg ?_
  refine WL.val rfl (run_assign) ?_
  refine WL.nil ?_
  repeat (first | refine CW.seq ?_ | refine CW.block ?_ | refine CW.skip ?_ | refine CW.label ?_ | refine CW.exit ?_ | refine CW.condT rfl ?_ | refine CW.condF rfl ?_)
  refine CW.quiet mixedP (by kernel_rfl) hs ?_
  refine QL.val rfl (fun w hs => run_move) ?_
  refine QL.val rfl (fun w hs => run_move) ?_
  refine QL.val rfl (fun w hs => run_nilCheck rfl) ?_
  refine QL.val rfl (fun w hs => run_field (o' := 0) Try.underlying104 rfl ty29 rfl rfl rfl) ?_
  refine QL.val rfl (fun w hs => run_load1 ty29 rfl (hs.c0 rfl)) ?_
  refine QL.val rfl (fun w hs => run_lenSl Try.underlying29 rfl) ?_
  refine QL.val rfl (fun w hs => run_move) ?_
  refine QL.val rfl (fun w hs => run_nilCheck rfl) ?_
  refine QL.val rfl (fun w hs => run_field (o' := 1) Try.underlying104 rfl ty3 rfl rfl rfl) ?_
  refine QL.val rfl (fun w hs => run_load1 ty3 rfl (hs.c0 rfl)) ?_
  refine QL.val rfl (fun w hs => run_sub rfl rfl rfl (by omega)) ?_
  refine QL.val rfl (fun w hs => run_bF (run_gtr rfl rfl) (by omega)) ?_
  refine QL.nil (fun w hs => ?_)
  repeat (first | refine CW.seq ?_ | refine CW.block ?_ | refine CW.skip ?_ | refine CW.label ?_ | refine CW.exit ?_ | refine CW.condT rfl ?_ | refine CW.condF rfl ?_)
  refine CW.quiet mixedP (by kernel_rfl) hs ?_
  refine QL.val rfl (fun w hs => run_move) ?_
  refine QL.val rfl (fun w hs => run_nilCheck rfl) ?_
  refine QL.val rfl (fun w hs => run_field (o' := 0) Try.underlying104 rfl ty29 rfl rfl rfl) ?_
  refine QL.val rfl (fun w hs => run_load1 ty29 rfl (hs.c0 rfl)) ?_
  refine QL.val rfl (fun w hs => run_move) ?_
  refine QL.val rfl (fun w hs => run_nilCheck rfl) ?_
  refine QL.val rfl (fun w hs => run_field (o' := 1) Try.underlying104 rfl ty3 rfl rfl rfl) ?_
  refine QL.val rfl (fun w hs => run_load1 ty3 rfl (hs.c0 rfl)) ?_
  refine QL.val rfl (fun w hs => run_move) ?_
  refine QL.val rfl (fun w hs => run_nilCheck rfl) ?_
  refine QL.val rfl (fun w hs => run_field (o' := 1) Try.underlying104 rfl ty3 rfl rfl rfl) ?_
  refine QL.val rfl (fun w hs => run_load1 ty3 rfl (hs.c0 rfl)) ?_
  refine QL.val rfl (fun w hs => run_move) ?_
  refine QL.val rfl (fun w hs => run_add (c := ((p + k : Nat) : Int)) rfl rfl (by omega) (by omega)) ?_
  refine QL.val rfl (fun w hs => run_sliceSlE (lo := p) (hi := p + k) (m := c) Try.underlying29 ty5 rfl rfl rfl rfl (by simp) (by omega) (by omega) (by omega) hcut) ?_
  refine QL.val rfl (fun w hs => run_assign) ?_
  refine QL.nil (fun w hs => ?_)
  repeat (first | refine CW.seq ?_ | refine CW.block ?_ | refine CW.skip ?_ | refine CW.label ?_ | refine CW.exit ?_ | refine CW.condT rfl ?_ | refine CW.condF rfl ?_)
  refine CW.reg ?_
  refine WL.val rfl (run_move) ?_
  refine WL.val rfl (run_nilCheck rfl) ?_
  refine WL.val rfl (run_field (o' := 1) Try.underlying104 rfl ty3 rfl rfl rfl) ?_
  refine WL.val rfl (run_load1 ty3 rfl (hs.c0 rfl)) ?_
  refine WL.val rfl (run_move) ?_
  refine WL.val rfl (run_add (c := ((p + k : Nat) : Int)) rfl rfl (by omega) (by omega)) ?_
  refine WL.val rfl (run_nilCheck rfl) ?_
  refine WL.val rfl (run_field (o' := 1) Try.underlying104 rfl ty3 rfl rfl rfl) ?_
  refine WL.store1 ty3 rfl rfl (rfl) (hs) (by first | (simp; done) | omega | (simp only [List.length_append, List.length_replicate, List.length_cons, List.length_nil, List.length_set]; omega) | (simp [Ent.cells, u8s]; done) | exact Nat.le_of_ble_eq_true rfl) (fun w hs => ?_)
  refine WL.nil ?_
  repeat (first | refine CW.seq ?_ | refine CW.block ?_ | refine CW.skip ?_ | refine CW.label ?_ | refine CW.exit ?_ | refine CW.condT rfl ?_ | refine CW.condF rfl ?_)
  refine CW.reg ?_
  refine WL.val rfl (run_move) ?_
  refine WL.val rfl (run_assign) ?_
  refine WL.nil ?_
  repeat (first | refine CW.seq ?_ | refine CW.block ?_ | refine CW.skip ?_ | refine CW.label ?_ | refine CW.exit ?_ | refine CW.condT rfl ?_ | refine CW.condF rfl ?_)
  refine CW.ret ?_
  refine fin_ret1 rfl ?_
  refine ⟨_, _, rfl, ?_, hbb, hs⟩
  refine .mk (by simp [u8s]; omega) ?_
  have hat' := hat.step hs hbb
  split
  · rename_i hm
    obtain rfl : k = 0 := by omega
    exact At.nil
  · have := (hat'.drop p).take k
    rw [Nat.mul_one]
    simpa [u8s, List.map_drop, List.map_take] using this

theorem take_err {b p k : Nat} {bs : List UInt8} {bv : Value} (w0 : World) (h : RdOk w0 b bs bv p) (hp : p ≤ bs.length) (hk : bs.length < p + k) (hkb : k ≤ 9223372036854775807) : Calls Try.prog 84 #[.pointer (some ⟨b, 0, none⟩), .int .i64 k] w0 (Thrown b bv 11 w0) := by
  have hobt := h.form
  obtain ⟨a, c, rfl⟩ := hobt
  have hs := h.own
  unfold RB at hs
  have hlen := h.len
  refine calls (n := 44) Try.func84 rfl rfl rfl ?_
  repeat (first | refine CW.seq ?_ | refine CW.block ?_ | refine CW.skip ?_ | refine CW.label ?_ | refine CW.exit ?_ | refine CW.condT rfl ?_ | refine CW.condF rfl ?_)
  refine CW.reg ?_
  refine WL.val rfl (run_assign) ?_
  refine WL.nil ?_
  repeat (first | refine CW.seq ?_ | refine CW.block ?_ | refine CW.skip ?_ | refine CW.label ?_ | refine CW.exit ?_ | refine CW.condT rfl ?_ | refine CW.condF rfl ?_)
  refine CW.quiet mixedP (by kernel_rfl) hs ?_
  refine QL.val rfl (fun w hs => run_move) ?_
  refine QL.val rfl (fun w hs => run_move) ?_
  refine QL.val rfl (fun w hs => run_nilCheck rfl) ?_
  refine QL.val rfl (fun w hs => run_field (o' := 0) Try.underlying104 rfl ty29 rfl rfl rfl) ?_
  refine QL.val rfl (fun w hs => run_load1 ty29 rfl (hs.c0 rfl)) ?_
  refine QL.val rfl (fun w hs => run_lenSl Try.underlying29 rfl) ?_
  refine QL.val rfl (fun w hs => run_move) ?_
  refine QL.val rfl (fun w hs => run_nilCheck rfl) ?_
  refine QL.val rfl (fun w hs => run_field (o' := 1) Try.underlying104 rfl ty3 rfl rfl rfl) ?_
  refine QL.val rfl (fun w hs => run_load1 ty3 rfl (hs.c0 rfl)) ?_
  refine QL.val rfl (fun w hs => run_sub rfl rfl rfl (by omega)) ?_
  refine QL.val rfl (fun w hs => run_bT (run_gtr rfl rfl) (by omega)) ?_
  refine QL.nil (fun w hs => ?_)
  repeat (first | refine CW.seq ?_ | refine CW.block ?_ | refine CW.skip ?_ | refine CW.label ?_ | refine CW.exit ?_ | refine CW.condT rfl ?_ | refine CW.condF rfl ?_)
  refine CW.reg ?_
  refine WL.val rfl (run_move) ?_
  refine WL.enterX (run_call en48 rfl rfl) (fail_throw (bs := bs) (er := 11) _ (h.next hs) (by decide)) ?_
  rintro e w ⟨p', rfl, hq⟩
  refine ⟨_, rfl, ?_⟩
  exact fin_panic ⟨p', rfl, Step.call (L1 := [RB b _ p]) hs hq⟩

theorem getD_of {bs : List UInt8} {p : Nat} (h : p < bs.length) : bs.getD p 0 = bs[p] := by simp [h]
theorem cell_u8 {w : World} {a : Option Addr} {n c i : Nat} {s : List UInt8} (h : Sl w 1 (.slice a n c) n (u8s s)) (hi : i < s.length) : ∃ bk off, a = some ⟨bk, off, none⟩ ∧ w.cell? ⟨bk, off + i * 1, none⟩ = some (.int .u8 (s[i]).toNat) := by
  obtain ⟨hl, ⟨_, c1, h1, h0⟩ | ⟨bk, off, c1, h1, hat⟩⟩ := h
  · rw [u8s_len, h0] at hl
    omega
  · cases h1
    exact ⟨bk, off, rfl, by rw [Nat.mul_one]; exact hat.cell (by simp [u8s, hi])⟩

section
variable {P : Program} {f : Slots} {w : World} {d : Option Tmp} {ty : TypeId} {pos : String} {af : Array Edge} {x y : Operand} {T T' : TypeId}
theorem wrap_u64 {a : Nat} (h : a < 18446744073709551616) : IntKind.u64.wrap (a : Int) = a := by
  have e : (2 : Int) ^ IntKind.u64.bits = 18446744073709551616 := by decide
  simp only [IntKind.wrap, IntKind.signed, Bool.false_and, Bool.false_eq_true, if_false, e]
  omega
theorem run_shl8 {a : Nat} {k : IntKind} (hx : ev f x = .int .u64 a) (hy : ev f y = .int k 8) (ha : a < 72057594037927936) :
    (execOp (ev f) ⟨d, .binOp .shl T x y T', ty, pos, af, none⟩).run P w = .ok (.value (.int .u64 (a * 256 : Nat))) w := by
  rw [run_shl hx hy (by decide)]
  have e : (2 : Int) ^ min (8 : Int).toNat IntKind.u64.bits = 256 := by decide
  rw [e, show (a : Int) * 256 = ((a * 256 : Nat) : Int) by simp, wrap_u64 (by omega)]
theorem run_orB {a c : Nat} (hx : ev f x = .int .u64 (a * 256 : Nat)) (hy : ev f y = .int .u64 c) (ha : a < 72057594037927936) (hc : c < 256) :
    (execOp (ev f) ⟨d, .binOp .or T x y T', ty, pos, af, none⟩).run P w = .ok (.value (.int .u64 (a * 256 + c : Nat))) w := by
  have e1 : (BitVec.ofInt IntKind.u64.bits ((a * 256 : Nat) : Int) ||| BitVec.ofInt IntKind.u64.bits (c : Int)).toNat = a * 256 + c := by
    rw [BitVec.ofInt_natCast, BitVec.ofInt_natCast, BitVec.toNat_or, BitVec.toNat_ofNat, BitVec.toNat_ofNat]
    have h64 : 2 ^ IntKind.u64.bits = 18446744073709551616 := by decide
    rw [h64, Nat.mod_eq_of_lt (by omega), Nat.mod_eq_of_lt (by omega)]
    have := Nat.two_pow_add_eq_or_of_lt (b := c) (i := 8) (by omega) a
    rw [Nat.mul_comm a 256]
    exact this.symm
  simp only [execOp, hx, hy, Sem.run_bind]
  have hg : (eqGuard .or T x y (.int .u64 (a * 256 : Nat)) (.int .u64 c)).run P w = .ok () w := by simp [eqGuard]
  simp only [hg, Result.andThen_ok, binOp, Op.intBits, e1]
  rw [wrap_u64 (by omega)]
  simp
end

def NumR (b : Nat) (bv : Value) (w0 : World) (k : Nat → Value) : Except Int (Nat × Nat) → Ending → World → Prop
  | .ok (u, q), e, w' => e = .returned (k u) ∧ Step [b] [RB b bv q] w0 w'
  | .error er, e, w' => Thrown b bv er w0 e w'

theorem NumR.ok {b : Nat} {bv : Value} {w0 w' : World} {k : Nat → Value} {e : Ending} {r : Except Int (Nat × Nat)} {u q : Nat} (hr : r = .ok (u, q)) (he : e = .returned (k u)) (hs : Step [b] [RB b bv q] w0 w') : NumR b bv w0 k r e w' := by subst hr; exact ⟨he, hs⟩
theorem NumR.err {b : Nat} {bv : Value} {w0 w' : World} {k : Nat → Value} {ed : Ending} {r : Except Int (Nat × Nat)} {er : Int} (hr : r = .error er) (h : Thrown b bv er w0 ed w') : NumR b bv w0 k r ed w' := by subst hr; exact h
theorem Thrown.on {b p : Nat} {bv : Value} {er : Int} {w0 w w' : World} {L : List (Nat × Obj)} {e : Ending} (hs : Step [b] (RB b bv p :: L) w0 w) (h : Thrown b bv er w e w') : Thrown b bv er w0 e w' := by
  obtain ⟨p', he, h⟩ := h
  exact ⟨p', he, (Step.call (L1 := [RB b bv p]) (L := L) hs h).dropR⟩

theorem number_spec {b p : Nat} {bs : List UInt8} {bv : Value} (w0 : World) (h : RdOk w0 b bs bv p) (hpl : p ≤ bs.length) : Calls Try.prog 69 #[.pointer (some ⟨b, 0, none⟩)] w0 (NumR b bv w0 (fun u => .int .u64 u) (numberP bs p)) := by
  have hs := h.own
  have hlen := h.len
  by_cases hp : bs.length ≤ p
  · have e : numberP bs p = .error 11 := by unfold numberP; rw [if_pos hp]
    refine calls (n := 48) Try.func69 rfl rfl rfl ?_
    repeat (first | refine CW.seq ?_ | refine CW.block ?_ | refine CW.skip ?_ | refine CW.label ?_ | refine CW.exit ?_ | refine CW.condT rfl ?_ | refine CW.condF rfl ?_)
    refine CW.reg ?_
    refine WL.val rfl (run_assign) ?_
    refine WL.nil ?_
    repeat (first | refine CW.seq ?_ | refine CW.block ?_ | refine CW.skip ?_ | refine CW.label ?_ | refine CW.exit ?_ | refine CW.condT rfl ?_ | refine CW.condF rfl ?_)
    refine CW.reg ?_
    refine WL.val rfl (run_move) ?_
    refine WL.enterX (run_call en84 rfl rfl) (take_err (bs := bs) (k := 1) _ h hpl (by omega) (by omega)) ?_
    rintro e w ⟨p', rfl, hq⟩
    refine ⟨_, rfl, ?_⟩
    exact fin_panic (.err e ⟨p', rfl, hq⟩)
  · have hp' : p < bs.length := by omega
    have hg := getD_of hp'
    have hcl := (bs[p]).toNat_lt
    have hd1 : (bs.drop p).take 1 = [bs[p]] := by rw [List.drop_eq_getElem_cons hp']; rfl
    by_cases hc : (bs[p]).toNat < 248
    · have e : numberP bs p = .ok ((bs[p]).toNat, p + 1) := by unfold numberP; rw [if_neg hp, hg, if_pos hc]
      refine calls (n := 48) Try.func69 rfl rfl rfl ?_
      repeat (first | refine CW.seq ?_ | refine CW.block ?_ | refine CW.skip ?_ | refine CW.label ?_ | refine CW.exit ?_ | refine CW.condT rfl ?_ | refine CW.condF rfl ?_)
      refine CW.reg ?_
      refine WL.val rfl (run_assign) ?_
      refine WL.nil ?_
      repeat (first | refine CW.seq ?_ | refine CW.block ?_ | refine CW.skip ?_ | refine CW.label ?_ | refine CW.exit ?_ | refine CW.condT rfl ?_ | refine CW.condF rfl ?_)
      refine CW.reg ?_
      refine WL.val rfl (run_move) ?_
      refine WL.enter rfl (run_call en84 rfl rfl) (take_ok (bs := bs) (k := 1) _ h (by omega) (by omega)) ?_
      rintro e w ⟨a, c, rfl, hsl, ho, hq⟩
      refine ⟨_, rfl, ?_⟩
      refine WL.val rfl (run_assign) ?_
      refine WL.nil ?_
      rw [hd1] at hsl
      have hobt := cell_u8 (i := 0) hsl (by simp)
      obtain ⟨bk, off, rfl, hcell⟩ := hobt
      simp only [List.getElem_cons_zero] at hcell
      repeat (first | refine CW.seq ?_ | refine CW.block ?_ | refine CW.skip ?_ | refine CW.label ?_ | refine CW.exit ?_ | refine CW.condT rfl ?_ | refine CW.condF rfl ?_)
      refine CW.reg ?_
      refine WL.val rfl (run_move) ?_
      refine WL.val rfl (run_ixSlN (i := 0) Try.underlying29 ty5 rfl rfl (by omega)) ?_
      refine WL.val rfl (run_load1 ty5 rfl (hcell)) ?_
      refine WL.val rfl (run_bT (run_lss rfl rfl) (by omega)) ?_
      refine WL.nil ?_
      repeat (first | refine CW.seq ?_ | refine CW.block ?_ | refine CW.skip ?_ | refine CW.label ?_ | refine CW.exit ?_ | refine CW.condT rfl ?_ | refine CW.condF rfl ?_)
      refine CW.reg ?_
      refine WL.val rfl (run_move) ?_
      refine WL.val rfl (run_ixSlN (i := 0) Try.underlying29 ty5 rfl rfl (by omega)) ?_
      refine WL.val rfl (run_load1 ty5 rfl (hcell)) ?_
      first | refine WL.val rfl (run_convU64 Try.underlying5 Try.underlying101 rfl (by omega)) ?_ | refine WL.val rfl (run_convInt Try.underlying5 Try.underlying101 rfl) ?_
      refine WL.val rfl (run_assign) ?_
      refine WL.nil ?_
      repeat (first | refine CW.seq ?_ | refine CW.block ?_ | refine CW.skip ?_ | refine CW.label ?_ | refine CW.exit ?_ | refine CW.condT rfl ?_ | refine CW.condF rfl ?_)
      refine CW.ret ?_
      refine fin_ret1 rfl ?_
      exact .ok e rfl hq
    · have hobt : ∃ k, (bs[p]).toNat - 247 = k := ⟨_, rfl⟩
      obtain ⟨k, hk⟩ := hobt
      have hk1 : 1 ≤ k ∧ k ≤ 8 := by omega
      by_cases hk2 : bs.length < p + 1 + k
      · have e : numberP bs p = .error 11 := by unfold numberP; rw [if_neg hp, hg, if_neg hc, hk, if_pos hk2]
        refine calls (n := 48) Try.func69 rfl rfl rfl ?_
        repeat (first | refine CW.seq ?_ | refine CW.block ?_ | refine CW.skip ?_ | refine CW.label ?_ | refine CW.exit ?_ | refine CW.condT rfl ?_ | refine CW.condF rfl ?_)
        refine CW.reg ?_
        refine WL.val rfl (run_assign) ?_
        refine WL.nil ?_
        repeat (first | refine CW.seq ?_ | refine CW.block ?_ | refine CW.skip ?_ | refine CW.label ?_ | refine CW.exit ?_ | refine CW.condT rfl ?_ | refine CW.condF rfl ?_)
        refine CW.reg ?_
        refine WL.val rfl (run_move) ?_
        refine WL.enter rfl (run_call en84 rfl rfl) (take_ok (bs := bs) (k := 1) _ h (by omega) (by omega)) ?_
        rintro e w ⟨a, c, rfl, hsl, ho, hq⟩
        refine ⟨_, rfl, ?_⟩
        refine WL.val rfl (run_assign) ?_
        refine WL.nil ?_
        rw [hd1] at hsl
        have hobt := cell_u8 (i := 0) hsl (by simp)
        obtain ⟨bk, off, rfl, hcell⟩ := hobt
        simp only [List.getElem_cons_zero] at hcell
        repeat (first | refine CW.seq ?_ | refine CW.block ?_ | refine CW.skip ?_ | refine CW.label ?_ | refine CW.exit ?_ | refine CW.condT rfl ?_ | refine CW.condF rfl ?_)
        refine CW.reg ?_
        refine WL.val rfl (run_move) ?_
        refine WL.val rfl (run_ixSlN (i := 0) Try.underlying29 ty5 rfl rfl (by omega)) ?_
        refine WL.val rfl (run_load1 ty5 rfl (hcell)) ?_
        refine WL.val rfl (run_bF (run_lss rfl rfl) (by omega)) ?_
        refine WL.nil ?_
        repeat (first | refine CW.seq ?_ | refine CW.block ?_ | refine CW.skip ?_ | refine CW.label ?_ | refine CW.exit ?_ | refine CW.condT rfl ?_ | refine CW.condF rfl ?_)
        refine CW.reg ?_
        refine WL.val rfl (run_move) ?_
        refine WL.val rfl (run_move) ?_
        refine WL.val rfl (run_ixSlN (i := 0) Try.underlying29 ty5 rfl rfl (by omega)) ?_
        refine WL.val rfl (run_load1 ty5 rfl (hcell)) ?_
        first | refine WL.val rfl (run_convI64 Try.underlying5 Try.underlying3 rfl (by omega)) ?_ | refine WL.val rfl (run_convInt Try.underlying5 Try.underlying3 rfl) ?_
        refine WL.val rfl (run_sub (c := (k : Int)) rfl rfl (by omega) (by omega)) ?_
        refine WL.enterX (run_call en84 rfl rfl) (take_err (bs := bs) (k := k) _ (h.next hq) (by omega) (by omega) (by omega)) ?_
        rintro e w ⟨p', rfl, hq2⟩
        refine ⟨_, rfl, ?_⟩
        exact fin_panic (.err e (.on hq ⟨p', rfl, hq2⟩))
      · have hobt : ∃ r, (bs.drop (p + 1)).take k = r := ⟨_, rfl⟩
        obtain ⟨r, hr⟩ := hobt
        have hrl : r.length = k := by rw [← hr]; simp; omega
        have hg1 : bs.getD (p + 1) 0 = r[0] := by
          rw [getD_of (by omega)]
          simp [← hr]
        have hnum : numberP bs p = if r[0] = 0 ∨ beVal r < 248 then .error 12 else .ok (beVal r, p + 1 + k) := by
          unfold numberP
          rw [if_neg hp, hg, if_neg hc, hk, if_neg hk2, hr, hg1]
        refine calls (n := 48) Try.func69 rfl rfl rfl ?_
        repeat (first | refine CW.seq ?_ | refine CW.block ?_ | refine CW.skip ?_ | refine CW.label ?_ | refine CW.exit ?_ | refine CW.condT rfl ?_ | refine CW.condF rfl ?_)
        refine CW.reg ?_
        refine WL.val rfl (run_assign) ?_
        refine WL.nil ?_
        repeat (first | refine CW.seq ?_ | refine CW.block ?_ | refine CW.skip ?_ | refine CW.label ?_ | refine CW.exit ?_ | refine CW.condT rfl ?_ | refine CW.condF rfl ?_)
        refine CW.reg ?_
        refine WL.val rfl (run_move) ?_
        refine WL.enter rfl (run_call en84 rfl rfl) (take_ok (bs := bs) (k := 1) _ h (by omega) (by omega)) ?_
        rintro e w ⟨a, c, rfl, hsl, ho, hq⟩
        refine ⟨_, rfl, ?_⟩
        refine WL.val rfl (run_assign) ?_
        refine WL.nil ?_
        rw [hd1] at hsl
        have hobt := cell_u8 (i := 0) hsl (by simp)
        obtain ⟨bk, off, rfl, hcell⟩ := hobt
        simp only [List.getElem_cons_zero] at hcell
        repeat (first | refine CW.seq ?_ | refine CW.block ?_ | refine CW.skip ?_ | refine CW.label ?_ | refine CW.exit ?_ | refine CW.condT rfl ?_ | refine CW.condF rfl ?_)
        refine CW.reg ?_
        refine WL.val rfl (run_move) ?_
        refine WL.val rfl (run_ixSlN (i := 0) Try.underlying29 ty5 rfl rfl (by omega)) ?_
        refine WL.val rfl (run_load1 ty5 rfl (hcell)) ?_
        refine WL.val rfl (run_bF (run_lss rfl rfl) (by omega)) ?_
        refine WL.nil ?_
        repeat (first | refine CW.seq ?_ | refine CW.block ?_ | refine CW.skip ?_ | refine CW.label ?_ | refine CW.exit ?_ | refine CW.condT rfl ?_ | refine CW.condF rfl ?_)
        refine CW.reg ?_
        refine WL.val rfl (run_move) ?_
        refine WL.val rfl (run_move) ?_
        refine WL.val rfl (run_ixSlN (i := 0) Try.underlying29 ty5 rfl rfl (by omega)) ?_
        refine WL.val rfl (run_load1 ty5 rfl (hcell)) ?_
        first | refine WL.val rfl (run_convI64 Try.underlying5 Try.underlying3 rfl (by omega)) ?_ | refine WL.val rfl (run_convInt Try.underlying5 Try.underlying3 rfl) ?_
        refine WL.val rfl (run_sub (c := (k : Int)) rfl rfl (by omega) (by omega)) ?_
        refine WL.enter rfl (run_call en84 rfl rfl) (take_ok (bs := bs) (k := k) _ (h.next hq) (by omega) (by omega)) ?_
        rintro e w ⟨a2, c2, rfl, hsl2, ho2, hq2⟩
        refine ⟨_, rfl, ?_⟩
        refine WL.val rfl (run_assign) ?_
        refine WL.nil ?_
        rw [hr] at hsl2
        have hq3 := Step.call (L1 := [RB b bv (p + 1)]) (L := []) hq hq2
        have hsl3 : Sl w 1 (.slice a2 k c2) k (u8s r) := hsl2
        have hobt := cell_u8 (i := 0) hsl3 (by omega)
        obtain ⟨bk2, off2, rfl, hcell2⟩ := hobt
        repeat (first | refine CW.seq ?_ | refine CW.block ?_ | refine CW.skip ?_ | refine CW.label ?_ | refine CW.exit ?_ | refine CW.condT rfl ?_ | refine CW.condF rfl ?_)
        refine CW.reg ?_
        refine WL.val rfl (run_assign) ?_
        refine WL.nil ?_
        repeat (first | refine CW.seq ?_ | refine CW.block ?_ | refine CW.skip ?_ | refine CW.label ?_ | refine CW.exit ?_ | refine CW.condT rfl ?_ | refine CW.condF rfl ?_)
        refine CW.reg ?_
        refine WL.val rfl (run_move) ?_
        refine WL.val rfl (run_lenSl Try.underlying29 rfl) ?_
        refine WL.val rfl (run_move) ?_
        refine WL.nil ?_
        have hq4 := hq3
        rename_i wX
        repeat (first | refine CW.seq ?_ | refine CW.block ?_ | refine CW.skip ?_ | refine CW.label ?_ | refine CW.exit ?_ | refine CW.condT rfl ?_ | refine CW.condF rfl ?_)
        refine CW.loop (fun m f w' => ∃ i, i ≤ k ∧ m = k - i ∧ w = w' ∧ Holds f [(0, .pointer (some ⟨b, 0, none⟩)), (4, .slice (some ⟨bk2, off2, none⟩) k c2), (5, .int .u64 (beVal (r.take i) : Nat)), (25, .slice (some ⟨bk2, off2, none⟩) k c2), (26, .int .i64 k), (27, .int .i64 i)]) (m := k) ?_ ?_
        · exact ⟨0, by omega, by omega, rfl, rfl, rfl, rfl, rfl, rfl, rfl, trivial⟩
        · rintro m f w ⟨i, hi, rfl, rfl, hf⟩
          have hobt := hf.chain
          obtain ⟨g, rfl⟩ := hobt
          repeat (first | refine CW.seq ?_ | refine CW.block ?_ | refine CW.skip ?_ | refine CW.label ?_ | refine CW.exit ?_ | refine CW.condT rfl ?_ | refine CW.condF rfl ?_)
          refine CW.reg ?_
          refine WL.val rfl (run_lss rfl rfl) ?_
          refine WL.nil ?_
          repeat (first | refine CW.seq ?_ | refine CW.block ?_ | refine CW.skip ?_ | refine CW.label ?_ | refine CW.exit ?_)
          first | refine CW.condP rfl (fun hlt => ?_) (fun hlt => ?_) | refine CW.cond rfl (fun hlt => ?_) (fun hlt => ?_)
          · have hlt' : i < r.length := by omega
            have hb1 := beVal_lt (r.take i)
            have hb2 : 256 ^ (r.take i).length ≤ 256 ^ 7 := Nat.pow_le_pow_right (by decide) (by rw [List.length_take]; omega)
            have h7 : (256 : Nat) ^ 7 = 72057594037927936 := by decide
            have hcl2 := (r[i]).toNat_lt
            have hobt := cell_u8 (i := i) hsl3 hlt'
            obtain ⟨bk3, off3, hb3, hcell3⟩ := hobt
            obtain ⟨rfl, rfl⟩ : bk2 = bk3 ∧ off2 = off3 := by cases hb3; exact ⟨rfl, rfl⟩
            repeat (first | refine CW.seq ?_ | refine CW.block ?_ | refine CW.skip ?_ | refine CW.label ?_ | refine CW.exit ?_ | refine CW.condT rfl ?_ | refine CW.condF rfl ?_)
            refine CW.reg ?_
            first | refine WL.val rfl (run_ixSlN Try.underlying29 ty5 rfl rfl (by omega)) ?_ | refine WL.val rfl (run_ixSl Try.underlying29 ty5 rfl rfl (by omega)) ?_
            refine WL.val rfl (run_load1 ty5 rfl (hcell3)) ?_
            refine WL.val rfl (run_assign) ?_
            refine WL.nil ?_
            repeat (first | refine CW.seq ?_ | refine CW.block ?_ | refine CW.skip ?_ | refine CW.label ?_ | refine CW.exit ?_ | refine CW.condT rfl ?_ | refine CW.condF rfl ?_)
            refine CW.reg ?_
            refine WL.val rfl (run_move) ?_
            refine WL.val rfl (run_shl8 rfl rfl (by omega)) ?_
            refine WL.val rfl (run_move) ?_
            first | refine WL.val rfl (run_convU64 Try.underlying5 Try.underlying101 rfl (by omega)) ?_ | refine WL.val rfl (run_convInt Try.underlying5 Try.underlying101 rfl) ?_
            refine WL.val rfl (run_orB rfl rfl (by omega) (by omega)) ?_
            refine WL.val rfl (run_assign) ?_
            refine WL.nil ?_
            repeat (first | refine CW.seq ?_ | refine CW.block ?_ | refine CW.skip ?_ | refine CW.label ?_ | refine CW.exit ?_ | refine CW.condT rfl ?_ | refine CW.condF rfl ?_)
            refine CW.reg ?_
            refine WL.val rfl (run_add (c := ((i + 1 : Nat) : Int)) rfl rfl (by omega) (by omega)) ?_
            refine WL.val rfl (run_move) ?_
            refine WL.nil ?_
            repeat (first | refine CW.seq ?_ | refine CW.block ?_ | refine CW.skip ?_ | refine CW.label ?_ | refine CW.exit ?_)
            refine (show _ ∧ _ from ⟨rfl, _, ?_, i + 1, by omega, rfl, rfl, rfl, rfl, ?_, rfl, rfl, rfl, trivial⟩)
            · omega
            · rw [List.take_succ_eq_append_getElem hlt', beVal_append]
              rfl
          · obtain rfl : i = k := by omega
            have htk : r.take i = r := List.take_of_length_le (by omega)
            rw [htk]
            have hbl := beVal_lt r
            have hbl2 : 256 ^ r.length ≤ 256 ^ 8 := Nat.pow_le_pow_right (by decide) (by omega)
            have h8 : (256 : Nat) ^ 8 = 18446744073709551616 := by decide
            by_cases hr0 : r[0] = 0
            · repeat (first | refine CW.seq ?_ | refine CW.block ?_ | refine CW.skip ?_ | refine CW.label ?_ | refine CW.exit ?_ | refine CW.condT rfl ?_ | refine CW.condF rfl ?_)
              refine CW.reg ?_
              refine WL.val rfl (run_move) ?_
              refine WL.val rfl (run_ixSlN (i := 0) Try.underlying29 ty5 rfl rfl (by omega)) ?_
              refine WL.val rfl (run_load1 ty5 rfl (hcell2)) ?_
              refine WL.val rfl (run_bT (run_eql rfl rfl) (by rw [hr0]; rfl)) ?_
              refine WL.val rfl (run_move) ?_
              first | refine WL.no rfl rfl rfl (.inl rfl) ?_ | refine WL.no rfl rfl rfl (.inr rfl) ?_
              first | refine WL.no rfl rfl rfl (.inl rfl) ?_ | refine WL.no rfl rfl rfl (.inr rfl) ?_
              first | refine WL.val rfl (run_pickT rfl) ?_ | refine WL.val rfl (run_pickF rfl) ?_
              refine WL.nil ?_
              have e : numberP bs p = .error 12 := by rw [hnum, if_pos (.inl hr0)]
              repeat (first | refine CW.seq ?_ | refine CW.block ?_ | refine CW.skip ?_ | refine CW.label ?_ | refine CW.exit ?_ | refine CW.condT rfl ?_ | refine CW.condF rfl ?_)
              refine CW.reg ?_
              refine WL.val rfl (run_move) ?_
              refine WL.enterX (run_call en48 rfl rfl) (fail_throw (bs := bs) (er := 12) _ (h.next hq3) (by decide)) ?_
              rintro e w ⟨p', rfl, hq5⟩
              refine ⟨_, rfl, ?_⟩
              exact fin_panic (.err e (.on hq3 ⟨p', rfl, hq5⟩))
            · have hr0' : ¬ ((r[0].toNat : Int) = 0) := fun h => hr0 (UInt8.toNat_inj.1 (by simpa using h))
              by_cases hu : beVal r < 248
              · repeat (first | refine CW.seq ?_ | refine CW.block ?_ | refine CW.skip ?_ | refine CW.label ?_ | refine CW.exit ?_ | refine CW.condT rfl ?_ | refine CW.condF rfl ?_)
                refine CW.reg ?_
                refine WL.val rfl (run_move) ?_
                refine WL.val rfl (run_ixSlN (i := 0) Try.underlying29 ty5 rfl rfl (by omega)) ?_
                refine WL.val rfl (run_load1 ty5 rfl (hcell2)) ?_
                refine WL.val rfl (run_bF (run_eql rfl rfl) (by exact hr0')) ?_
                refine WL.val rfl (run_move) ?_
                refine WL.yes rfl rfl rfl ?_
                refine WL.val rfl (run_move) ?_
                refine WL.yes rfl rfl rfl ?_
                refine WL.val rfl (run_bT (run_lss rfl rfl) (by omega)) ?_
                first | refine WL.val rfl (run_pickT rfl) ?_ | refine WL.val rfl (run_pickF rfl) ?_
                refine WL.nil ?_
                have e : numberP bs p = .error 12 := by rw [hnum, if_pos (.inr hu)]
                repeat (first | refine CW.seq ?_ | refine CW.block ?_ | refine CW.skip ?_ | refine CW.label ?_ | refine CW.exit ?_ | refine CW.condT rfl ?_ | refine CW.condF rfl ?_)
                refine CW.reg ?_
                refine WL.val rfl (run_move) ?_
                refine WL.enterX (run_call en48 rfl rfl) (fail_throw (bs := bs) (er := 12) _ (h.next hq3) (by decide)) ?_
                rintro e w ⟨p', rfl, hq5⟩
                refine ⟨_, rfl, ?_⟩
                exact fin_panic (.err e (.on hq3 ⟨p', rfl, hq5⟩))
              · repeat (first | refine CW.seq ?_ | refine CW.block ?_ | refine CW.skip ?_ | refine CW.label ?_ | refine CW.exit ?_ | refine CW.condT rfl ?_ | refine CW.condF rfl ?_)
                refine CW.reg ?_
                refine WL.val rfl (run_move) ?_
                refine WL.val rfl (run_ixSlN (i := 0) Try.underlying29 ty5 rfl rfl (by omega)) ?_
                refine WL.val rfl (run_load1 ty5 rfl (hcell2)) ?_
                refine WL.val rfl (run_bF (run_eql rfl rfl) (by exact hr0')) ?_
                refine WL.val rfl (run_move) ?_
                refine WL.yes rfl rfl rfl ?_
                refine WL.val rfl (run_move) ?_
                refine WL.yes rfl rfl rfl ?_
                refine WL.val rfl (run_bF (run_lss rfl rfl) (by omega)) ?_
                first | refine WL.val rfl (run_pickT rfl) ?_ | refine WL.val rfl (run_pickF rfl) ?_
                refine WL.nil ?_
                have e : numberP bs p = .ok (beVal r, p + 1 + i) := by rw [hnum, if_neg (fun h => h.elim hr0 hu)]
                repeat (first | refine CW.seq ?_ | refine CW.block ?_ | refine CW.skip ?_ | refine CW.label ?_ | refine CW.exit ?_ | refine CW.condT rfl ?_ | refine CW.condF rfl ?_)
                refine CW.reg ?_
                refine WL.val rfl (run_move) ?_
                refine WL.val rfl (run_assign) ?_
                refine WL.nil ?_
                repeat (first | refine CW.seq ?_ | refine CW.block ?_ | refine CW.skip ?_ | refine CW.label ?_ | refine CW.exit ?_ | refine CW.condT rfl ?_ | refine CW.condF rfl ?_)
                refine CW.ret ?_
                refine fin_ret1 rfl ?_
                exact .ok e rfl hq3

end Go.Gx
