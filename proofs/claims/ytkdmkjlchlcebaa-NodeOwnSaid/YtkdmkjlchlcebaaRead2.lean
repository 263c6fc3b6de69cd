/- mint's Reader: Num, Most, Bytes, Text. -/
import Derived.Test.YtkdmkjlchlcebaaRead1
namespace Go.Gx
open Go.Proofs
set_option linter.unusedVariables false
set_option linter.unusedSimpArgs false
set_option maxRecDepth 100000

theorem run_shr63 {P : Program} {f : Slots} {w : World} {d : Option Tmp} {ty : TypeId} {pos : String} {af : Array Edge} {x y : Operand} {T T' : TypeId} {u : Nat} {k' : IntKind} (hx : ev f x = .int .u64 u) (hy : ev f y = .int k' 63) :
    (execOp (ev f) ⟨d, .binOp .shr T x y T', ty, pos, af, none⟩).run P w = .ok (.value (.int .u64 (u / 9223372036854775808 : Nat))) w := by
  rw [run_shr hx hy (by decide)]
  have e : (2 : Int) ^ min (63 : Int).toNat IntKind.u64.bits = ((9223372036854775808 : Nat) : Int) := by decide
  rw [e, Int.fdiv_eq_ediv_of_nonneg _ (by decide), ← Int.natCast_ediv]

theorem number_at {b p : Nat} {bs : List UInt8} {bv : Value} {r : Except Int (Nat × Nat)} (hr : numberP bs p = r) (w0 : World) (h : RdOk w0 b bs bv p) (hpl : p ≤ bs.length) : Calls Try.prog 69 #[.pointer (some ⟨b, 0, none⟩)] w0 (NumR b bv w0 (fun u => .int .u64 u) r) := hr ▸ number_spec w0 h hpl

theorem num_at {b p : Nat} {bs : List UInt8} {bv : Value} {r : Except Int (Nat × Nat)} (hr : numP bs p = r) (w0 : World) (h : RdOk w0 b bs bv p) (hpl : p ≤ bs.length) : Calls Try.prog 47 #[.pointer (some ⟨b, 0, none⟩)] w0 (NumR b bv w0 (fun u => .int .i64 u) r) := by
  have hs := h.own
  unfold RB at hs
  cases hn : numberP bs p with
  | error er =>
    have e : r = .error er := by rw [← hr]; unfold numP; rw [hn]
    refine calls (n := 17) Try.func47 rfl rfl rfl ?_
    repeat (first | refine CW.seq ?_ | refine CW.block ?_ | refine CW.skip ?_ | refine CW.label ?_ | refine CW.exit ?_ | refine CW.condT rfl ?_ | refine CW.condF rfl ?_)
    refine CW.reg ?_
    refine WL.val rfl (run_assign) ?_
    refine WL.nil ?_
    repeat (first | refine CW.seq ?_ | refine CW.block ?_ | refine CW.skip ?_ | refine CW.label ?_ | refine CW.exit ?_ | refine CW.condT rfl ?_ | refine CW.condF rfl ?_)
    refine CW.reg ?_
    refine WL.val rfl (run_move) ?_
    refine WL.val rfl (run_nilCheck rfl) ?_
    refine WL.val rfl (run_field (o' := 2) Try.underlying104 rfl ty4 rfl rfl rfl) ?_
    refine WL.val rfl (run_load1 ty4 rfl (hs.c0 rfl)) ?_
    refine WL.nil ?_
    repeat (first | refine CW.seq ?_ | refine CW.block ?_ | refine CW.skip ?_ | refine CW.label ?_ | refine CW.exit ?_ | refine CW.condT rfl ?_ | refine CW.condF rfl ?_)
    refine CW.reg ?_
    refine WL.val rfl (run_move) ?_
    refine WL.enterX (run_call en69 rfl rfl) (number_at hn _ h hpl) ?_
    rintro e w ⟨p', rfl, hq⟩
    refine ⟨_, rfl, ?_⟩
    exact fin_panic (.err e ⟨p', rfl, hq⟩)
  | ok uq =>
    obtain ⟨u, q⟩ := uq
    have hb := numberP_ok hn
    by_cases hbig : 9223372036854775808 ≤ u
    · have e : r = .error 12 := by rw [← hr]; unfold numP; rw [hn]; exact if_pos hbig
      refine calls (n := 17) Try.func47 rfl rfl rfl ?_
      repeat (first | refine CW.seq ?_ | refine CW.block ?_ | refine CW.skip ?_ | refine CW.label ?_ | refine CW.exit ?_ | refine CW.condT rfl ?_ | refine CW.condF rfl ?_)
      refine CW.reg ?_
      refine WL.val rfl (run_assign) ?_
      refine WL.nil ?_
      repeat (first | refine CW.seq ?_ | refine CW.block ?_ | refine CW.skip ?_ | refine CW.label ?_ | refine CW.exit ?_ | refine CW.condT rfl ?_ | refine CW.condF rfl ?_)
      refine CW.reg ?_
      refine WL.val rfl (run_move) ?_
      refine WL.val rfl (run_nilCheck rfl) ?_
      refine WL.val rfl (run_field (o' := 2) Try.underlying104 rfl ty4 rfl rfl rfl) ?_
      refine WL.val rfl (run_load1 ty4 rfl (hs.c0 rfl)) ?_
      refine WL.nil ?_
      repeat (first | refine CW.seq ?_ | refine CW.block ?_ | refine CW.skip ?_ | refine CW.label ?_ | refine CW.exit ?_ | refine CW.condT rfl ?_ | refine CW.condF rfl ?_)
      refine CW.reg ?_
      refine WL.val rfl (run_move) ?_
      refine WL.enter rfl (run_call en69 rfl rfl) (number_at hn _ h hpl) ?_
      rintro e w ⟨rfl, hq⟩
      refine ⟨_, rfl, ?_⟩
      refine WL.val rfl (run_assign) ?_
      refine WL.nil ?_
      repeat (first | refine CW.seq ?_ | refine CW.block ?_ | refine CW.skip ?_ | refine CW.label ?_ | refine CW.exit ?_ | refine CW.condT rfl ?_ | refine CW.condF rfl ?_)
      refine CW.reg ?_
      refine WL.val rfl (run_move) ?_
      refine WL.val rfl (run_shr63 rfl rfl) ?_
      refine WL.val rfl (run_bT (run_neq rfl rfl) (by omega)) ?_
      refine WL.nil ?_
      repeat (first | refine CW.seq ?_ | refine CW.block ?_ | refine CW.skip ?_ | refine CW.label ?_ | refine CW.exit ?_ | refine CW.condT rfl ?_ | refine CW.condF rfl ?_)
      refine CW.reg ?_
      refine WL.val rfl (run_move) ?_
      refine WL.enterX (run_call en48 rfl rfl) (fail_throw (bs := bs) (er := 12) _ (h.next hq) (by decide)) ?_
      rintro e w ⟨p', rfl, hq2⟩
      refine ⟨_, rfl, ?_⟩
      exact fin_panic (.err e (.on hq ⟨p', rfl, hq2⟩))
    · have e : r = .ok (u, q) := by rw [← hr]; unfold numP; rw [hn]; exact if_neg hbig
      refine calls (n := 17) Try.func47 rfl rfl rfl ?_
      repeat (first | refine CW.seq ?_ | refine CW.block ?_ | refine CW.skip ?_ | refine CW.label ?_ | refine CW.exit ?_ | refine CW.condT rfl ?_ | refine CW.condF rfl ?_)
      refine CW.reg ?_
      refine WL.val rfl (run_assign) ?_
      refine WL.nil ?_
      repeat (first | refine CW.seq ?_ | refine CW.block ?_ | refine CW.skip ?_ | refine CW.label ?_ | refine CW.exit ?_ | refine CW.condT rfl ?_ | refine CW.condF rfl ?_)
      refine CW.reg ?_
      refine WL.val rfl (run_move) ?_
      refine WL.val rfl (run_nilCheck rfl) ?_
      refine WL.val rfl (run_field (o' := 2) Try.underlying104 rfl ty4 rfl rfl rfl) ?_
      refine WL.val rfl (run_load1 ty4 rfl (hs.c0 rfl)) ?_
      refine WL.nil ?_
      repeat (first | refine CW.seq ?_ | refine CW.block ?_ | refine CW.skip ?_ | refine CW.label ?_ | refine CW.exit ?_ | refine CW.condT rfl ?_ | refine CW.condF rfl ?_)
      refine CW.reg ?_
      refine WL.val rfl (run_move) ?_
      refine WL.enter rfl (run_call en69 rfl rfl) (number_at hn _ h hpl) ?_
      rintro e w ⟨rfl, hq⟩
      refine ⟨_, rfl, ?_⟩
      refine WL.val rfl (run_assign) ?_
      refine WL.nil ?_
      repeat (first | refine CW.seq ?_ | refine CW.block ?_ | refine CW.skip ?_ | refine CW.label ?_ | refine CW.exit ?_ | refine CW.condT rfl ?_ | refine CW.condF rfl ?_)
      refine CW.reg ?_
      refine WL.val rfl (run_move) ?_
      refine WL.val rfl (run_shr63 rfl rfl) ?_
      refine WL.val rfl (run_bF (run_neq rfl rfl) (by omega)) ?_
      refine WL.nil ?_
      repeat (first | refine CW.seq ?_ | refine CW.block ?_ | refine CW.skip ?_ | refine CW.label ?_ | refine CW.exit ?_ | refine CW.condT rfl ?_ | refine CW.condF rfl ?_)
      refine CW.reg ?_
      refine WL.val rfl (run_move) ?_
      first | refine WL.val rfl (run_convI64 Try.underlying101 Try.underlying3 rfl (by omega)) ?_ | refine WL.val rfl (run_convInt Try.underlying101 Try.underlying3 rfl) ?_
      refine WL.val rfl (run_assign) ?_
      refine WL.nil ?_
      repeat (first | refine CW.seq ?_ | refine CW.block ?_ | refine CW.skip ?_ | refine CW.label ?_ | refine CW.exit ?_ | refine CW.condT rfl ?_ | refine CW.condF rfl ?_)
      refine CW.ret ?_
      refine fin_ret1 rfl ?_
      exact .ok e rfl hq

theorem most_at {b p m : Nat} {bs : List UInt8} {bv : Value} {r : Except Int (Nat × Nat)} (hr : mostP m bs p = r) (w0 : World) (h : RdOk w0 b bs bv p) (hpl : p ≤ bs.length) : Calls Try.prog 49 #[.pointer (some ⟨b, 0, none⟩), .int .i64 m] w0 (NumR b bv w0 (fun u => .int .i64 u) r) := by
  cases hn : numP bs p with
  | error er =>
    have e : r = .error er := by rw [← hr]; unfold mostP; rw [hn]
    refine calls (n := 21) Try.func49 rfl rfl rfl ?_
    repeat (first | refine CW.seq ?_ | refine CW.block ?_ | refine CW.skip ?_ | refine CW.label ?_ | refine CW.exit ?_ | refine CW.condT rfl ?_ | refine CW.condF rfl ?_)
    refine CW.reg ?_
    refine WL.val rfl (run_assign) ?_
    refine WL.nil ?_
    repeat (first | refine CW.seq ?_ | refine CW.block ?_ | refine CW.skip ?_ | refine CW.label ?_ | refine CW.exit ?_ | refine CW.condT rfl ?_ | refine CW.condF rfl ?_)
    refine CW.reg ?_
    refine WL.val rfl (run_move) ?_
    refine WL.enterX (run_call en47 rfl rfl) (num_at hn _ h hpl) ?_
    rintro e w ⟨p', rfl, hq⟩
    refine ⟨_, rfl, ?_⟩
    exact fin_panic (.err e ⟨p', rfl, hq⟩)
  | ok uq =>
    obtain ⟨u, q⟩ := uq
    by_cases hbig : m < u
    · have e : r = .error 2 := by rw [← hr]; unfold mostP; rw [hn]; exact if_pos hbig
      refine calls (n := 21) Try.func49 rfl rfl rfl ?_
      repeat (first | refine CW.seq ?_ | refine CW.block ?_ | refine CW.skip ?_ | refine CW.label ?_ | refine CW.exit ?_ | refine CW.condT rfl ?_ | refine CW.condF rfl ?_)
      refine CW.reg ?_
      refine WL.val rfl (run_assign) ?_
      refine WL.nil ?_
      repeat (first | refine CW.seq ?_ | refine CW.block ?_ | refine CW.skip ?_ | refine CW.label ?_ | refine CW.exit ?_ | refine CW.condT rfl ?_ | refine CW.condF rfl ?_)
      refine CW.reg ?_
      refine WL.val rfl (run_move) ?_
      refine WL.enter rfl (run_call en47 rfl rfl) (num_at hn _ h hpl) ?_
      rintro e w ⟨rfl, hq⟩
      refine ⟨_, rfl, ?_⟩
      refine WL.val rfl (run_assign) ?_
      refine WL.nil ?_
      have hs : Step [b] [(b, _)] w0 w := hq
      repeat (first | refine CW.seq ?_ | refine CW.block ?_ | refine CW.skip ?_ | refine CW.label ?_ | refine CW.exit ?_ | refine CW.condT rfl ?_ | refine CW.condF rfl ?_)
      refine CW.reg ?_
      refine WL.val rfl (run_move) ?_
      refine WL.val rfl (run_nilCheck rfl) ?_
      refine WL.val rfl (run_field (o' := 2) Try.underlying104 rfl ty4 rfl rfl rfl) ?_
      refine WL.val rfl (run_load1 ty4 rfl (hs.c0 rfl)) ?_
      first | refine WL.val rfl (run_notB rfl) ?_ | refine WL.val rfl (run_not rfl) ?_
      refine WL.val rfl (run_move) ?_
      refine WL.yes rfl rfl rfl ?_
      refine WL.val rfl (run_move) ?_
      refine WL.yes rfl rfl rfl ?_
      refine WL.val rfl (run_move) ?_
      refine WL.yes rfl rfl rfl ?_
      refine WL.val rfl (run_bT (run_gtr rfl rfl) (by omega)) ?_
      first | refine WL.val rfl (run_pickT rfl) ?_ | refine WL.val rfl (run_pickF rfl) ?_
      refine WL.nil ?_
      repeat (first | refine CW.seq ?_ | refine CW.block ?_ | refine CW.skip ?_ | refine CW.label ?_ | refine CW.exit ?_ | refine CW.condT rfl ?_ | refine CW.condF rfl ?_)
      refine CW.reg ?_
      refine WL.val rfl (run_move) ?_
      refine WL.enterX (run_call en48 rfl rfl) (fail_throw (bs := bs) (er := 2) _ (h.next hq) (by decide)) ?_
      rintro e w ⟨p', rfl, hq2⟩
      refine ⟨_, rfl, ?_⟩
      exact fin_panic (.err e (.on hq ⟨p', rfl, hq2⟩))
    · have e : r = .ok (u, q) := by rw [← hr]; unfold mostP; rw [hn]; exact if_neg hbig
      refine calls (n := 21) Try.func49 rfl rfl rfl ?_
      repeat (first | refine CW.seq ?_ | refine CW.block ?_ | refine CW.skip ?_ | refine CW.label ?_ | refine CW.exit ?_ | refine CW.condT rfl ?_ | refine CW.condF rfl ?_)
      refine CW.reg ?_
      refine WL.val rfl (run_assign) ?_
      refine WL.nil ?_
      repeat (first | refine CW.seq ?_ | refine CW.block ?_ | refine CW.skip ?_ | refine CW.label ?_ | refine CW.exit ?_ | refine CW.condT rfl ?_ | refine CW.condF rfl ?_)
      refine CW.reg ?_
      refine WL.val rfl (run_move) ?_
      refine WL.enter rfl (run_call en47 rfl rfl) (num_at hn _ h hpl) ?_
      rintro e w ⟨rfl, hq⟩
      refine ⟨_, rfl, ?_⟩
      refine WL.val rfl (run_assign) ?_
      refine WL.nil ?_
      have hs : Step [b] [(b, _)] w0 w := hq
      repeat (first | refine CW.seq ?_ | refine CW.block ?_ | refine CW.skip ?_ | refine CW.label ?_ | refine CW.exit ?_ | refine CW.condT rfl ?_ | refine CW.condF rfl ?_)
      refine CW.reg ?_
      refine WL.val rfl (run_move) ?_
      refine WL.val rfl (run_nilCheck rfl) ?_
      refine WL.val rfl (run_field (o' := 2) Try.underlying104 rfl ty4 rfl rfl rfl) ?_
      refine WL.val rfl (run_load1 ty4 rfl (hs.c0 rfl)) ?_
      first | refine WL.val rfl (run_notB rfl) ?_ | refine WL.val rfl (run_not rfl) ?_
      refine WL.val rfl (run_move) ?_
      refine WL.yes rfl rfl rfl ?_
      refine WL.val rfl (run_move) ?_
      refine WL.yes rfl rfl rfl ?_
      refine WL.val rfl (run_move) ?_
      refine WL.yes rfl rfl rfl ?_
      refine WL.val rfl (run_bF (run_gtr rfl rfl) (by omega)) ?_
      first | refine WL.val rfl (run_pickT rfl) ?_ | refine WL.val rfl (run_pickF rfl) ?_
      refine WL.nil ?_
      repeat (first | refine CW.seq ?_ | refine CW.block ?_ | refine CW.skip ?_ | refine CW.label ?_ | refine CW.exit ?_ | refine CW.condT rfl ?_ | refine CW.condF rfl ?_)
      refine CW.reg ?_
      refine WL.val rfl (run_move) ?_
      refine WL.val rfl (run_assign) ?_
      refine WL.nil ?_
      repeat (first | refine CW.seq ?_ | refine CW.block ?_ | refine CW.skip ?_ | refine CW.label ?_ | refine CW.exit ?_ | refine CW.condT rfl ?_ | refine CW.condF rfl ?_)
      refine CW.ret ?_
      refine fin_ret1 rfl ?_
      exact .ok e rfl hq

def BytR (b : Nat) (bv : Value) (w0 : World) : Except Int (List UInt8 × Nat) → Ending → World → Prop
  | .ok (s, q), e, w' => ∃ v Lv, e = .returned v ∧ OwnSl 5 1 v s.length (u8s s) Lv ∧ Step [b] (RB b bv q :: Lv) w0 w'
  | .error er, e, w' => Thrown b bv er w0 e w'
theorem BytR.err {b : Nat} {bv : Value} {w0 w' : World} {ed : Ending} {r : Except Int (List UInt8 × Nat)} {er : Int} (hr : r = .error er) (h : Thrown b bv er w0 ed w') : BytR b bv w0 r ed w' := by subst hr; exact h
theorem BytR.ok {b : Nat} {bv : Value} {w0 w' : World} {v : Value} {Lv : List (Nat × Obj)} {s : List UInt8} {q : Nat} {r : Except Int (List UInt8 × Nat)} (hr : r = .ok (s, q)) (hv : OwnSl 5 1 v s.length (u8s s) Lv) (hs : Step [b] (RB b bv q :: Lv) w0 w') : BytR b bv w0 r (.returned v) w' := by subst hr; exact ⟨v, Lv, rfl, hv, hs⟩

theorem bytes_at {b p : Nat} {bs : List UInt8} {bv : Value} {r : Except Int (List UInt8 × Nat)} (hr : bytesP bs p = r) (w0 : World) (h : RdOk w0 b bs bv p) (hpl : p ≤ bs.length) : Calls Try.prog 71 #[.pointer (some ⟨b, 0, none⟩)] w0 (BytR b bv w0 r) := by
  have hs := h.own
  have hlen := h.len
  unfold RB at hs
  cases hn : numP bs p with
  | error er =>
    have e : r = .error er := by rw [← hr]; unfold bytesP; rw [hn]
    refine calls (n := 12) Try.func71 rfl rfl rfl ?_
    repeat (first | refine CW.seq ?_ | refine CW.block ?_ | refine CW.skip ?_ | refine CW.label ?_ | refine CW.exit ?_ | refine CW.condT rfl ?_ | refine CW.condF rfl ?_)
    refine CW.reg ?_
    refine WL.val rfl (run_assign) ?_
    refine WL.nil ?_
    repeat (first | refine CW.seq ?_ | refine CW.block ?_ | refine CW.skip ?_ | refine CW.label ?_ | refine CW.exit ?_ | refine CW.condT rfl ?_ | refine CW.condF rfl ?_)
    refine CW.reg ?_
    refine WL.val rfl (run_move) ?_
    refine WL.val rfl (run_nilCheck rfl) ?_
    refine WL.val rfl (run_field (o' := 2) Try.underlying104 rfl ty4 rfl rfl rfl) ?_
    refine WL.val rfl (run_load1 ty4 rfl (hs.c0 rfl)) ?_
    refine WL.nil ?_
    repeat (first | refine CW.seq ?_ | refine CW.block ?_ | refine CW.skip ?_ | refine CW.label ?_ | refine CW.exit ?_ | refine CW.condT rfl ?_ | refine CW.condF rfl ?_)
    refine CW.reg ?_
    refine WL.val rfl (run_move) ?_
    refine WL.val rfl (run_move) ?_
    refine WL.enterX (run_call en47 rfl rfl) (num_at hn _ h hpl) ?_
    rintro e w ⟨p', rfl, hq⟩
    refine ⟨_, rfl, ?_⟩
    exact fin_panic (.err e ⟨p', rfl, hq⟩)
  | ok uq =>
    obtain ⟨u, q⟩ := uq
    have hb := numP_ok hn
    by_cases hbig : bs.length < q + u
    · have e : r = .error 11 := by rw [← hr]; unfold bytesP; rw [hn]; exact if_pos hbig
      refine calls (n := 12) Try.func71 rfl rfl rfl ?_
      repeat (first | refine CW.seq ?_ | refine CW.block ?_ | refine CW.skip ?_ | refine CW.label ?_ | refine CW.exit ?_ | refine CW.condT rfl ?_ | refine CW.condF rfl ?_)
      refine CW.reg ?_
      refine WL.val rfl (run_assign) ?_
      refine WL.nil ?_
      repeat (first | refine CW.seq ?_ | refine CW.block ?_ | refine CW.skip ?_ | refine CW.label ?_ | refine CW.exit ?_ | refine CW.condT rfl ?_ | refine CW.condF rfl ?_)
      refine CW.reg ?_
      refine WL.val rfl (run_move) ?_
      refine WL.val rfl (run_nilCheck rfl) ?_
      refine WL.val rfl (run_field (o' := 2) Try.underlying104 rfl ty4 rfl rfl rfl) ?_
      refine WL.val rfl (run_load1 ty4 rfl (hs.c0 rfl)) ?_
      refine WL.nil ?_
      repeat (first | refine CW.seq ?_ | refine CW.block ?_ | refine CW.skip ?_ | refine CW.label ?_ | refine CW.exit ?_ | refine CW.condT rfl ?_ | refine CW.condF rfl ?_)
      refine CW.reg ?_
      refine WL.val rfl (run_move) ?_
      refine WL.val rfl (run_move) ?_
      refine WL.enter rfl (run_call en47 rfl rfl) (num_at hn _ h hpl) ?_
      rintro e w ⟨rfl, hq⟩
      refine ⟨_, rfl, ?_⟩
      refine WL.enterX (run_call en84 rfl rfl) (take_err (bs := bs) _ (h.next hq) (by omega) hbig (by omega)) ?_
      rintro e w ⟨p', rfl, hq2⟩
      refine ⟨_, rfl, ?_⟩
      exact fin_panic (.err e (.on hq ⟨p', rfl, hq2⟩))
    · have e : r = .ok ((bs.drop q).take u, q + u) := by rw [← hr]; unfold bytesP; rw [hn]; exact if_neg hbig
      have hsl : ((bs.drop q).take u).length = u := by simp; omega
      refine calls (n := 12) Try.func71 rfl rfl rfl ?_
      repeat (first | refine CW.seq ?_ | refine CW.block ?_ | refine CW.skip ?_ | refine CW.label ?_ | refine CW.exit ?_ | refine CW.condT rfl ?_ | refine CW.condF rfl ?_)
      refine CW.reg ?_
      refine WL.val rfl (run_assign) ?_
      refine WL.nil ?_
      repeat (first | refine CW.seq ?_ | refine CW.block ?_ | refine CW.skip ?_ | refine CW.label ?_ | refine CW.exit ?_ | refine CW.condT rfl ?_ | refine CW.condF rfl ?_)
      refine CW.reg ?_
      refine WL.val rfl (run_move) ?_
      refine WL.val rfl (run_nilCheck rfl) ?_
      refine WL.val rfl (run_field (o' := 2) Try.underlying104 rfl ty4 rfl rfl rfl) ?_
      refine WL.val rfl (run_load1 ty4 rfl (hs.c0 rfl)) ?_
      refine WL.nil ?_
      repeat (first | refine CW.seq ?_ | refine CW.block ?_ | refine CW.skip ?_ | refine CW.label ?_ | refine CW.exit ?_ | refine CW.condT rfl ?_ | refine CW.condF rfl ?_)
      refine CW.reg ?_
      refine WL.val rfl (run_move) ?_
      refine WL.val rfl (run_move) ?_
      refine WL.enter rfl (run_call en47 rfl rfl) (num_at hn _ h hpl) ?_
      rintro e w ⟨rfl, hq⟩
      refine ⟨_, rfl, ?_⟩
      refine WL.enter rfl (run_call en84 rfl rfl) (take_ok (bs := bs) _ (h.next hq) (by omega) (by omega)) ?_
      rintro e w ⟨a, c, rfl, hsl2, ho, hq2⟩
      refine ⟨_, rfl, ?_⟩
      refine WL.enter rfl (run_call en66 rfl rfl) (clone_spec (s := (bs.drop q).take u) _ (by rw [hsl]; exact hsl2) (by omega)) ?_
      rintro e w ⟨v, Lv, rfl, hv, hq3⟩
      refine ⟨_, rfl, ?_⟩
      refine WL.val rfl (run_assign) ?_
      refine WL.nil ?_
      repeat (first | refine CW.seq ?_ | refine CW.block ?_ | refine CW.skip ?_ | refine CW.label ?_ | refine CW.exit ?_ | refine CW.condT rfl ?_ | refine CW.condF rfl ?_)
      refine CW.ret ?_
      refine fin_ret1 rfl ?_
      have hq4 := (Step.call (L1 := [RB b bv q]) (L := []) hq hq2).call0 hq3
      exact .ok e hv hq4.append_comm

def TxtR (b : Nat) (bv : Value) (w0 : World) : Except Int (List UInt8 × Nat) → Ending → World → Prop
  | .ok (s, q), e, w' => e = .returned (str s) ∧ Step [b] [RB b bv q] w0 w'
  | .error er, e, w' => Thrown b bv er w0 e w'

theorem text_at {b p : Nat} {bs : List UInt8} {bv : Value} {r : Except Int (List UInt8 × Nat)} (hr : bytesP bs p = r) (w0 : World) (h : RdOk w0 b bs bv p) (hpl : p ≤ bs.length) : Calls Try.prog 70 #[.pointer (some ⟨b, 0, none⟩)] w0 (TxtR b bv w0 r) := by
  cases hn : r with
  | error er =>
    rw [hn] at hr
    refine calls (n := 6) Try.func70 rfl rfl rfl ?_
    repeat (first | refine CW.seq ?_ | refine CW.block ?_ | refine CW.skip ?_ | refine CW.label ?_ | refine CW.exit ?_ | refine CW.condT rfl ?_ | refine CW.condF rfl ?_)
    refine CW.reg ?_
    refine WL.val rfl (run_assign) ?_
    refine WL.nil ?_
    repeat (first | refine CW.seq ?_ | refine CW.block ?_ | refine CW.skip ?_ | refine CW.label ?_ | refine CW.exit ?_ | refine CW.condT rfl ?_ | refine CW.condF rfl ?_)
    refine CW.reg ?_
    refine WL.val rfl (run_move) ?_
    refine WL.enterX (run_call en71 rfl rfl) (bytes_at hr _ h hpl) ?_
    rintro e w ⟨p', rfl, hq⟩
    refine ⟨_, rfl, ?_⟩
    exact fin_panic ⟨p', rfl, hq⟩
  | ok sq =>
    obtain ⟨s, q⟩ := sq
    rw [hn] at hr
    refine calls (n := 6) Try.func70 rfl rfl rfl ?_
    repeat (first | refine CW.seq ?_ | refine CW.block ?_ | refine CW.skip ?_ | refine CW.label ?_ | refine CW.exit ?_ | refine CW.condT rfl ?_ | refine CW.condF rfl ?_)
    refine CW.reg ?_
    refine WL.val rfl (run_assign) ?_
    refine WL.nil ?_
    repeat (first | refine CW.seq ?_ | refine CW.block ?_ | refine CW.skip ?_ | refine CW.label ?_ | refine CW.exit ?_ | refine CW.condT rfl ?_ | refine CW.condF rfl ?_)
    refine CW.reg ?_
    refine WL.val rfl (run_move) ?_
    refine WL.enter rfl (run_call en71 rfl rfl) (bytes_at hr _ h hpl) ?_
    rintro e w ⟨v, Lv, rfl, hv, hq⟩
    refine ⟨_, rfl, ?_⟩
    refine WL.val rfl (run_toString Try.underlying29 Try.underlying9 Try.underlying5 rfl (hv.sl (Step.append_comm (L1 := [_]) hq))) ?_
    refine WL.val rfl (run_assign) ?_
    refine WL.nil ?_
    repeat (first | refine CW.seq ?_ | refine CW.block ?_ | refine CW.skip ?_ | refine CW.label ?_ | refine CW.exit ?_ | refine CW.condT rfl ?_ | refine CW.condF rfl ?_)
    refine CW.ret ?_
    refine fin_ret1 rfl ?_
    exact ⟨rfl, Step.dropR (L1 := [_]) hq⟩
end Go.Gx
