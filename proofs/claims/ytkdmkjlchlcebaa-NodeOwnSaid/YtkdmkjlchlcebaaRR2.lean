/- The document's Reader: num, Most, take, Read, Left. -/
import Derived.Test.YtkdmkjlchlcebaaRR1
import Derived.Test.YtkdmkjlchlcebaaDec3
namespace Go.Gx
open Go.Proofs
set_option linter.unusedVariables false
set_option linter.unusedSimpArgs false
set_option maxRecDepth 100000

theorem numR_at {b p : Nat} {bs : List UInt8} {bv : Value} {r : Except Int (Nat × Nat)} (hr : numP bs p = r) (w0 : World) (h : RrOk w0 b bs bv p) (hpl : p ≤ bs.length) : Calls Try.prog 72 #[.pointer (some ⟨b, 0, none⟩)] w0 (RrN b bv p w0 (fun u => .int .i64 u) r) := by
  cases hn : numberP bs p with
  | error er =>
    have e : r = .error er := by rw [← hr]; unfold numP; rw [hn]
    refine calls (n := 24) Try.func72 rfl rfl rfl ?_
    refine CW.seq ?_
    refine CW.reg ?_
    refine WL.val rfl (run_assign) ?_
    refine WL.val rfl (run_assign) ?_
    refine WL.nil ?_
    refine CW.seq ?_
    refine CW.reg ?_
    refine WL.val rfl (run_move) ?_
    refine WL.enter rfl (run_call en73 rfl rfl) (numberR_at hn _ h hpl) ?_
    rintro e w ⟨rfl, hs⟩
    refine ⟨_, rfl, ?_⟩
    refine WL.val rfl (run_move) ?_
    refine WL.val rfl (run_extract rfl rfl) ?_
    refine WL.val rfl (run_extract rfl rfl) ?_
    refine WL.val rfl (run_assign) ?_
    refine WL.val rfl (run_assign) ?_
    refine WL.nil ?_
    refine CW.seq <| CW.seq ?_
    refine CW.reg ?_
    refine WL.val rfl (run_move) ?_
    refine WL.val rfl (run_bF (run_gtr rfl rfl) (by omega)) ?_
    refine WL.val rfl (run_move) ?_
    refine WL.no rfl rfl rfl (.inl rfl) ?_
    refine WL.no rfl rfl rfl (.inl rfl) ?_
    refine WL.no rfl rfl rfl (.inl rfl) ?_
    refine WL.val rfl (run_pickF rfl) ?_
    refine WL.nil ?_
    repeat (first | refine CW.seq ?_ | refine CW.skip ?_ | refine CW.condF rfl ?_)
    refine CW.reg ?_
    refine WL.val rfl (run_move) ?_
    refine WL.val rfl (run_convI64 Try.underlying101 Try.underlying3 rfl (by omega)) ?_
    refine WL.val rfl (run_move) ?_
    refine WL.val rfl (run_assign) ?_
    refine WL.val rfl (run_assign) ?_
    refine WL.nil ?_
    refine CW.ret ?_
    refine fin_ret2 rfl ?_
    exact .err e rfl hs
  | ok uq =>
    obtain ⟨u, q⟩ := uq
    have hb := numberP_ok hn
    by_cases hbig : 9223372036854775808 ≤ u
    · have e : r = .error 12 := by rw [← hr]; unfold numP; rw [hn]; exact if_pos hbig
      refine calls (n := 24) Try.func72 rfl rfl rfl ?_
      refine CW.seq ?_
      refine CW.reg ?_
      refine WL.val rfl (run_assign) ?_
      refine WL.val rfl (run_assign) ?_
      refine WL.nil ?_
      refine CW.seq ?_
      refine CW.reg ?_
      refine WL.val rfl (run_move) ?_
      refine WL.enter rfl (run_call en73 rfl rfl) (numberR_at hn _ h hpl) ?_
      rintro e w ⟨rfl, hs⟩
      refine ⟨_, rfl, ?_⟩
      unfold RRB at hs
      refine WL.val rfl (run_move) ?_
      refine WL.val rfl (run_extract rfl rfl) ?_
      refine WL.val rfl (run_extract rfl rfl) ?_
      refine WL.val rfl (run_assign) ?_
      refine WL.val rfl (run_assign) ?_
      refine WL.nil ?_
      refine CW.seq <| CW.seq ?_
      refine CW.reg ?_
      refine WL.val rfl (run_move) ?_
      refine WL.val rfl (run_bT (run_gtr rfl rfl) (by omega)) ?_
      refine WL.val rfl (run_move) ?_
      refine WL.yes rfl rfl rfl ?_
      refine WL.val rfl (run_move) ?_
      refine WL.yes rfl rfl rfl ?_
      refine WL.val rfl (run_shr63 rfl rfl) ?_
      refine WL.yes rfl rfl rfl ?_
      refine WL.val rfl (run_bT (run_neq rfl rfl) (by omega)) ?_
      refine WL.val rfl (run_pickT rfl) ?_
      refine WL.nil ?_
      repeat (first | refine CW.seq ?_ | refine CW.condT rfl ?_)
      refine CW.reg ?_
      refine WL.val rfl (run_move) ?_
      refine WL.val rfl (run_nilCheck rfl) ?_
      refine WL.val rfl (run_field (o' := 2) Try.underlying85 rfl ty3 rfl rfl rfl) ?_
      refine WL.store1 ty3 rfl rfl (rfl) hs (by first | (simp; done) | omega | (simp only [List.length_append, List.length_replicate, List.length_cons, List.length_nil, List.length_set]; omega) | (simp [Ent.cells, u8s]; done) | exact Nat.le_of_ble_eq_true rfl) (fun w hs => ?_)
      refine WL.nil ?_
      refine CW.seq ?_
      refine CW.reg ?_
      refine WL.val rfl (run_assign) ?_
      refine WL.val rfl (run_assign) ?_
      refine WL.nil ?_
      refine CW.ret ?_
      refine fin_ret2 rfl ?_
      exact .err e rfl hs
    · have e : r = .ok (u, q) := by rw [← hr]; unfold numP; rw [hn]; exact if_neg hbig
      refine calls (n := 24) Try.func72 rfl rfl rfl ?_
      refine CW.seq ?_
      refine CW.reg ?_
      refine WL.val rfl (run_assign) ?_
      refine WL.val rfl (run_assign) ?_
      refine WL.nil ?_
      refine CW.seq ?_
      refine CW.reg ?_
      refine WL.val rfl (run_move) ?_
      refine WL.enter rfl (run_call en73 rfl rfl) (numberR_at hn _ h hpl) ?_
      rintro e w ⟨rfl, hs⟩
      refine ⟨_, rfl, ?_⟩
      refine WL.val rfl (run_move) ?_
      refine WL.val rfl (run_extract rfl rfl) ?_
      refine WL.val rfl (run_extract rfl rfl) ?_
      refine WL.val rfl (run_assign) ?_
      refine WL.val rfl (run_assign) ?_
      refine WL.nil ?_
      refine CW.seq <| CW.seq ?_
      refine CW.reg ?_
      refine WL.val rfl (run_move) ?_
      refine WL.val rfl (run_bT (run_gtr rfl rfl) (by omega)) ?_
      refine WL.val rfl (run_move) ?_
      refine WL.yes rfl rfl rfl ?_
      refine WL.val rfl (run_move) ?_
      refine WL.yes rfl rfl rfl ?_
      refine WL.val rfl (run_shr63 rfl rfl) ?_
      refine WL.yes rfl rfl rfl ?_
      refine WL.val rfl (run_bF (run_neq rfl rfl) (by omega)) ?_
      refine WL.val rfl (run_pickT rfl) ?_
      refine WL.nil ?_
      repeat (first | refine CW.seq ?_ | refine CW.skip ?_ | refine CW.condF rfl ?_)
      refine CW.reg ?_
      refine WL.val rfl (run_move) ?_
      refine WL.val rfl (run_convI64 Try.underlying101 Try.underlying3 rfl (by omega)) ?_
      refine WL.val rfl (run_move) ?_
      refine WL.val rfl (run_assign) ?_
      refine WL.val rfl (run_assign) ?_
      refine WL.nil ?_
      refine CW.ret ?_
      refine fin_ret2 rfl ?_
      exact .ok e rfl hs

theorem RrOk.next {w w' : World} {b p q : Nat} {bs : List UInt8} {bv : Value} {L : List (Nat × Obj)} (h : RrOk w b bs bv p) (hs : Step [b] (RRB b bv q 0 :: L) w w') : RrOk w' b bs bv q :=
  ⟨Step.own (L1 := [_]) hs, h.sl.stepK hs (h.out.imp (fun e => by rw [e]; rfl) id), h.out, h.room, h.len⟩

/-- What Most leaves. -/
def RrV (b : Nat) (bv : Value) (p : Nat) (w0 : World) : Except Int (Nat × Nat) → Ending → World → Prop
  | .ok (u, q), e, w' => e = .returned (.int .i64 u) ∧ Step [b] [RRB b bv q 0] w0 w'
  | .error er, e, w' => e = .returned (.int .i64 0) ∧ Step [b] [RRB b bv p er] w0 w'
theorem RrV.ok {b p : Nat} {bv : Value} {w0 w' : World} {e : Ending} {r : Except Int (Nat × Nat)} {u q : Nat} (hr : r = .ok (u, q)) (he : e = .returned (.int .i64 u)) (hs : Step [b] [RRB b bv q 0] w0 w') : RrV b bv p w0 r e w' := by subst hr; exact ⟨he, hs⟩
theorem RrV.err {b p : Nat} {bv : Value} {w0 w' : World} {e : Ending} {r : Except Int (Nat × Nat)} {er : Int} (hr : r = .error er) (he : e = .returned (.int .i64 0)) (hs : Step [b] [RRB b bv p er] w0 w') : RrV b bv p w0 r e w' := by subst hr; exact ⟨he, hs⟩

theorem mostR_at {b p m : Nat} {bs : List UInt8} {bv : Value} {r : Except Int (Nat × Nat)} (hr : mostP m bs p = r) (w0 : World) (h : RrOk w0 b bs bv p) (hpl : p ≤ bs.length) : Calls Try.prog 52 #[.pointer (some ⟨b, 0, none⟩), .int .i64 m] w0 (RrV b bv p w0 r) := by
  have hlen := h.len
  cases hn : numP bs p with
  | error er =>
    have e : r = .error er := by rw [← hr]; unfold mostP; rw [hn]
    refine calls (n := 32) Try.func52 rfl rfl rfl ?_
    refine CW.seq ?_
    refine CW.reg ?_
    refine WL.val rfl (run_assign) ?_
    refine WL.nil ?_
    refine CW.seq ?_
    refine CW.reg ?_
    refine WL.val rfl (run_move) ?_
    refine WL.enter rfl (run_call en72 rfl rfl) (numR_at hn _ h hpl) ?_
    rintro e w ⟨rfl, hs⟩
    refine ⟨_, rfl, ?_⟩
    unfold RRB at hs
    refine WL.val rfl (run_move) ?_
    refine WL.val rfl (run_extract rfl rfl) ?_
    refine WL.val rfl (run_extract rfl rfl) ?_
    refine WL.val rfl (run_assign) ?_
    refine WL.val rfl (run_assign) ?_
    refine WL.nil ?_
    refine CW.seq <| CW.seq ?_
    refine CW.reg ?_
    refine WL.val rfl (run_move) ?_
    refine WL.val rfl (run_bF (run_gtr rfl rfl) (by omega)) ?_
    refine WL.val rfl (run_move) ?_
    refine WL.no rfl rfl rfl (.inl rfl) ?_
    refine WL.no rfl rfl rfl (.inl rfl) ?_
    refine WL.no rfl rfl rfl (.inl rfl) ?_
    refine WL.val rfl (run_pickF rfl) ?_
    refine WL.nil ?_
    repeat (first | refine CW.seq ?_ | refine CW.skip ?_ | refine CW.condF rfl ?_)
    refine CW.reg ?_
    refine WL.val rfl (run_move) ?_
    refine WL.val rfl (run_move) ?_
    refine WL.val rfl (run_nilCheck rfl) ?_
    refine WL.val rfl (run_field (o' := 1) Try.underlying85 rfl ty3 rfl rfl rfl) ?_
    refine WL.val rfl (run_load1 ty3 rfl (hs.c0 rfl)) ?_
    refine WL.val rfl (run_move) ?_
    refine WL.val rfl (run_add (c := (p : Int)) rfl rfl (by omega) (by omega)) ?_
    refine WL.val rfl (run_nilCheck rfl) ?_
    refine WL.val rfl (run_field (o' := 1) Try.underlying85 rfl ty3 rfl rfl rfl) ?_
    refine WL.store1 ty3 rfl rfl (rfl) hs (by first | (simp; done) | omega | (simp only [List.length_append, List.length_replicate, List.length_cons, List.length_nil, List.length_set]; omega) | (simp [Ent.cells, u8s]; done) | exact Nat.le_of_ble_eq_true rfl) (fun w hs => ?_)
    refine WL.nil ?_
    refine CW.seq ?_
    refine CW.reg ?_
    refine WL.val rfl (run_move) ?_
    refine WL.val rfl (run_assign) ?_
    refine WL.nil ?_
    refine CW.ret ?_
    refine fin_ret1 rfl ?_
    exact .err e rfl hs
  | ok uq =>
    obtain ⟨u, q⟩ := uq
    have hb := numP_ok hn
    by_cases hbig : m < u
    · have e : r = .error 2 := by rw [← hr]; unfold mostP; rw [hn]; exact if_pos hbig
      refine calls (n := 32) Try.func52 rfl rfl rfl ?_
      refine CW.seq ?_
      refine CW.reg ?_
      refine WL.val rfl (run_assign) ?_
      refine WL.nil ?_
      refine CW.seq ?_
      refine CW.reg ?_
      refine WL.val rfl (run_move) ?_
      refine WL.enter rfl (run_call en72 rfl rfl) (numR_at hn _ h hpl) ?_
      rintro e w ⟨rfl, hs⟩
      refine ⟨_, rfl, ?_⟩
      unfold RRB at hs
      refine WL.val rfl (run_move) ?_
      refine WL.val rfl (run_extract rfl rfl) ?_
      refine WL.val rfl (run_extract rfl rfl) ?_
      refine WL.val rfl (run_assign) ?_
      refine WL.val rfl (run_assign) ?_
      refine WL.nil ?_
      refine CW.seq <| CW.seq ?_
      refine CW.reg ?_
      refine WL.val rfl (run_move) ?_
      refine WL.val rfl (run_bT (run_gtr rfl rfl) (by omega)) ?_
      refine WL.val rfl (run_move) ?_
      refine WL.yes rfl rfl rfl ?_
      refine WL.val rfl (run_move) ?_
      refine WL.yes rfl rfl rfl ?_
      refine WL.val rfl (run_move) ?_
      refine WL.yes rfl rfl rfl ?_
      refine WL.val rfl (run_bT (run_gtr rfl rfl) (by omega)) ?_
      refine WL.val rfl (run_pickT rfl) ?_
      refine WL.nil ?_
      repeat (first | refine CW.seq ?_ | refine CW.condT rfl ?_)
      refine CW.reg ?_
      refine WL.val rfl (run_move) ?_
      refine WL.val rfl (run_nilCheck rfl) ?_
      refine WL.val rfl (run_field (o' := 2) Try.underlying85 rfl ty3 rfl rfl rfl) ?_
      refine WL.store1 ty3 rfl rfl (rfl) hs (by first | (simp; done) | omega | (simp only [List.length_append, List.length_replicate, List.length_cons, List.length_nil, List.length_set]; omega) | (simp [Ent.cells, u8s]; done) | exact Nat.le_of_ble_eq_true rfl) (fun w hs => ?_)
      refine WL.nil ?_
      refine CW.seq ?_
      refine CW.reg ?_
      refine WL.val rfl (run_assign) ?_
      refine WL.nil ?_
      refine CW.ret ?_
      refine fin_ret1 rfl ?_
      exact .err e rfl hs
    · have e : r = .ok (u, q) := by rw [← hr]; unfold mostP; rw [hn]; exact if_neg hbig
      refine calls (n := 32) Try.func52 rfl rfl rfl ?_
      refine CW.seq ?_
      refine CW.reg ?_
      refine WL.val rfl (run_assign) ?_
      refine WL.nil ?_
      refine CW.seq ?_
      refine CW.reg ?_
      refine WL.val rfl (run_move) ?_
      refine WL.enter rfl (run_call en72 rfl rfl) (numR_at hn _ h hpl) ?_
      rintro e w ⟨rfl, hs⟩
      refine ⟨_, rfl, ?_⟩
      unfold RRB at hs
      refine WL.val rfl (run_move) ?_
      refine WL.val rfl (run_extract rfl rfl) ?_
      refine WL.val rfl (run_extract rfl rfl) ?_
      refine WL.val rfl (run_assign) ?_
      refine WL.val rfl (run_assign) ?_
      refine WL.nil ?_
      refine CW.seq <| CW.seq ?_
      refine CW.reg ?_
      refine WL.val rfl (run_move) ?_
      refine WL.val rfl (run_bT (run_gtr rfl rfl) (by omega)) ?_
      refine WL.val rfl (run_move) ?_
      refine WL.yes rfl rfl rfl ?_
      refine WL.val rfl (run_move) ?_
      refine WL.yes rfl rfl rfl ?_
      refine WL.val rfl (run_move) ?_
      refine WL.yes rfl rfl rfl ?_
      refine WL.val rfl (run_bF (run_gtr rfl rfl) (by omega)) ?_
      refine WL.val rfl (run_pickT rfl) ?_
      refine WL.nil ?_
      repeat (first | refine CW.seq ?_ | refine CW.skip ?_ | refine CW.condF rfl ?_)
      refine CW.reg ?_
      refine WL.val rfl (run_move) ?_
      refine WL.val rfl (run_move) ?_
      refine WL.val rfl (run_nilCheck rfl) ?_
      refine WL.val rfl (run_field (o' := 1) Try.underlying85 rfl ty3 rfl rfl rfl) ?_
      refine WL.val rfl (run_load1 ty3 rfl (hs.c0 rfl)) ?_
      refine WL.val rfl (run_move) ?_
      refine WL.val rfl (run_add (c := (q : Int)) rfl rfl (by omega) (by omega)) ?_
      refine WL.val rfl (run_nilCheck rfl) ?_
      refine WL.val rfl (run_field (o' := 1) Try.underlying85 rfl ty3 rfl rfl rfl) ?_
      refine WL.store1 ty3 rfl rfl (rfl) hs (by first | (simp; done) | omega | (simp only [List.length_append, List.length_replicate, List.length_cons, List.length_nil, List.length_set]; omega) | (simp [Ent.cells, u8s]; done) | exact Nat.le_of_ble_eq_true rfl) (fun w hs => ?_)
      refine WL.nil ?_
      refine CW.seq ?_
      refine CW.reg ?_
      refine WL.val rfl (run_move) ?_
      refine WL.val rfl (run_assign) ?_
      refine WL.nil ?_
      refine CW.ret ?_
      refine fin_ret1 rfl ?_
      exact .ok e rfl hs

theorem RrOk.form {w : World} {b p : Nat} {bs : List UInt8} {bv : Value} (h : RrOk w b bs bv p) : ∃ a c, bv = .slice a bs.length c := by
  have hobt := h.sl
  obtain ⟨_, ⟨_, c, rfl, h0⟩ | ⟨bb, off, c, rfl, _⟩⟩ := hobt
  · exact ⟨_, _, by rw [h0]⟩
  · exact ⟨_, _, rfl⟩

theorem leftR_at {b p : Nat} {bs : List UInt8} {bv : Value} (w0 : World) (h : RrOk w0 b bs bv p) (hpl : p ≤ bs.length) : Calls Try.prog 54 #[.pointer (some ⟨b, 0, none⟩)] w0 fun e w' => e = .returned (.int .i64 (bs.length - p : Nat)) ∧ Step [b] [RRB b bv p 0] w0 w' := by
  have hs := h.own
  have hlen := h.len
  have hobt := h.form
  obtain ⟨a, c, rfl⟩ := hobt
  unfold RRB at hs
  refine calls (n := 13) Try.func54 rfl rfl rfl ?_
  refine CW.seq ?_
  refine CW.reg ?_
  refine WL.val rfl (run_assign) ?_
  refine WL.nil ?_
  refine CW.seq ?_
  refine CW.quiet mixedP (by kernel_rfl) hs ?_
  refine QL.val rfl (fun w hs => run_move) ?_
  refine QL.val rfl (fun w hs => run_nilCheck rfl) ?_
  refine QL.val rfl (fun w hs => run_field (o' := 0) Try.underlying85 rfl ty29 rfl rfl rfl) ?_
  refine QL.val rfl (fun w hs => run_load1 ty29 rfl (hs.c0 rfl)) ?_
  refine QL.val rfl (fun w hs => run_lenSl Try.underlying29 rfl) ?_
  refine QL.val rfl (fun w hs => run_move) ?_
  refine QL.val rfl (fun w hs => run_nilCheck rfl) ?_
  refine QL.val rfl (fun w hs => run_field (o' := 1) Try.underlying85 rfl ty3 rfl rfl rfl) ?_
  refine QL.val rfl (fun w hs => run_load1 ty3 rfl (hs.c0 rfl)) ?_
  refine QL.val rfl (fun w hs => run_sub (c := ((bs.length - p : Nat) : Int)) rfl rfl (by omega) (by omega)) ?_
  refine QL.val rfl (fun w hs => run_assign) ?_
  refine QL.nil (fun w hs => ?_)
  refine CW.ret ?_
  refine fin_ret1 rfl ?_
  exact ⟨rfl, hs⟩

/-- What take leaves: behind p + k bytes n more. -/
def RrT (b : Nat) (bv : Value) (bs : List UInt8) (p k n : Nat) (w0 : World) (e : Ending) (w' : World) : Prop :=
  if bs.length < p + k + n then e = .returned (.slice none 0 0) ∧ Step [b] [RRB b bv p 11] w0 w'
  else ∃ v Lv, e = .returned v ∧ OwnSl 5 1 v n (u8s ((bs.drop (p + k)).take n)) Lv ∧ Step [b] (RRB b bv (p + k + n) 0 :: Lv) w0 w'

theorem takeR_at {b p k n : Nat} {bs : List UInt8} {bv : Value} (w0 : World) (h : RrOk w0 b bs bv p) (hk : p + k ≤ bs.length) (hn : n ≤ 9223372036854775807) (hne : 0 < bs.length) : Calls Try.prog 74 #[.pointer (some ⟨b, 0, none⟩), .int .i64 k, .int .i64 n] w0 (RrT b bv bs p k n w0) := by
  have hs := h.own
  have hlen := h.len
  unfold RRB at hs
  by_cases hbig : bs.length < p + k + n
  · have hobt := h.form
    obtain ⟨a, c, rfl⟩ := hobt
    refine calls (n := 58) Try.func74 rfl rfl rfl ?_
    refine CW.seq ?_
    refine CW.reg ?_
    refine WL.val rfl (run_assign) ?_
    refine WL.nil ?_
    refine CW.seq <| CW.seq ?_
    refine CW.quiet mixedP (by kernel_rfl) hs ?_
    refine QL.val rfl (fun w hs => run_move) ?_
    refine QL.val rfl (fun w hs => run_nilCheck rfl) ?_
    refine QL.val rfl (fun w hs => run_field (o' := 0) Try.underlying85 rfl ty29 rfl rfl rfl) ?_
    refine QL.val rfl (fun w hs => run_load1 ty29 rfl (hs.c0 rfl)) ?_
    refine QL.val rfl (fun w hs => run_lenSl Try.underlying29 rfl) ?_
    refine QL.val rfl (fun w hs => run_move) ?_
    refine QL.val rfl (fun w hs => run_nilCheck rfl) ?_
    refine QL.val rfl (fun w hs => run_field (o' := 1) Try.underlying85 rfl ty3 rfl rfl rfl) ?_
    refine QL.val rfl (fun w hs => run_load1 ty3 rfl (hs.c0 rfl)) ?_
    refine QL.val rfl (fun w hs => run_sub (c := ((bs.length - p : Nat) : Int)) rfl rfl (by omega) (by omega)) ?_
    refine QL.val rfl (fun w hs => run_move) ?_
    refine QL.val rfl (fun w hs => run_sub (c := ((bs.length - p - k : Nat) : Int)) rfl rfl (by omega) (by omega)) ?_
    refine QL.val rfl (fun w hs => run_move) ?_
    refine QL.val rfl (fun w hs => run_bT (run_lss rfl rfl) (by omega)) ?_
    refine QL.nil (fun w hs => ?_)
    repeat (first | refine CW.seq ?_ | refine CW.condT rfl ?_)
    refine CW.reg ?_
    refine WL.val rfl (run_move) ?_
    refine WL.val rfl (run_nilCheck rfl) ?_
    refine WL.val rfl (run_field (o' := 2) Try.underlying85 rfl ty3 rfl rfl rfl) ?_
    refine WL.store1 ty3 rfl rfl (rfl) hs (by first | (simp; done) | omega | (simp only [List.length_append, List.length_replicate, List.length_cons, List.length_nil, List.length_set]; omega) | (simp [Ent.cells, u8s]; done) | exact Nat.le_of_ble_eq_true rfl) (fun w hs => ?_)
    refine WL.nil ?_
    refine CW.seq ?_
    refine CW.reg ?_
    refine WL.val rfl (run_assign) ?_
    refine WL.nil ?_
    refine CW.ret ?_
    refine fin_ret1 rfl ?_
    exact (if_pos hbig).mpr ⟨rfl, hs⟩
  · have hfin : ∀ {v : Value} {Lv : List (Nat × Obj)} {w : World}, OwnSl 5 1 v n (u8s ((bs.drop (p + k)).take n)) Lv → Step [b] (RRB b bv (p + k + n) 0 :: Lv) w0 w → RrT b bv bs p k n w0 (.returned v) w := fun h1 h2 => (if_neg hbig).mpr ⟨_, _, rfl, h1, h2⟩
    have hroom := h.room
    have hobt := id h.sl
    obtain ⟨_, ⟨_, c, rfl, h0⟩ | ⟨bb, off, c, rfl, hat⟩⟩ := hobt
    · omega
    have hc : bs.length ≤ c := hroom
    have hbb : bb ∉ [b] := h.out.resolve_left (fun e => by rw [e] at hne; simp at hne)
    have hcut : cutSl 1 bb off (p + k) (p + k + n) c = .slice (some ⟨bb, if c = p + k then off else off + (p + k) * 1, none⟩) n (c - (p + k)) := by
      rw [cutSl, show p + k + n - (p + k) = n by omega]
    have hsl : ∀ {w : World} {L : List (Nat × Obj)}, Step [b] L w0 w → Sl w 1 (.slice (some ⟨bb, if c = p + k then off else off + (p + k) * 1, none⟩) n (c - (p + k))) n (u8s ((bs.drop (p + k)).take n)) := fun hs => by
      refine .mk (by simp [u8s]; omega) ?_
      have hat' := hat.step hs hbb
      split
      · rename_i hm
        obtain rfl : n = 0 := by omega
        exact At.nil
      · have := (hat'.drop (p + k)).take n
        rw [Nat.mul_one]
        simpa [u8s, List.map_drop, List.map_take] using this
    refine calls (n := 58) Try.func74 rfl rfl rfl ?_
    refine CW.seq ?_
    refine CW.reg ?_
    refine WL.val rfl (run_assign) ?_
    refine WL.nil ?_
    refine CW.seq <| CW.seq ?_
    refine CW.quiet mixedP (by kernel_rfl) hs ?_
    refine QL.val rfl (fun w hs => run_move) ?_
    refine QL.val rfl (fun w hs => run_nilCheck rfl) ?_
    refine QL.val rfl (fun w hs => run_field (o' := 0) Try.underlying85 rfl ty29 rfl rfl rfl) ?_
    refine QL.val rfl (fun w hs => run_load1 ty29 rfl (hs.c0 rfl)) ?_
    refine QL.val rfl (fun w hs => run_lenSl Try.underlying29 rfl) ?_
    refine QL.val rfl (fun w hs => run_move) ?_
    refine QL.val rfl (fun w hs => run_nilCheck rfl) ?_
    refine QL.val rfl (fun w hs => run_field (o' := 1) Try.underlying85 rfl ty3 rfl rfl rfl) ?_
    refine QL.val rfl (fun w hs => run_load1 ty3 rfl (hs.c0 rfl)) ?_
    refine QL.val rfl (fun w hs => run_sub (c := ((bs.length - p : Nat) : Int)) rfl rfl (by omega) (by omega)) ?_
    refine QL.val rfl (fun w hs => run_move) ?_
    refine QL.val rfl (fun w hs => run_sub (c := ((bs.length - p - k : Nat) : Int)) rfl rfl (by omega) (by omega)) ?_
    refine QL.val rfl (fun w hs => run_move) ?_
    refine QL.val rfl (fun w hs => run_bF (run_lss rfl rfl) (by omega)) ?_
    refine QL.nil (fun w hs => ?_)
    repeat (first | refine CW.seq ?_ | refine CW.skip ?_ | refine CW.condF rfl ?_)
    refine CW.reg ?_
    refine WL.val rfl (run_assign) ?_
    refine WL.nil ?_
    refine CW.seq ?_
    refine CW.any (A := fun w => Step [b] [RRB b (.slice (some ⟨bb, off, none⟩) bs.length c) p 0] w0 w) (C := fun w => Step [b] [RRB b (.slice (some ⟨bb, off, none⟩) bs.length c) p 0] w0 w) 1000000 22 mixedP rfl ?_
    replace hs := hs.drew
    refine AL.val 0 rfl (by kernel_rfl) rfl (fun w hs => run_move) ?_
    refine AL.val 1 rfl (by kernel_rfl) rfl (fun w hs => run_move) ?_
    refine AL.val 2 rfl (by kernel_rfl) rfl (fun w hs => run_nilCheck rfl) ?_
    refine AL.val 3 rfl (by kernel_rfl) rfl (fun w hs => run_field (o' := 0) Try.underlying85 rfl ty29 rfl rfl rfl) ?_
    refine AL.val 4 rfl (by kernel_rfl) rfl (fun w hs => run_load1 ty29 rfl (hs.c0 rfl)) ?_
    refine AL.val 5 rfl (by kernel_rfl) rfl (fun w hs => run_move) ?_
    refine AL.val 6 rfl (by kernel_rfl) rfl (fun w hs => run_nilCheck rfl) ?_
    refine AL.val 7 rfl (by kernel_rfl) rfl (fun w hs => run_field (o' := 1) Try.underlying85 rfl ty3 rfl rfl rfl) ?_
    refine AL.val 8 rfl (by kernel_rfl) rfl (fun w hs => run_load1 ty3 rfl (hs.c0 rfl)) ?_
    refine AL.val 9 rfl (by kernel_rfl) rfl (fun w hs => run_move) ?_
    refine AL.val 10 rfl (by kernel_rfl) rfl (fun w hs => run_add (c := ((p + k : Nat) : Int)) rfl rfl (by omega) (by omega)) ?_
    refine AL.val 11 rfl (by kernel_rfl) rfl (fun w hs => run_move) ?_
    refine AL.val 12 rfl (by kernel_rfl) rfl (fun w hs => run_nilCheck rfl) ?_
    refine AL.val 13 rfl (by kernel_rfl) rfl (fun w hs => run_field (o' := 1) Try.underlying85 rfl ty3 rfl rfl rfl) ?_
    refine AL.val 14 rfl (by kernel_rfl) rfl (fun w hs => run_load1 ty3 rfl (hs.c0 rfl)) ?_
    refine AL.val 15 rfl (by kernel_rfl) rfl (fun w hs => run_move) ?_
    refine AL.val 16 rfl (by kernel_rfl) rfl (fun w hs => run_add (c := ((p + k : Nat) : Int)) rfl rfl (by omega) (by omega)) ?_
    refine AL.val 17 rfl (by kernel_rfl) rfl (fun w hs => run_move) ?_
    refine AL.val 18 rfl (by kernel_rfl) rfl (fun w hs => run_add (c := ((p + k + n : Nat) : Int)) rfl rfl (by omega) (by omega)) ?_
    refine AL.val 19 rfl (by kernel_rfl) rfl (fun w hs => run_sliceSlE (lo := p + k) (hi := p + k + n) (m := c) Try.underlying29 ty5 rfl rfl rfl rfl (by simp) (by omega) (by omega) (by omega) hcut) ?_
    refine AL.one 20 (by kernel_rfl) rfl (by first | exact hs | exact Step.dropL hs) (by first | exact hs | exact Step.dropL hs) ?_
    refine WL.append Try.underlying29 Try.underlying29 ty5 rfl (by decide) rfl rfl (.nil _ _) (hs) (hsl hs) (Cells1.u8s _) (by first | omega | (simp only [List.length_append, List.length_cons, List.length_nil]; omega)) rfl (fun v45 Lv45 w hv45 hs => ?_)
    refine WL.nil ?_
    refine ⟨rfl, ?_⟩
    refine AL.val 21 rfl (by kernel_rfl) rfl (fun w hs => run_assign) ?_
    refine AL.end (by kernel_rfl) (by first | exact hs | exact Step.dropL hs) (by first | exact hs | exact Step.dropL hs) ?_
    replace hs := Step.append_comm hs
    refine CW.seq ?_
    refine CW.reg ?_
    refine WL.val rfl (run_move) ?_
    refine WL.val rfl (run_move) ?_
    refine WL.val rfl (run_nilCheck rfl) ?_
    refine WL.val rfl (run_field (o' := 1) Try.underlying85 rfl ty3 rfl rfl rfl) ?_
    refine WL.val rfl (run_load1 ty3 rfl (hs.c0 rfl)) ?_
    refine WL.val rfl (run_move) ?_
    refine WL.val rfl (run_add (c := ((p + k : Nat) : Int)) rfl rfl (by omega) (by omega)) ?_
    refine WL.val rfl (run_move) ?_
    refine WL.val rfl (run_add (c := ((p + k + n : Nat) : Int)) rfl rfl (by omega) (by omega)) ?_
    refine WL.val rfl (run_nilCheck rfl) ?_
    refine WL.val rfl (run_field (o' := 1) Try.underlying85 rfl ty3 rfl rfl rfl) ?_
    refine WL.store1 ty3 rfl rfl (rfl) hs (by first | (simp; done) | omega | (simp only [List.length_append, List.length_replicate, List.length_cons, List.length_nil, List.length_set]; omega) | (simp [Ent.cells, u8s]; done) | exact Nat.le_of_ble_eq_true rfl) (fun w hs => ?_)
    refine WL.nil ?_
    refine CW.seq ?_
    refine CW.reg ?_
    refine WL.val rfl (run_move) ?_
    refine WL.val rfl (run_assign) ?_
    refine WL.nil ?_
    refine CW.ret ?_
    refine fin_ret1 rfl ?_
    rw [Nat.zero_add, List.nil_append] at hv45
    exact hfin hv45 hs

def itemV (k n : Int) (v : Value) : List Value := [.int .i64 k, .int .i64 n, v]
theorem bld_item (k : Int) (w : World) : (Instr.build 73 #[(0, .int .i64 k)]).run Try.prog w = .ok (.agg (itemV k 0 (.slice none 0 0)).toArray) w := by kernel_rfl
theorem itemV_c1 {k n : Int} {v : Value} (h : v.oneCell' = true) : Cells1 (itemV k n v) := fun u hu => by
  simp only [itemV, List.mem_cons, List.not_mem_nil, or_false] at hu
  rcases hu with rfl | rfl | rfl
  · rfl
  · rfl
  · exact h

/-- What Read of a number leaves. -/
def RrA (b : Nat) (bv : Value) (p : Nat) (w0 : World) : Except Int (Nat × Nat) → Ending → World → Prop
  | .ok (u, q), e, w' => e = .returned (.agg (itemV 1 u (.slice none 0 0)).toArray) ∧ Step [b] [RRB b bv q 0] w0 w'
  | .error er, e, w' => e = .returned (.agg (itemV 1 0 (.slice none 0 0)).toArray) ∧ Step [b] [RRB b bv p er] w0 w'
theorem RrA.ok {b p : Nat} {bv : Value} {w0 w' : World} {e : Ending} {r : Except Int (Nat × Nat)} {u q : Nat} (hr : r = .ok (u, q)) (he : e = .returned (.agg (itemV 1 u (.slice none 0 0)).toArray)) (hs : Step [b] [RRB b bv q 0] w0 w') : RrA b bv p w0 r e w' := by subst hr; exact ⟨he, hs⟩
theorem RrA.err {b p : Nat} {bv : Value} {w0 w' : World} {e : Ending} {r : Except Int (Nat × Nat)} {er : Int} (hr : r = .error er) (he : e = .returned (.agg (itemV 1 0 (.slice none 0 0)).toArray)) (hs : Step [b] [RRB b bv p er] w0 w') : RrA b bv p w0 r e w' := by subst hr; exact ⟨he, hs⟩

theorem readNum_at {b p : Nat} {bs : List UInt8} {bv : Value} {r : Except Int (Nat × Nat)} (hr : numP bs p = r) (w0 : World) (h : RrOk w0 b bs bv p) (hpl : p ≤ bs.length) : Calls Try.prog 51 #[.pointer (some ⟨b, 0, none⟩), .int .i64 1, .int .i64 0] w0 (RrA b bv p w0 r) := by
  have hlen := h.len
  have hs := h.own
  unfold RRB at hs
  refine calls (n := 115) Try.func51 rfl rfl rfl ?_
  refine CW.seq ?_
  refine CW.reg ?_
  refine WL.alloc ty73 rfl hs (fun b6 w hs => ?_)
  refine WL.nil ?_
  refine CW.seq ?_
  refine CW.reg ?_
  refine WL.val rfl (run_move) ?_
  refine WL.val rfl (run_build rfl (bld_item _ _)) ?_
  refine WL.alloc ty73 rfl hs (fun b7 w hs => ?_)
  refine WL.storeAll ty73 rfl rfl ((rfl)) (itemV_c1 rfl) hs (by first | rfl | assumption) (fun w hs => ?_)
  refine WL.nil ?_
  refine CW.seq <| CW.seq ?_
  refine CW.reg ?_
  refine WL.val rfl (run_move) ?_
  refine WL.nil ?_
  repeat (first | refine CW.seq ?_ | refine CW.block ?_)
  refine CW.reg ?_
  refine WL.val rfl (run_bT (run_eql rfl rfl) (by rfl)) ?_
  refine WL.val rfl (run_assign) ?_
  refine WL.nil ?_
  replace hs := Step.front [_, _] hs
  have hnx : RrOk w b bs bv p := h.next hs
  cases hn : numP bs p with
  | error er =>
    have e : r = .error er := by rw [← hr]; exact hn
    repeat (first | refine CW.seq ?_ | refine CW.condT rfl ?_)
    refine CW.reg ?_
    refine WL.val rfl (run_move) ?_
    refine WL.enter rfl (run_call en72 rfl rfl) (numR_at hn _ hnx hpl) ?_
    rintro e w ⟨rfl, hq⟩
    refine ⟨_, rfl, ?_⟩
    replace hs := Step.call (L1 := [_]) hs hq
    unfold RRB at hs
    refine WL.val rfl (run_move) ?_
    refine WL.val rfl (run_extract rfl rfl) ?_
    refine WL.val rfl (run_extract rfl rfl) ?_
    refine WL.val rfl (run_assign) ?_
    refine WL.val rfl (run_assign) ?_
    refine WL.nil ?_
    refine CW.seq ?_
    refine CW.reg ?_
    refine WL.val rfl (run_move) ?_
    refine WL.val rfl (run_field (o' := 1) Try.underlying73 rfl ty3 rfl rfl rfl) ?_
    refine WL.store1_1 ty3 rfl rfl (rfl) hs (by first | (simp; done) | omega | (simp only [List.length_append, List.length_replicate, List.length_cons, List.length_nil, List.length_set]; omega) | (simp [Ent.cells, u8s]; done) | exact Nat.le_of_ble_eq_true rfl) (fun w hs => ?_)
    refine WL.nil ?_
    refine CW.reg ?_
    refine WL.val rfl (run_move) ?_
    refine WL.val rfl (run_move) ?_
    refine WL.val rfl (run_nilCheck rfl) ?_
    refine WL.val rfl (run_field (o' := 1) Try.underlying85 rfl ty3 rfl rfl rfl) ?_
    refine WL.val rfl (run_load1 ty3 rfl (hs.c0 rfl)) ?_
    refine WL.val rfl (run_move) ?_
    refine WL.val rfl (run_add (c := (p : Int)) rfl rfl (by omega) (by omega)) ?_
    refine WL.val rfl (run_nilCheck rfl) ?_
    refine WL.val rfl (run_field (o' := 1) Try.underlying85 rfl ty3 rfl rfl rfl) ?_
    refine WL.store1 ty3 rfl rfl (rfl) hs (by first | (simp; done) | omega | (simp only [List.length_append, List.length_replicate, List.length_cons, List.length_nil, List.length_set]; omega) | (simp [Ent.cells, u8s]; done) | exact Nat.le_of_ble_eq_true rfl) (fun w hs => ?_)
    refine WL.nil ?_
    refine CW.seq ?_
    refine CW.reg ?_
    refine WL.val rfl (run_loadN ty73 rfl (by first | rfl | assumption | (simp; done)) hs.a1) ?_
    refine WL.storeAll_2 ty73 rfl rfl (by first | rfl | assumption) (by first | assumption | exact Cells1.of_all rfl | exact Ent.cells1 _) hs (by first | rfl | assumption) (fun w hs => ?_)
    refine WL.nil ?_
    refine CW.ret ?_
    refine fin_cell1 rfl rfl (run_loadVarN ty73 rfl hs.a2) ?_
    exact .err e rfl (Step.dropR (L1 := [_]) hs)
  | ok uq =>
    obtain ⟨u, q⟩ := uq
    have hb := numP_ok hn
    have e : r = .ok (u, q) := by rw [← hr]; exact hn
    repeat (first | refine CW.seq ?_ | refine CW.condT rfl ?_)
    refine CW.reg ?_
    refine WL.val rfl (run_move) ?_
    refine WL.enter rfl (run_call en72 rfl rfl) (numR_at hn _ hnx hpl) ?_
    rintro e w ⟨rfl, hq⟩
    refine ⟨_, rfl, ?_⟩
    replace hs := Step.call (L1 := [_]) hs hq
    unfold RRB at hs
    refine WL.val rfl (run_move) ?_
    refine WL.val rfl (run_extract rfl rfl) ?_
    refine WL.val rfl (run_extract rfl rfl) ?_
    refine WL.val rfl (run_assign) ?_
    refine WL.val rfl (run_assign) ?_
    refine WL.nil ?_
    refine CW.seq ?_
    refine CW.reg ?_
    refine WL.val rfl (run_move) ?_
    refine WL.val rfl (run_field (o' := 1) Try.underlying73 rfl ty3 rfl rfl rfl) ?_
    refine WL.store1_1 ty3 rfl rfl (rfl) hs (by first | (simp; done) | omega | (simp only [List.length_append, List.length_replicate, List.length_cons, List.length_nil, List.length_set]; omega) | (simp [Ent.cells, u8s]; done) | exact Nat.le_of_ble_eq_true rfl) (fun w hs => ?_)
    refine WL.nil ?_
    refine CW.reg ?_
    refine WL.val rfl (run_move) ?_
    refine WL.val rfl (run_move) ?_
    refine WL.val rfl (run_nilCheck rfl) ?_
    refine WL.val rfl (run_field (o' := 1) Try.underlying85 rfl ty3 rfl rfl rfl) ?_
    refine WL.val rfl (run_load1 ty3 rfl (hs.c0 rfl)) ?_
    refine WL.val rfl (run_move) ?_
    refine WL.val rfl (run_add (c := (q : Int)) rfl rfl (by omega) (by omega)) ?_
    refine WL.val rfl (run_nilCheck rfl) ?_
    refine WL.val rfl (run_field (o' := 1) Try.underlying85 rfl ty3 rfl rfl rfl) ?_
    refine WL.store1 ty3 rfl rfl (rfl) hs (by first | (simp; done) | omega | (simp only [List.length_append, List.length_replicate, List.length_cons, List.length_nil, List.length_set]; omega) | (simp [Ent.cells, u8s]; done) | exact Nat.le_of_ble_eq_true rfl) (fun w hs => ?_)
    refine WL.nil ?_
    refine CW.seq ?_
    refine CW.reg ?_
    refine WL.val rfl (run_loadN ty73 rfl (by first | rfl | assumption | (simp; done)) hs.a1) ?_
    refine WL.storeAll_2 ty73 rfl rfl (by first | rfl | assumption) (by first | assumption | exact Cells1.of_all rfl | exact Ent.cells1 _) hs (by first | rfl | assumption) (fun w hs => ?_)
    refine WL.nil ?_
    refine CW.ret ?_
    refine fin_cell1 rfl rfl (run_loadVarN ty73 rfl hs.a2) ?_
    exact .ok e rfl (Step.dropR (L1 := [_]) hs)

/-- What Read of bytes leaves. -/
def RrB (b : Nat) (bv : Value) (p : Nat) (kd : Int) (w0 : World) : Except Int (List UInt8 × Nat) → Ending → World → Prop
  | .ok (s, q), e, w' => ∃ v Lv, e = .returned (.agg (itemV kd 0 v).toArray) ∧ OwnSl 5 1 v s.length (u8s s) Lv ∧ Step [b] (RRB b bv q 0 :: Lv) w0 w'
  | .error er, e, w' => e = .returned (.agg (itemV kd 0 (.slice none 0 0)).toArray) ∧ Step [b] [RRB b bv p er] w0 w'
theorem RrB.ok {b p : Nat} {bv v : Value} {w0 w' : World} {kd : Int} {e : Ending} {r : Except Int (List UInt8 × Nat)} {s : List UInt8} {q : Nat} {Lv : List (Nat × Obj)} (hr : r = .ok (s, q)) (he : e = .returned (.agg (itemV kd 0 v).toArray)) (hv : OwnSl 5 1 v s.length (u8s s) Lv) (hs : Step [b] (RRB b bv q 0 :: Lv) w0 w') : RrB b bv p kd w0 r e w' := by subst hr; exact ⟨v, Lv, he, hv, hs⟩
theorem RrB.err {b p : Nat} {bv : Value} {w0 w' : World} {kd : Int} {e : Ending} {r : Except Int (List UInt8 × Nat)} {er : Int} (hr : r = .error er) (he : e = .returned (.agg (itemV kd 0 (.slice none 0 0)).toArray)) (hs : Step [b] [RRB b bv p er] w0 w') : RrB b bv p kd w0 r e w' := by subst hr; exact ⟨he, hs⟩

theorem readBytes_at {b p : Nat} {bs : List UInt8} {bv : Value} {kd : Int} {r : Except Int (List UInt8 × Nat)} (hr : bytesP bs p = r) (hkd : kd = 5 ∨ kd = 4) (w0 : World) (h : RrOk w0 b bs bv p) (hpl : p ≤ bs.length) : Calls Try.prog 51 #[.pointer (some ⟨b, 0, none⟩), .int .i64 kd, .int .i64 0] w0 (RrB b bv p kd w0 r) := by
  have hlen := h.len
  have hs := h.own
  unfold RRB at hs
  rcases hkd with rfl | rfl
  · refine calls (n := 115) Try.func51 rfl rfl rfl ?_
    refine CW.seq ?_
    refine CW.reg ?_
    refine WL.alloc ty73 rfl hs (fun b6 w hs => ?_)
    refine WL.nil ?_
    refine CW.seq ?_
    refine CW.reg ?_
    refine WL.val rfl (run_move) ?_
    refine WL.val rfl (run_build rfl (bld_item _ _)) ?_
    refine WL.alloc ty73 rfl hs (fun b7 w hs => ?_)
    refine WL.storeAll ty73 rfl rfl ((rfl)) (itemV_c1 rfl) hs (by first | rfl | assumption) (fun w hs => ?_)
    refine WL.nil ?_
    refine CW.seq <| CW.seq ?_
    refine CW.reg ?_
    refine WL.val rfl (run_move) ?_
    refine WL.nil ?_
    repeat (first | refine CW.seq ?_ | refine CW.block ?_)
    refine CW.reg ?_
    refine WL.val rfl (run_bF (run_eql rfl rfl) (by decide)) ?_
    refine WL.val rfl (run_assign) ?_
    refine WL.nil ?_
    repeat (first | refine CW.seq ?_ | refine CW.condF rfl ?_)
    refine CW.reg ?_
    refine WL.val rfl (run_bF (run_eql rfl rfl) (by decide)) ?_
    refine WL.val rfl (run_assign) ?_
    refine WL.nil ?_
    repeat (first | refine CW.seq ?_ | refine CW.condF rfl ?_)
    refine CW.reg ?_
    refine WL.val rfl (run_bF (run_eql rfl rfl) (by decide)) ?_
    refine WL.val rfl (run_assign) ?_
    refine WL.nil ?_
    repeat (first | refine CW.seq ?_ | refine CW.condF rfl ?_)
    refine CW.reg ?_
    refine WL.val rfl (run_bF (run_eql rfl rfl) (by decide)) ?_
    refine WL.val rfl (run_assign) ?_
    refine WL.nil ?_
    refine CW.condF rfl ?_
    refine CW.reg ?_
    refine WL.val rfl (run_bT (run_eql rfl rfl) (by decide)) ?_
    refine WL.val rfl (run_assign) ?_
    refine WL.nil ?_
    replace hs := Step.front [_, _] hs
    have hnx : RrOk w b bs bv p := h.next hs
    cases hn : numP bs p with
    | error er =>
      have e : r = .error er := by rw [← hr]; unfold bytesP; rw [hn]
      repeat (first | refine CW.seq ?_ | refine CW.condT rfl ?_)
      refine CW.reg ?_
      refine WL.val rfl (run_move) ?_
      refine WL.enter rfl (run_call en72 rfl rfl) (numR_at hn _ hnx hpl) ?_
      rintro e w ⟨rfl, hq⟩
      refine ⟨_, rfl, ?_⟩
      replace hs := Step.call (L1 := [_]) hs hq
      unfold RRB at hs
      refine WL.val rfl (run_move) ?_
      refine WL.val rfl (run_extract rfl rfl) ?_
      refine WL.val rfl (run_extract rfl rfl) ?_
      refine WL.val rfl (run_assign) ?_
      refine WL.val rfl (run_assign) ?_
      refine WL.nil ?_
      refine CW.seq ?_
      refine CW.reg ?_
      refine WL.val rfl (run_move) ?_
      refine WL.val rfl (run_bF (run_gtr rfl rfl) (by omega)) ?_
      refine WL.nil ?_
      repeat (first | refine CW.seq ?_ | refine CW.skip ?_ | refine CW.condF rfl ?_)
      refine CW.reg ?_
      refine WL.val rfl (run_loadN ty73 rfl (by first | rfl | assumption | (simp; done)) hs.a1) ?_
      refine WL.storeAll_2 ty73 rfl rfl ((rfl)) (itemV_c1 (by first | rfl | exact hv.one)) hs (by first | rfl | assumption) (fun w hs => ?_)
      refine WL.nil ?_
      refine CW.ret ?_
      refine fin_cell1 rfl rfl (run_loadVarN ty73 rfl hs.a2) ?_
      exact .err e rfl (Step.dropR (L1 := [_]) hs)
    | ok uq =>
      obtain ⟨u, q⟩ := uq
      have hb := numP_ok hn
      have hpq : p + (q - p) = q := by omega
      by_cases hbig : bs.length < q + u
      · have e : r = .error 11 := by rw [← hr]; unfold bytesP; rw [hn]; exact if_pos hbig
        repeat (first | refine CW.seq ?_ | refine CW.condT rfl ?_)
        refine CW.reg ?_
        refine WL.val rfl (run_move) ?_
        refine WL.enter rfl (run_call en72 rfl rfl) (numR_at hn _ hnx hpl) ?_
        rintro e w ⟨rfl, hq⟩
        refine ⟨_, rfl, ?_⟩
        replace hs := Step.call (L1 := [_]) hs hq
        refine WL.val rfl (run_move) ?_
        refine WL.val rfl (run_extract rfl rfl) ?_
        refine WL.val rfl (run_extract rfl rfl) ?_
        refine WL.val rfl (run_assign) ?_
        refine WL.val rfl (run_assign) ?_
        refine WL.nil ?_
        have hnx2 : RrOk w b bs bv p := h.next hs
        refine CW.seq ?_
        refine CW.reg ?_
        refine WL.val rfl (run_move) ?_
        refine WL.val rfl (run_bT (run_gtr rfl rfl) (by omega)) ?_
        refine WL.nil ?_
        have ht : ∀ e w', RrT b bv bs p (q - p) u w e w' → e = .returned (.slice none 0 0) ∧ Step [b] [RRB b bv p 11] w w' := fun e w' h => by
          unfold RrT at h
          rw [hpq] at h
          exact (if_pos hbig).mp h
        refine CW.condT rfl ?_
        refine CW.reg ?_
        refine WL.val rfl (run_move) ?_
        refine WL.val rfl (run_move) ?_
        refine WL.val rfl (run_move) ?_
        refine WL.enter rfl (run_call en74 rfl rfl) ((takeR_at w hnx2 (k := q - p) (n := u) (by omega) (by omega) (by omega)).mono ht) ?_
        rintro e w ⟨rfl, hq⟩
        refine ⟨_, rfl, ?_⟩
        replace hs := Step.call (L1 := [_]) hs hq
        refine WL.val rfl (run_field (o' := 2) Try.underlying73 rfl ty29 rfl rfl rfl) ?_
        refine WL.store1_1 ty29 rfl rfl (rfl) hs (by first | (simp; done) | omega | (simp only [List.length_append, List.length_replicate, List.length_cons, List.length_nil, List.length_set]; omega) | (simp [Ent.cells, u8s]; done) | exact Nat.le_of_ble_eq_true rfl) (fun w hs => ?_)
        refine WL.nil ?_
        refine CW.seq ?_
        refine CW.reg ?_
        refine WL.val rfl (run_loadN ty73 rfl (by first | rfl | assumption | (simp; done)) hs.a1) ?_
        refine WL.storeAll_2 ty73 rfl rfl ((rfl)) (itemV_c1 (by first | rfl | exact hv.one)) hs (by first | rfl | assumption) (fun w hs => ?_)
        refine WL.nil ?_
        refine CW.ret ?_
        refine fin_cell1 rfl rfl (run_loadVarN ty73 rfl hs.a2) ?_
        exact .err e rfl (Step.dropR (L1 := [_]) hs)
      · have e : r = .ok ((bs.drop q).take u, q + u) := by rw [← hr]; unfold bytesP; rw [hn]; exact if_neg hbig
        have hul : ((bs.drop q).take u).length = u := by simp; omega
        repeat (first | refine CW.seq ?_ | refine CW.condT rfl ?_)
        refine CW.reg ?_
        refine WL.val rfl (run_move) ?_
        refine WL.enter rfl (run_call en72 rfl rfl) (numR_at hn _ hnx hpl) ?_
        rintro e w ⟨rfl, hq⟩
        refine ⟨_, rfl, ?_⟩
        replace hs := Step.call (L1 := [_]) hs hq
        refine WL.val rfl (run_move) ?_
        refine WL.val rfl (run_extract rfl rfl) ?_
        refine WL.val rfl (run_extract rfl rfl) ?_
        refine WL.val rfl (run_assign) ?_
        refine WL.val rfl (run_assign) ?_
        refine WL.nil ?_
        have hnx2 : RrOk w b bs bv p := h.next hs
        refine CW.seq ?_
        refine CW.reg ?_
        refine WL.val rfl (run_move) ?_
        refine WL.val rfl (run_bT (run_gtr rfl rfl) (by omega)) ?_
        refine WL.nil ?_
        have ht : ∀ e w', RrT b bv bs p (q - p) u w e w' → ∃ v Lv, e = .returned v ∧ OwnSl 5 1 v u (u8s ((bs.drop q).take u)) Lv ∧ Step [b] (RRB b bv (q + u) 0 :: Lv) w w' := fun e w' h => by
          unfold RrT at h
          rw [hpq] at h
          exact (if_neg hbig).mp h
        refine CW.condT rfl ?_
        refine CW.reg ?_
        refine WL.val rfl (run_move) ?_
        refine WL.val rfl (run_move) ?_
        refine WL.val rfl (run_move) ?_
        refine WL.enter rfl (run_call en74 rfl rfl) ((takeR_at w hnx2 (k := q - p) (n := u) (by omega) (by omega) (by omega)).mono ht) ?_
        rintro e w ⟨v, Lv, rfl, hv, hq⟩
        refine ⟨_, rfl, ?_⟩
        replace hs := Step.append_comm (L2 := [_, _]) (Step.call (L1 := [_]) hs hq)
        refine WL.val rfl (run_field (o' := 2) Try.underlying73 rfl ty29 rfl rfl rfl) ?_
        refine WL.store1 ty29 rfl rfl (hv.one) hs (by first | (simp; done) | omega | (simp only [List.length_append, List.length_replicate, List.length_cons, List.length_nil, List.length_set]; omega) | (simp [Ent.cells, u8s]; done) | exact Nat.le_of_ble_eq_true rfl) (fun w hs => ?_)
        refine WL.nil ?_
        refine CW.seq ?_
        refine CW.reg ?_
        refine WL.val rfl (run_loadN ty73 rfl (by first | rfl | assumption | (simp; done)) hs.a0) ?_
        refine WL.storeAll_1 ty73 rfl rfl ((rfl)) (itemV_c1 hv.one) hs (by first | rfl | assumption) (fun w hs => ?_)
        refine WL.nil ?_
        refine CW.ret ?_
        refine fin_cell1 rfl rfl (run_loadVarN ty73 rfl hs.a1) ?_
        exact .ok e rfl (by rw [hul]; exact hv) (Step.dropL (L1 := [_, _]) hs)
  · refine calls (n := 115) Try.func51 rfl rfl rfl ?_
    refine CW.seq ?_
    refine CW.reg ?_
    refine WL.alloc ty73 rfl hs (fun b6 w hs => ?_)
    refine WL.nil ?_
    refine CW.seq ?_
    refine CW.reg ?_
    refine WL.val rfl (run_move) ?_
    refine WL.val rfl (run_build rfl (bld_item _ _)) ?_
    refine WL.alloc ty73 rfl hs (fun b7 w hs => ?_)
    refine WL.storeAll ty73 rfl rfl ((rfl)) (itemV_c1 rfl) hs (by first | rfl | assumption) (fun w hs => ?_)
    refine WL.nil ?_
    refine CW.seq <| CW.seq ?_
    refine CW.reg ?_
    refine WL.val rfl (run_move) ?_
    refine WL.nil ?_
    repeat (first | refine CW.seq ?_ | refine CW.block ?_)
    refine CW.reg ?_
    refine WL.val rfl (run_bF (run_eql rfl rfl) (by decide)) ?_
    refine WL.val rfl (run_assign) ?_
    refine WL.nil ?_
    repeat (first | refine CW.seq ?_ | refine CW.condF rfl ?_)
    refine CW.reg ?_
    refine WL.val rfl (run_bF (run_eql rfl rfl) (by decide)) ?_
    refine WL.val rfl (run_assign) ?_
    refine WL.nil ?_
    repeat (first | refine CW.seq ?_ | refine CW.condF rfl ?_)
    refine CW.reg ?_
    refine WL.val rfl (run_bF (run_eql rfl rfl) (by decide)) ?_
    refine WL.val rfl (run_assign) ?_
    refine WL.nil ?_
    repeat (first | refine CW.seq ?_ | refine CW.condF rfl ?_)
    refine CW.reg ?_
    refine WL.val rfl (run_bT (run_eql rfl rfl) (by decide)) ?_
    refine WL.val rfl (run_assign) ?_
    refine WL.nil ?_
    replace hs := Step.front [_, _] hs
    have hnx : RrOk w b bs bv p := h.next hs
    cases hn : numP bs p with
    | error er =>
      have e : r = .error er := by rw [← hr]; unfold bytesP; rw [hn]
      repeat (first | refine CW.seq ?_ | refine CW.skip ?_ | refine CW.condT rfl ?_)
      refine CW.reg ?_
      refine WL.val rfl (run_move) ?_
      refine WL.enter rfl (run_call en72 rfl rfl) (numR_at hn _ hnx hpl) ?_
      rintro e w ⟨rfl, hq⟩
      refine ⟨_, rfl, ?_⟩
      replace hs := Step.call (L1 := [_]) hs hq
      unfold RRB at hs
      refine WL.val rfl (run_move) ?_
      refine WL.val rfl (run_extract rfl rfl) ?_
      refine WL.val rfl (run_extract rfl rfl) ?_
      refine WL.val rfl (run_assign) ?_
      refine WL.val rfl (run_assign) ?_
      refine WL.nil ?_
      refine CW.seq ?_
      refine CW.reg ?_
      refine WL.val rfl (run_move) ?_
      refine WL.val rfl (run_bF (run_gtr rfl rfl) (by omega)) ?_
      refine WL.nil ?_
      repeat (first | refine CW.seq ?_ | refine CW.skip ?_ | refine CW.condF rfl ?_)
      refine CW.reg ?_
      refine WL.val rfl (run_loadN ty73 rfl (by first | rfl | assumption | (simp; done)) hs.a1) ?_
      refine WL.storeAll_2 ty73 rfl rfl ((rfl)) (itemV_c1 (by first | rfl | exact hv.one)) hs (by first | rfl | assumption) (fun w hs => ?_)
      refine WL.nil ?_
      refine CW.ret ?_
      refine fin_cell1 rfl rfl (run_loadVarN ty73 rfl hs.a2) ?_
      exact .err e rfl (Step.dropR (L1 := [_]) hs)
    | ok uq =>
      obtain ⟨u, q⟩ := uq
      have hb := numP_ok hn
      have hpq : p + (q - p) = q := by omega
      by_cases hbig : bs.length < q + u
      · have e : r = .error 11 := by rw [← hr]; unfold bytesP; rw [hn]; exact if_pos hbig
        repeat (first | refine CW.seq ?_ | refine CW.skip ?_ | refine CW.condT rfl ?_)
        refine CW.reg ?_
        refine WL.val rfl (run_move) ?_
        refine WL.enter rfl (run_call en72 rfl rfl) (numR_at hn _ hnx hpl) ?_
        rintro e w ⟨rfl, hq⟩
        refine ⟨_, rfl, ?_⟩
        replace hs := Step.call (L1 := [_]) hs hq
        refine WL.val rfl (run_move) ?_
        refine WL.val rfl (run_extract rfl rfl) ?_
        refine WL.val rfl (run_extract rfl rfl) ?_
        refine WL.val rfl (run_assign) ?_
        refine WL.val rfl (run_assign) ?_
        refine WL.nil ?_
        have hnx2 : RrOk w b bs bv p := h.next hs
        refine CW.seq ?_
        refine CW.reg ?_
        refine WL.val rfl (run_move) ?_
        refine WL.val rfl (run_bT (run_gtr rfl rfl) (by omega)) ?_
        refine WL.nil ?_
        have ht : ∀ e w', RrT b bv bs p (q - p) u w e w' → e = .returned (.slice none 0 0) ∧ Step [b] [RRB b bv p 11] w w' := fun e w' h => by
          unfold RrT at h
          rw [hpq] at h
          exact (if_pos hbig).mp h
        refine CW.condT rfl ?_
        refine CW.reg ?_
        refine WL.val rfl (run_move) ?_
        refine WL.val rfl (run_move) ?_
        refine WL.val rfl (run_move) ?_
        refine WL.enter rfl (run_call en74 rfl rfl) ((takeR_at w hnx2 (k := q - p) (n := u) (by omega) (by omega) (by omega)).mono ht) ?_
        rintro e w ⟨rfl, hq⟩
        refine ⟨_, rfl, ?_⟩
        replace hs := Step.call (L1 := [_]) hs hq
        refine WL.val rfl (run_field (o' := 2) Try.underlying73 rfl ty29 rfl rfl rfl) ?_
        refine WL.store1_1 ty29 rfl rfl (rfl) hs (by first | (simp; done) | omega | (simp only [List.length_append, List.length_replicate, List.length_cons, List.length_nil, List.length_set]; omega) | (simp [Ent.cells, u8s]; done) | exact Nat.le_of_ble_eq_true rfl) (fun w hs => ?_)
        refine WL.nil ?_
        refine CW.seq ?_
        refine CW.reg ?_
        refine WL.val rfl (run_loadN ty73 rfl (by first | rfl | assumption | (simp; done)) hs.a1) ?_
        refine WL.storeAll_2 ty73 rfl rfl ((rfl)) (itemV_c1 (by first | rfl | exact hv.one)) hs (by first | rfl | assumption) (fun w hs => ?_)
        refine WL.nil ?_
        refine CW.ret ?_
        refine fin_cell1 rfl rfl (run_loadVarN ty73 rfl hs.a2) ?_
        exact .err e rfl (Step.dropR (L1 := [_]) hs)
      · have e : r = .ok ((bs.drop q).take u, q + u) := by rw [← hr]; unfold bytesP; rw [hn]; exact if_neg hbig
        have hul : ((bs.drop q).take u).length = u := by simp; omega
        repeat (first | refine CW.seq ?_ | refine CW.skip ?_ | refine CW.condT rfl ?_)
        refine CW.reg ?_
        refine WL.val rfl (run_move) ?_
        refine WL.enter rfl (run_call en72 rfl rfl) (numR_at hn _ hnx hpl) ?_
        rintro e w ⟨rfl, hq⟩
        refine ⟨_, rfl, ?_⟩
        replace hs := Step.call (L1 := [_]) hs hq
        refine WL.val rfl (run_move) ?_
        refine WL.val rfl (run_extract rfl rfl) ?_
        refine WL.val rfl (run_extract rfl rfl) ?_
        refine WL.val rfl (run_assign) ?_
        refine WL.val rfl (run_assign) ?_
        refine WL.nil ?_
        have hnx2 : RrOk w b bs bv p := h.next hs
        refine CW.seq ?_
        refine CW.reg ?_
        refine WL.val rfl (run_move) ?_
        refine WL.val rfl (run_bT (run_gtr rfl rfl) (by omega)) ?_
        refine WL.nil ?_
        have ht : ∀ e w', RrT b bv bs p (q - p) u w e w' → ∃ v Lv, e = .returned v ∧ OwnSl 5 1 v u (u8s ((bs.drop q).take u)) Lv ∧ Step [b] (RRB b bv (q + u) 0 :: Lv) w w' := fun e w' h => by
          unfold RrT at h
          rw [hpq] at h
          exact (if_neg hbig).mp h
        refine CW.condT rfl ?_
        refine CW.reg ?_
        refine WL.val rfl (run_move) ?_
        refine WL.val rfl (run_move) ?_
        refine WL.val rfl (run_move) ?_
        refine WL.enter rfl (run_call en74 rfl rfl) ((takeR_at w hnx2 (k := q - p) (n := u) (by omega) (by omega) (by omega)).mono ht) ?_
        rintro e w ⟨v, Lv, rfl, hv, hq⟩
        refine ⟨_, rfl, ?_⟩
        replace hs := Step.append_comm (L2 := [_, _]) (Step.call (L1 := [_]) hs hq)
        refine WL.val rfl (run_field (o' := 2) Try.underlying73 rfl ty29 rfl rfl rfl) ?_
        refine WL.store1 ty29 rfl rfl (hv.one) hs (by first | (simp; done) | omega | (simp only [List.length_append, List.length_replicate, List.length_cons, List.length_nil, List.length_set]; omega) | (simp [Ent.cells, u8s]; done) | exact Nat.le_of_ble_eq_true rfl) (fun w hs => ?_)
        refine WL.nil ?_
        refine CW.seq ?_
        refine CW.reg ?_
        refine WL.val rfl (run_loadN ty73 rfl (by first | rfl | assumption | (simp; done)) hs.a0) ?_
        refine WL.storeAll_1 ty73 rfl rfl ((rfl)) (itemV_c1 hv.one) hs (by first | rfl | assumption) (fun w hs => ?_)
        refine WL.nil ?_
        refine CW.ret ?_
        refine fin_cell1 rfl rfl (run_loadVarN ty73 rfl hs.a1) ?_
        exact .ok e rfl (by rw [hul]; exact hv) (Step.dropL (L1 := [_, _]) hs)
end Go.Gx
