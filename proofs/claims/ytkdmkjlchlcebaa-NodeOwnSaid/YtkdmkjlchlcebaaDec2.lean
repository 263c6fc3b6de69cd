/- mint.Read of node.Decode's reading function: its deferred call; node.Decode. -/
import Derived.Test.YtkdmkjlchlcebaaDec
namespace Go.Gx
open Go.Proofs
set_option linter.unusedVariables false
set_option linter.unusedSimpArgs false
set_option maxRecDepth 100000

section
variable {P : Program} {f : Slots} {w : World} {d : Option Tmp} {ty : TypeId} {pos : String} {af : Array Edge} {x y : Operand} {I T' : TypeId}
theorem run_neqIfaceNil {ms : _} {T : TypeId} {v : Value} (ht : P.underlying I = some (.interface ms)) (hx : ev f x = .iface T v) :
    (execOp (ev f) ⟨d, .binOp .neq I x (.const .nilIface) T', ty, pos, af, none⟩).run P w = .ok (.value (.bool true)) w := by
  have e : ev f (.const .nilIface) = .nilIface := rfl
  have h0 : ∀ d, (Op.equalIn (d + 1) I (.iface T v) .nilIface).run P w = .ok false w := fun d => by simp [Op.equalIn, run_underlying ht]
  have h : (Op.equal I (.iface T v) .nilIface).run P w = .ok false w := h0 9999
  simp [execOp, hx, e, eqGuard, binOp, h]
theorem run_neqNilNil {ms : _} (ht : P.underlying I = some (.interface ms)) (hx : ev f x = .nilIface) :
    (execOp (ev f) ⟨d, .binOp .neq I x (.const .nilIface) T', ty, pos, af, none⟩).run P w = .ok (.value (.bool false)) w := by
  have e : ev f (.const .nilIface) = .nilIface := rfl
  have h0 : ∀ d, (Op.equalIn (d + 1) I .nilIface .nilIface).run P w = .ok true w := fun d => by simp [Op.equalIn, run_underlying ht]
  have h : (Op.equal I .nilIface .nilIface).run P w = .ok true w := h0 9999
  simp [execOp, hx, e, eqGuard, binOp, h]
theorem run_neqPtrSame {E : TypeId} {agg : Bool} {n by_ : Nat} {zs : List Value} {a : Addr} (ht : P.underlying I = some (.pointer E)) (hE : Ty P E agg n by_ zs) (hn : n ≠ 0) (hx : ev f x = .pointer (some a)) (hy : ev f y = .pointer (some a)) :
    (execOp (ev f) ⟨d, .binOp .neq I x y T', ty, pos, af, none⟩).run P w = .ok (.value (.bool false)) w := by
  have h0 : ∀ d, (Op.equalIn (d + 1) I (.pointer (some a)) (.pointer (some a))).run P w = .ok true w := fun d => by simp [Op.equalIn, run_underlying ht, run_sizeOf hE, hn, sameAddr]
  have h : (Op.equal I (.pointer (some a)) (.pointer (some a))).run P w = .ok true w := h0 9999
  simp [execOp, hx, hy, eqGuard, binOp, h]
theorem run_tA {v r : Value} {T A : TypeId} {ok : Bool} (hx : ev f x = v) (h : (Instr.typeAssert v T A ok).run P w = .ok r w) :
    (execOp (ev f) ⟨d, .typeAssert x T A ok, ty, pos, af, none⟩).run P w = .ok (.value r) w := by
  simp [execOp, hx, h]
end

theorem tA_nil (w : World) : (Instr.typeAssert .nilIface 20 106 true).run Try.prog w = .ok (.tuple #[.agg #[.pointer none], .bool false]) w := by kernel_rfl

/-- What Read's deferred call works on: the Reader, the pointer to it, the error's cell. -/
def RdL (b5 b9 b4 : Nat) (bv : Value) (q : Nat) (ov : Bool) (ft er : Int) : List (Nat × Obj) := [(b9, blk 104 [bv, .int .i64 q, .bool ov, .int .i64 ft]), (b5, blk 77 [.pointer (some ⟨b9, 0, none⟩)]), (b4, blk 25 [.int .i64 er])]

theorem rd1_ret {b5 b9 b4 q m c : Nat} {a : Option Addr} (w0 : World) (hO : Step [b9, b5, b4] (RdL b5 b9 b4 (.slice a m c) q false 0 0) w0 w0) :
    CallsD Try.prog 68 #[.pointer (some ⟨b5, 0, none⟩), .pointer (some ⟨b4, 0, none⟩)] .returning w0 fun e u' w' => (∃ v, e = .returned v) ∧ settle u' = .returning ∧ Step [b9, b5, b4] (RdL b5 b9 b4 (.slice a m c) q true 0 (if q < m then 13 else 0)) w0 w' := by
  have hs := hO
  unfold RdL at hs
  refine callsD_rec (n := 48) Try.func68 rfl rfl rfl ?_
  intro c0 cs hc0
  refine CS.seq (CS.of ?_)
  repeat (first | refine CW.seq ?_ | refine CW.block ?_ | refine CW.skip ?_ | refine CW.label ?_ | refine CW.exit ?_ | refine CW.condT rfl ?_ | refine CW.condF rfl ?_)
  refine CW.reg ?_
  refine WL.val rfl (run_load1 ty77 rfl (hs.c1 rfl)) ?_
  refine WL.val rfl (run_nilCheck rfl) ?_
  refine WL.val rfl (run_field (o' := 2) Try.underlying104 rfl ty4 rfl rfl rfl) ?_
  refine WL.store1 ty4 rfl rfl (rfl) (hs) (by first | (simp; done) | omega | (simp only [List.length_append, List.length_replicate, List.length_cons, List.length_nil, List.length_set]; omega) | (simp [Ent.cells, u8s]; done) | exact Nat.le_of_ble_eq_true rfl) (fun w hs => ?_)
  refine WL.nil ?_
  refine CS.seq (CS.recover (v := .nilIface) (cs' := c0 :: cs) rfl rfl (.inr ⟨by simp [recoverD, hc0], rfl, rfl⟩) ?_)
  refine CS.of ?_
  repeat (first | refine CW.seq ?_ | refine CW.block ?_ | refine CW.skip ?_ | refine CW.label ?_ | refine CW.exit ?_ | refine CW.condT rfl ?_ | refine CW.condF rfl ?_)
  refine CW.reg ?_
  refine WL.val rfl (run_move) ?_
  refine WL.val rfl (run_tA rfl (tA_nil _)) ?_
  refine WL.val rfl (run_move) ?_
  refine WL.val rfl (run_extract rfl rfl) ?_
  refine WL.val rfl (run_extract rfl rfl) ?_
  refine WL.alloc ty106 rfl hs (fun b3 w hs => ?_)
  refine WL.storeAll ty106 rfl rfl (rfl) ((fun v hv => by simp at hv; subst hv; rfl)) (hs) rfl (fun w hs => ?_)
  refine WL.val rfl (run_assign) ?_
  refine WL.nil ?_
  repeat (first | refine CW.seq ?_ | refine CW.block ?_ | refine CW.skip ?_ | refine CW.label ?_ | refine CW.exit ?_ | refine CW.condT rfl ?_ | refine CW.condF rfl ?_)
  refine CW.reg ?_
  refine WL.val rfl (run_move) ?_
  refine WL.val rfl (run_neqNilNil Try.underlying20 rfl) ?_
  refine WL.val rfl (run_move) ?_
  first | refine WL.no rfl rfl rfl (.inl rfl) ?_ | refine WL.no rfl rfl rfl (.inr rfl) ?_
  first | refine WL.no rfl rfl rfl (.inl rfl) ?_ | refine WL.no rfl rfl rfl (.inr rfl) ?_
  first | refine WL.no rfl rfl rfl (.inl rfl) ?_ | refine WL.no rfl rfl rfl (.inr rfl) ?_
  first | refine WL.no rfl rfl rfl (.inl rfl) ?_ | refine WL.no rfl rfl rfl (.inr rfl) ?_
  first | refine WL.no rfl rfl rfl (.inl rfl) ?_ | refine WL.no rfl rfl rfl (.inr rfl) ?_
  first | refine WL.no rfl rfl rfl (.inl rfl) ?_ | refine WL.no rfl rfl rfl (.inr rfl) ?_
  first | refine WL.no rfl rfl rfl (.inl rfl) ?_ | refine WL.no rfl rfl rfl (.inr rfl) ?_
  first | refine WL.no rfl rfl rfl (.inl rfl) ?_ | refine WL.no rfl rfl rfl (.inr rfl) ?_
  first | refine WL.val rfl (run_pickT rfl) ?_ | refine WL.val rfl (run_pickF rfl) ?_
  refine WL.nil ?_
  repeat (first | refine CW.seq ?_ | refine CW.block ?_ | refine CW.skip ?_ | refine CW.label ?_ | refine CW.exit ?_ | refine CW.condT rfl ?_ | refine CW.condF rfl ?_)
  refine CW.reg ?_
  refine WL.val rfl (run_load1 ty77 rfl (hs.c2 rfl)) ?_
  refine WL.val rfl (run_nilCheck rfl) ?_
  refine WL.val rfl (run_field (o' := 3) Try.underlying104 rfl ty25 rfl rfl rfl) ?_
  refine WL.val rfl (run_load1 ty25 rfl (hs.c1 rfl)) ?_
  refine WL.val rfl (run_bF (run_neq rfl rfl) (by decide)) ?_
  refine WL.val rfl (run_assign) ?_
  refine WL.nil ?_
  by_cases hq : q < m
  · repeat (first | refine CW.seq ?_ | refine CW.block ?_ | refine CW.skip ?_ | refine CW.label ?_ | refine CW.exit ?_ | refine CW.condT rfl ?_ | refine CW.condF rfl ?_)
    refine CW.quiet mixedP (by kernel_rfl) hs ?_
    refine QL.val rfl (fun w hs => run_load1 ty77 rfl (hs.c2 rfl)) ?_
    refine QL.val rfl (fun w hs => run_nilCheck rfl) ?_
    refine QL.val rfl (fun w hs => run_field (o' := 1) Try.underlying104 rfl ty3 rfl rfl rfl) ?_
    refine QL.val rfl (fun w hs => run_load1 ty3 rfl (hs.c1 rfl)) ?_
    refine QL.val rfl (fun w hs => run_load1 ty77 rfl (hs.c2 rfl)) ?_
    refine QL.val rfl (fun w hs => run_nilCheck rfl) ?_
    refine QL.val rfl (fun w hs => run_field (o' := 0) Try.underlying104 rfl ty29 rfl rfl rfl) ?_
    refine QL.val rfl (fun w hs => run_load1 ty29 rfl (hs.c1 rfl)) ?_
    refine QL.val rfl (fun w hs => run_lenSl Try.underlying29 rfl) ?_
    refine QL.val rfl (fun w hs => run_bT (run_lss rfl rfl) (by omega)) ?_
    refine QL.val rfl (fun w hs => run_assign) ?_
    refine QL.nil (fun w hs => ?_)
    repeat (first | refine CW.seq ?_ | refine CW.block ?_ | refine CW.skip ?_ | refine CW.label ?_ | refine CW.exit ?_ | refine CW.condT rfl ?_ | refine CW.condF rfl ?_)
    refine CW.reg ?_
    refine WL.store1 ty25 rfl rfl (rfl) ((hs.front [_, _, _])) (by first | (simp; done) | omega | (simp only [List.length_append, List.length_replicate, List.length_cons, List.length_nil, List.length_set]; omega) | (simp [Ent.cells, u8s]; done) | exact Nat.le_of_ble_eq_true rfl) (fun w hs => ?_)
    refine WL.nil ?_
    refine finS_end0 (u' := c0.mode) rfl ⟨⟨_, rfl⟩, by rw [hc0]; rfl, ?_⟩
    rw [if_pos hq]
    exact (hs.swap.tail).rot1
  · repeat (first | refine CW.seq ?_ | refine CW.block ?_ | refine CW.skip ?_ | refine CW.label ?_ | refine CW.exit ?_ | refine CW.condT rfl ?_ | refine CW.condF rfl ?_)
    refine CW.quiet mixedP (by kernel_rfl) hs ?_
    refine QL.val rfl (fun w hs => run_load1 ty77 rfl (hs.c2 rfl)) ?_
    refine QL.val rfl (fun w hs => run_nilCheck rfl) ?_
    refine QL.val rfl (fun w hs => run_field (o' := 1) Try.underlying104 rfl ty3 rfl rfl rfl) ?_
    refine QL.val rfl (fun w hs => run_load1 ty3 rfl (hs.c1 rfl)) ?_
    refine QL.val rfl (fun w hs => run_load1 ty77 rfl (hs.c2 rfl)) ?_
    refine QL.val rfl (fun w hs => run_nilCheck rfl) ?_
    refine QL.val rfl (fun w hs => run_field (o' := 0) Try.underlying104 rfl ty29 rfl rfl rfl) ?_
    refine QL.val rfl (fun w hs => run_load1 ty29 rfl (hs.c1 rfl)) ?_
    refine QL.val rfl (fun w hs => run_lenSl Try.underlying29 rfl) ?_
    refine QL.val rfl (fun w hs => run_bF (run_lss rfl rfl) (by omega)) ?_
    refine QL.val rfl (fun w hs => run_assign) ?_
    refine QL.nil (fun w hs => ?_)
    repeat (first | refine CW.seq ?_ | refine CW.block ?_ | refine CW.skip ?_ | refine CW.label ?_ | refine CW.exit ?_ | refine CW.condT rfl ?_ | refine CW.condF rfl ?_)
    refine finS_end0 (u' := c0.mode) rfl ⟨⟨_, rfl⟩, by rw [hc0]; rfl, ?_⟩
    rw [if_neg hq]
    exact hs.tail

theorem rd1_panic {b5 b9 b4 q : Nat} {bv : Value} {er : Int} (he : er ≠ 0) (w0 : World) (hO : Step [b9, b5, b4] (RdL b5 b9 b4 bv q true er 0) w0 w0) :
    CallsD Try.prog 68 #[.pointer (some ⟨b5, 0, none⟩), .pointer (some ⟨b4, 0, none⟩)] (.panicking (pch b9)) w0 fun e u' w' => (∃ v, e = .returned v) ∧ settle u' = .returning ∧ Step [b9, b5, b4] (RdL b5 b9 b4 bv q true er er) w0 w' := by
  have hs := hO
  unfold RdL at hs
  refine callsD_rec (n := 48) Try.func68 rfl rfl rfl ?_
  intro c0 cs hc0
  refine CS.seq (CS.of ?_)
  repeat (first | refine CW.seq ?_ | refine CW.block ?_ | refine CW.skip ?_ | refine CW.label ?_ | refine CW.exit ?_ | refine CW.condT rfl ?_ | refine CW.condF rfl ?_)
  refine CW.reg ?_
  refine WL.val rfl (run_load1 ty77 rfl (hs.c1 rfl)) ?_
  refine WL.val rfl (run_nilCheck rfl) ?_
  refine WL.val rfl (run_field (o' := 2) Try.underlying104 rfl ty4 rfl rfl rfl) ?_
  refine WL.store1 ty4 rfl rfl (rfl) (hs) (by first | (simp; done) | omega | (simp only [List.length_append, List.length_replicate, List.length_cons, List.length_nil, List.length_set]; omega) | (simp [Ent.cells, u8s]; done) | exact Nat.le_of_ble_eq_true rfl) (fun w hs => ?_)
  refine WL.nil ?_
  refine CS.seq (CS.recover (v := pv b9) (cs' := { c0 with mode := .panicking [{ v := pv b9, recovered := true }] } :: cs) rfl rfl (.inl (by simp [recoverD, hc0, pch])) ?_)
  refine CS.of ?_
  repeat (first | refine CW.seq ?_ | refine CW.block ?_ | refine CW.skip ?_ | refine CW.label ?_ | refine CW.exit ?_ | refine CW.condT rfl ?_ | refine CW.condF rfl ?_)
  refine CW.reg ?_
  refine WL.val rfl (run_move) ?_
  refine WL.val rfl (run_assertOk Try.underlying106 rfl rfl) ?_
  refine WL.val rfl (run_move) ?_
  refine WL.val rfl (run_extract rfl rfl) ?_
  refine WL.val rfl (run_extract rfl rfl) ?_
  refine WL.alloc ty106 rfl hs (fun b3 w hs => ?_)
  refine WL.storeAll ty106 rfl rfl (rfl) ((fun v hv => by simp at hv; subst hv; rfl)) (hs) rfl (fun w hs => ?_)
  refine WL.val rfl (run_assign) ?_
  refine WL.nil ?_
  repeat (first | refine CW.seq ?_ | refine CW.block ?_ | refine CW.skip ?_ | refine CW.label ?_ | refine CW.exit ?_ | refine CW.condT rfl ?_ | refine CW.condF rfl ?_)
  refine CW.reg ?_
  refine WL.val rfl (run_move) ?_
  refine WL.val rfl (run_neqIfaceNil Try.underlying20 rfl) ?_
  refine WL.val rfl (run_move) ?_
  refine WL.yes rfl rfl rfl ?_
  refine WL.val rfl (run_move) ?_
  refine WL.yes rfl rfl rfl ?_
  first | refine WL.val rfl (run_notB rfl) ?_ | refine WL.val rfl (run_not rfl) ?_
  refine WL.yes rfl rfl rfl ?_
  refine WL.val rfl (run_move) ?_
  refine WL.yes rfl rfl rfl ?_
  refine WL.val rfl (run_field (o' := 0) Try.underlying106 rfl ty77 rfl rfl rfl) ?_
  refine WL.yes rfl rfl rfl ?_
  refine WL.val rfl (run_load1 ty77 rfl (hs.c0 rfl)) ?_
  refine WL.yes rfl rfl rfl ?_
  refine WL.val rfl (run_load1 ty77 rfl (hs.c2 rfl)) ?_
  refine WL.yes rfl rfl rfl ?_
  refine WL.val rfl (run_neqPtrSame Try.underlying77 ty104 (by decide) rfl rfl) ?_
  refine WL.yes rfl rfl rfl ?_
  first | refine WL.val rfl (run_pickT rfl) ?_ | refine WL.val rfl (run_pickF rfl) ?_
  first | refine WL.val rfl (run_pickT rfl) ?_ | refine WL.val rfl (run_pickF rfl) ?_
  refine WL.nil ?_
  repeat (first | refine CW.seq ?_ | refine CW.block ?_ | refine CW.skip ?_ | refine CW.label ?_ | refine CW.exit ?_ | refine CW.condT rfl ?_ | refine CW.condF rfl ?_)
  refine CW.reg ?_
  refine WL.val rfl (run_load1 ty77 rfl (hs.c2 rfl)) ?_
  refine WL.val rfl (run_nilCheck rfl) ?_
  refine WL.val rfl (run_field (o' := 3) Try.underlying104 rfl ty25 rfl rfl rfl) ?_
  refine WL.val rfl (run_load1 ty25 rfl (hs.c1 rfl)) ?_
  refine WL.val rfl (run_bT (run_neq rfl rfl) (by exact he)) ?_
  refine WL.val rfl (run_assign) ?_
  refine WL.nil ?_
  repeat (first | refine CW.seq ?_ | refine CW.block ?_ | refine CW.skip ?_ | refine CW.label ?_ | refine CW.exit ?_ | refine CW.condT rfl ?_ | refine CW.condF rfl ?_)
  refine CW.reg ?_
  refine WL.val rfl (run_load1 ty77 rfl (hs.c2 rfl)) ?_
  refine WL.val rfl (run_nilCheck rfl) ?_
  refine WL.val rfl (run_field (o' := 3) Try.underlying104 rfl ty25 rfl rfl rfl) ?_
  refine WL.val rfl (run_load1 ty25 rfl (hs.c1 rfl)) ?_
  refine WL.store1 ty25 rfl rfl (rfl) ((hs.front [_, _, _])) (by first | (simp; done) | omega | (simp only [List.length_append, List.length_replicate, List.length_cons, List.length_nil, List.length_set]; omega) | (simp [Ent.cells, u8s]; done) | exact Nat.le_of_ble_eq_true rfl) (fun w hs => ?_)
  refine WL.nil ?_
  repeat (first | refine CW.seq ?_ | refine CW.block ?_ | refine CW.skip ?_ | refine CW.label ?_ | refine CW.exit ?_ | refine CW.condT rfl ?_ | refine CW.condF rfl ?_)
  exact finS_end0 rfl ⟨⟨_, rfl⟩, rfl, (hs.swap.tail).rot1⟩
end Go.Gx
