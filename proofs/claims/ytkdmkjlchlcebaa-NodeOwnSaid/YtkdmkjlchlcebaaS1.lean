/- More operations on slices: compared with nil, append in its room, append of zeros, clear, a library function without a Go body. No program in sight. Library functions of slices at entries: binary search, Clone; node.place. Library functions of slices at entries: Delete, Insert. Library functions of slices at entries: Insert of one entry. node.With, node.Without, node.Find. The document's With, Without, Find; on rising lists the program's are the same. The document's With. Plain law: on rising lists node's With, Without, Find are the document's. No program in sight. NodeEdits' walk. -/
import Derived.Test.YtkdmkjlchlcebaaTurns
import Derived.Lib.SliceRun
import Derived.Lib.Overlaps
import Derived.Laws.Externs
import Derived.Test.YtkdmkjlchlcebaaShelf
import Derived.Test.YtkdmkjlchlcebaaPan
import Derived.Test.YtkdmkjlchlcebaaRR3
import Derived.Test.YtkdmkjlchlcebaaBack
import Derived.Test.YtkdmkjlchlcebaaChecks
import Derived.Test.YtkdmkjlchlcebaaNBack
/-! Prim -/
namespace Go.Gx
set_option linter.unusedVariables false
set_option linter.unusedSimpArgs false

section
variable {P : Program} {f : Slots} {w : World} {d : Option Tmp} {ty : TypeId} {pos : String} {af : Array Edge} {x y : Operand} {T T' E : TypeId}
theorem run_eqSlNil {a : Option Addr} {n c n' c' : Nat} (ht : P.underlying T = some (.slice E)) (hx : ev f x = .slice a n c) :
    (execOp (ev f) ⟨d, .binOp .eql T x (.const (.slice none n' c')) T', ty, pos, af, none⟩).run P w = .ok (.value (.bool a.isNone)) w := by
  have e : ev f (.const (.slice none n' c')) = .slice none n' c' := rfl
  have h := Lib.run_eql_slice_nil w T E a n c n' c' ht
  simp [execOp, hx, e, eqGuard, h]
theorem run_neSlNil {a : Option Addr} {n c n' c' : Nat} (ht : P.underlying T = some (.slice E)) (hx : ev f x = .slice a n c) :
    (execOp (ev f) ⟨d, .binOp .neq T x (.const (.slice none n' c')) T', ty, pos, af, none⟩).run P w = .ok (.value (.bool a.isSome)) w := by
  have e : ev f (.const (.slice none n' c')) = .slice none n' c' := rfl
  have h0 : (Op.equal T (.slice a n c) (.slice none n' c')).run P w = .ok a.isNone w := by simp [Op.equal, Op.maxDepth, Lib.run_equalIn_slice_nil w 9999 T E a n c n' c' ht]
  simp [execOp, hx, e, eqGuard, binOp, h0]

theorem run_callExt {F : FuncId} {fn : Func} {e : Array Value → Sem Value} {fo : Operand} {args : Array Operand} {ats : Array TypeId} {vs : List Value} {v : Value} {w' : World} (hf : P.funcs[F]? = some fn) (hname : (fn.name == "runtime.NumGoroutine") = false)
    (hb : fn.body.isNone = true) (hn : Extern.findNext fn = none) (he : Extern.find fn = some e) (hx : ev f fo = .func (.func F) #[] #[]) (hv : args.toList.map (ev f) = vs) (hr : (e vs.toArray).run P w = .ok v w') :
    (execOp (ev f) ⟨d, .call { callee := .value fo, args, argTypes := ats }, ty, pos, af, none⟩).run P w = .ok (.value v) w' := by
  have e1 : args.map (ev f) = vs.toArray := by rw [← hv]; apply Array.ext'; simp
  have h := run_callFunc_extern hf hname hb hn he vs.toArray w
  rw [hr] at h
  simp [execOp, resolve, hx, Deferred.ofValue, invoke, e1, h]

theorem shape_blk {b : Nat} {cs : List Value} (h : w.heap[b]? = some (blk T cs)) : w.shape? b = some (T, cs.length) := by
  simp [World.shape?, h, blk]

/-- slices.overlaps of slices in two blocks. -/
theorem run_overlaps {agg : Bool} {sz bytes b1 o1 n1 c1 b2 o2 n2 c2 : Nat} {zs cs1 cs2 : List Value} {T1 T2 R : TypeId} (ht : P.underlying T = some (.slice E)) (hE : Ty P E agg sz bytes zs) (hne : b1 ≠ b2)
    (h1 : w.heap[b1]? = some (blk T1 cs1)) (h2 : w.heap[b2]? = some (blk T2 cs2)) (hl : cs2.length ≠ 0) :
    (Extern.SlicesOverlaps.overlaps #[T, T] #[R] #[.slice (some ⟨b1, o1, none⟩) n1 c1, .slice (some ⟨b2, o2, none⟩) n2 c2]).run P w = .ok (.bool false) w :=
  Lib.run_overlaps_apart w T R E ht sz (fun w => run_sizeOf hE w) ⟨b1, o1, none⟩ ⟨b2, o2, none⟩ n1 c1 n2 c2 hne T1 T2 _ _ (shape_blk h1) (shape_blk h2) hl (frozen_blk h1 _) (frozen_blk h1 _)
end

section
variable {P : Program} {ops : Array Oper} {Q : Post} {n : Nat} {rest : List Oper} {f : Slots} {ds : List Deferred} {w w0 : World} {ty : TypeId} {pos : String} {af : Array Edge} {x y : Operand} {T T' E : TypeId} {d : Nat} {S : List Nat} {L : List (Nat × Obj)}

/-- copy(v, u), where we know of what is copied alone that it is cells. -/
theorem WL.copyT {agg : Bool} {sz bytes len cap m b off : Nat} {zs cs ys : List Value} {E T' Tb : TypeId} {u : Value} {dd : Option Nat} (ht : P.underlying T = some (.slice E)) (hE : Ty P E agg sz bytes zs)
    (hx : ev f x = .slice (some ⟨b, off, none⟩) len cap) (hy : ev f y = u) (hs : Step S ((b, blk Tb cs) :: L) w0 w) (hu : Sl w sz u m ys) (hc1 : Cells1 (ys.take (min m len * sz))) (hlen : off + len * sz ≤ cs.length) (hd : ∀ k, dd = some k → Nat.blt k n = true)
    (h : ∀ w', Step S ((b, blk Tb (splice cs off (ys.take (min m len * sz)))) :: L) w0 w' → (∀ k, dd = some k → WL P ops Q n rest (upd f k (.int .i64 (min m len : Nat))) ds w') ∧ (dd = none → WL P ops Q n rest f ds w')) :
    WL P ops Q n (⟨dd, .call { callee := .builtin .copy, args := #[x, y], argTypes := #[T, T'] }, ty, pos, af, none⟩ :: rest) f ds w := by
  have hly := hu.1
  have htl : (ys.take (min m len * sz)).length = min m len * sz := by
    rw [List.length_take, hly]
    exact Nat.min_eq_left (Nat.mul_le_mul_right _ (Nat.min_le_left _ _))
  have hle : min m len * sz ≤ len * sz := Nat.mul_le_mul_right _ (Nat.min_le_right _ _)
  have hf : (Builtin.firstCells sz (min m len) u).run P w = .ok (ys.take (min m len * sz)).toArray w := by
    obtain ⟨_, ⟨a, c, rfl, rfl⟩ | ⟨b', off', c, rfl, hat⟩⟩ := hu
    · have : ys = [] := by simpa using hly
      subst this
      cases a <;> simp [Builtin.firstCells, loadCells] <;> rfl
    · have := run_loadCells_at (P := P) (hat.take (min m len * sz))
      rw [htl] at this
      simpa [Builtin.firstCells] using this
  have hst := run_storeCells (P := P) (ys.take (min m len * sz)) 0 off b Tb cs w hs.hd (by rw [htl]; omega) hc1
  have hrun : (execOp (ev f) ⟨dd, .call { callee := .builtin .copy, args := #[x, y], argTypes := #[T, T'] }, ty, pos, af, none⟩).run P w = .ok (.value (.int .i64 (min m len : Nat))) (setRow w b (off + 0) (ys.take (min m len * sz))) := by
    have hmin : Nat.min m len = min m len := rfl
    simp [execOp, hx, hy, resolve, invoke, builtin, Builtin.copy_, run_underlying ht, run_sizeOf hE, run_lenOf hu, hmin, hf, hst, goInt]
  have hstep := Step.row (ys.take (min m len * sz)) off cs w hs (by rw [htl]; omega)
  have hobt := h _ hstep
  obtain ⟨h1, h2⟩ := hobt
  cases dd with
  | none => exact WL.drop hrun (h2 rfl)
  | some k => exact WL.val (hd k rfl) hrun (h1 k rfl)

/-- append(v, u...) where v has the room. -/
theorem WL.appendIn {agg : Bool} {sz bytes k m cap b : Nat} {zs xs ys more : List Value} {u : Value} (ht : P.underlying T = some (.slice E)) (ht' : P.underlying T' = some (.slice E)) (hE : Ty P E agg sz bytes zs) (hzl : zs.length = sz)
    (hx : ev f x = .slice (some ⟨b, 0, none⟩) k cap) (hy : ev f y = u) (hl : xs.length = k * sz) (hs : Step S ((b, blk E (xs ++ more)) :: L) w0 w) (hcap : (xs ++ more).length = cap * sz) (hu : Sl w sz u m ys) (hc1 : Cells1 ys) (hfit : k + m ≤ cap) (hd : Nat.blt d n = true)
    (h : ∀ w', Step S ((b, blk E (xs ++ ys ++ more.drop ys.length)) :: L) w0 w' → WL P ops Q n rest (upd f d (.slice (some ⟨b, 0, none⟩) (k + m) cap)) ds w') :
    WL P ops Q n (⟨some d, .call { callee := .builtin .append, args := #[x, y], argTypes := #[T, T'] }, ty, pos, af, none⟩ :: rest) f ds w := by
  have hly := hu.1
  have hlm : (xs ++ more).length = xs.length + more.length := by simp
  have hle : ys.length ≤ more.length := by
    have : (k + m) * sz ≤ cap * sz := Nat.mul_le_mul_right _ hfit
    rw [Nat.add_mul] at this
    omega
  have hst := run_storeCells (P := P) ys 0 (k * sz) b E (xs ++ more) w hs.hd (by rw [hlm]; omega) hc1
  have hr := run_append_in (ty := ty) (b := b) ht (.inl ⟨E, ht'⟩) hE (run_lenOf hu) (run_firstCells hu) hfit
  rw [hst] at hr
  have hrow := Step.row ys (k * sz) (xs ++ more) w hs (by rw [hlm]; omega)
  rw [← hl, splice_end xs more ys hle] at hrow
  rw [Nat.add_zero, ← hl] at hr
  refine WL.val hd ?_ (h _ hrow)
  simp [execOp, hx, hy, resolve, invoke, builtin, hr]

/-- append(v, make([]T, m)...) where v has not the room. -/
theorem WL.appendZ {agg : Bool} {sz bytes k m cap : Nat} {zs xs : List Value} {a : Option Addr} {kn : IntKind} (ht : P.underlying T = some (.slice E)) (ht' : P.underlying T' = some (.int kn)) (hE : Ty P E agg sz bytes zs) (hzl : zs.length = sz) (hb0 : 0 < bytes)
    (hx : ev f x = .slice a k cap) (hy : ev f y = .int .i64 m) (hold : Sl w sz (.slice a k cap) k xs) (hs : Step S L w0 w) (hfit : cap < k + m) (hroom : (k + m) * bytes ≤ 140737488355328) (hd : Nat.blt d n = true)
    (h : ∀ v' Lv' w', OwnSl E sz v' (k + m) (xs ++ (List.replicate m zs).flatten) Lv' → Step S (Lv' ++ L) w0 w' → WL P ops Q n rest (upd f d v') ds w') :
    WL P ops Q n (⟨some d, .call { callee := .builtin .append, args := #[x, y], argTypes := #[T, T'] }, ty, pos, af, none⟩ :: rest) f ds w := by
  have hobt := hE.info
  obtain ⟨i, z0, hi, hsz, hby, hz0, hc0, _⟩ := hobt
  have hn : ¬ (k + m ≤ cap) := by omega
  have hkm : (k + m) * 1 ≤ (k + m) * bytes := Nat.mul_le_mul_left _ hb0
  have h63' : ¬ (9223372036854775807 < ((k : Int) + (m : Int))) := by omega
  have h48' : ¬ (281474976710656 < Builtin.nextslicecap (k + m) cap * i.bytes) := by
    rw [hby]
    have := growslice_fits (old := cap) (bytes := bytes) (need := k + m) (by omega) hroom
    omega
  have hwm : IntKind.i64.wrap (m : Int) = m := wrap_i64 (by omega)
  have hm48 : ¬ (281474976710656 < (m : Int) * (i.bytes : Int)) := by
    rw [hby]
    have h1 : m * bytes ≤ (k + m) * bytes := Nat.mul_le_mul_right _ (by omega)
    have h2 : ((m * bytes : Nat) : Int) ≤ ((140737488355328 : Nat) : Int) := Int.ofNat_le.2 (Nat.le_trans h1 hroom)
    rw [Int.natCast_mul] at h2
    omega
  have hmneg : ¬ ((m : Int) < 0) := by omega
  have hzc : ∀ j, Builtin.zeroCells z0.cells j = ((List.replicate j zs).flatten).toArray := fun j => by
    rw [hc0]
    have := zero_row zs j
    simpa [Builtin.zeroCells] using this
  have hblk : ∀ l : List Value, Obj.cells l.toArray E = blk E l := fun l => rfl
  have hod := run_firstCells_drew (P := P) hold
  have hxl := hold.1
  have hle : k + m ≤ grownCap w (k + m) cap E := by unfold grownCap Question.cut; exact Nat.le_add_right _ _
  have hr : (Builtin.append_ #[T, T'] ty #[.slice a k cap, .int .i64 m]).run P w = .ok (.slice (some ⟨w.heap.size, 0, none⟩) (k + m) (grownCap w (k + m) cap E)) (w.drew.alloc (blk E (xs ++ (List.replicate m zs).flatten ++ (List.replicate (grownCap w (k + m) cap E - (k + m)) zs).flatten))) := by
    by_cases h0 : m * sz = 0
    · have hfl : (List.replicate m zs).flatten = [] := by
        apply List.eq_nil_of_length_eq_zero
        simp only [List.length_flatten, List.map_replicate, List.sum_replicate_nat, hzl, h0]
      rw [hfl]
      subst hsz
      simp [Builtin.append_, run_underlying ht, run_underlying ht', sizeOf, typeInfo, zeroValue, hi, hz0, hn, h63', h48', Question.forced, hod, newRow, grownCap, hzc, hblk, asInt, asIntOf, hwm, hm48, hmneg, h0]
    · subst hsz
      simp [Builtin.append_, run_underlying ht, run_underlying ht', sizeOf, typeInfo, zeroValue, hi, hz0, hn, h63', h48', Question.forced, hod, newRow, grownCap, hzc, hblk, asInt, asIntOf, hwm, hm48, hmneg, h0]
  refine WL.val hd (v := .slice (some ⟨w.heap.size, 0, none⟩) (k + m) (grownCap w (k + m) cap E)) (w' := w.drew.alloc (blk E (xs ++ (List.replicate m zs).flatten ++ (List.replicate (grownCap w (k + m) cap E - (k + m)) zs).flatten))) ?_ (h _ [(w.heap.size, _)] _ ⟨?_, .inr ⟨_, _, _, rfl, rfl, ?_⟩⟩ (hs.drew.alloc _))
  · simp [execOp, hx, hy, resolve, invoke, builtin, hr]
  · simp [hxl, hzl, Nat.add_mul]
  · simp only [List.length_append, List.length_flatten, List.map_replicate, List.sum_replicate_nat, hxl, hzl, ← Nat.add_mul]
    congr 1
    omega

/-- clear(v), v some elements of a block of ours. -/
theorem WL.clear {agg : Bool} {sz bytes k cap b off : Nat} {zs cs : List Value} {T2 : TypeId} (ht : P.underlying T = some (.slice E)) (hE : Ty P E agg sz bytes zs) (hzl : zs.length = sz)
    (hx : ev f x = .slice (some ⟨b, off, none⟩) k cap) (hs : Step S ((b, blk T2 cs) :: L) w0 w) (hk : 0 < k) (hlen : off + k * sz ≤ cs.length) (hz1 : (zs.all fun v => v.oneCell') = true)
    (h : ∀ w', Step S ((b, blk T2 (splice cs off (List.replicate k zs).flatten)) :: L) w0 w' → WL P ops Q n rest f ds w') :
    WL P ops Q n (⟨none, .call { callee := .builtin .clear, args := #[x], argTypes := #[T] }, ty, pos, af, none⟩ :: rest) f ds w := by
  have hobt := hE.info
  obtain ⟨i, z0, hi, hsz, hby, hz0, hc0, _⟩ := hobt
  have hzc : Builtin.zeroCells z0.cells k = ((List.replicate k zs).flatten).toArray := by
    rw [hc0]
    have := zero_row zs k
    simpa [Builtin.zeroCells] using this
  have hl : ((List.replicate k zs).flatten).length = k * sz := by
    simp only [List.length_flatten, List.map_replicate, List.sum_replicate_nat, hzl]
  have hc1 : Cells1 (List.replicate k zs).flatten := fun v hv => by
    have hobt := List.mem_flatten.1 hv
    obtain ⟨l, hl1, hl2⟩ := hobt
    rw [List.mem_replicate] at hl1
    rw [hl1.2] at hl2
    exact List.all_eq_true.1 hz1 v hl2
  have hst := run_storeCells (P := P) (List.replicate k zs).flatten 0 off b T2 cs w hs.hd (by rw [hl]; omega) hc1
  have hr : (Builtin.clear_ #[T] ty #[.slice (some ⟨b, off, none⟩) k cap]).run P w = .ok (.tuple #[]) (setRow w b (off + 0) (List.replicate k zs).flatten) := by
    match k, hk with
    | k' + 1, _ =>
      simp only [Builtin.clear_, Sem.run_bind, List.getElem?_toArray, List.getElem?_cons_zero, run_underlying ht, Result.andThen_ok]
      simp [zeroValue, typeInfo, hi, hz0, hzc, hst]
  refine WL.drop (v := .tuple #[]) ?_ (h _ (Step.row _ off cs w hs (by rw [hl]; omega)))
  simp only [execOp, resolve, invoke, builtin, Sem.run_bind, Sem.run_pure, Result.andThen_ok, List.map_toArray, List.map_cons, List.map_nil, hx, hr]
  rfl
end
end Go.Gx
/-! Sl1 -/
namespace Go.Gx
open Go.Proofs
set_option linter.unusedVariables false
set_option linter.unusedSimpArgs false
set_option maxRecDepth 100000

theorem cmp_lt : ∀ a b : List UInt8, Lib.compareBytes a b < 0 ↔ Op.bytesLess a b = true
  | [], [] => by simp [Lib.compareBytes, Op.bytesLess]
  | [], _ :: _ => by simp [Lib.compareBytes, Op.bytesLess]
  | _ :: _, [] => by simp [Lib.compareBytes, Op.bytesLess]
  | a :: x, b :: y => by
    have ih := cmp_lt x y
    unfold Lib.compareBytes
    by_cases h : a < b
    · simp [h, Op.bytesLess]
    · by_cases h2 : b < a
      · have hne : ¬ a = b := fun e => by subst e; exact UInt8.lt_irrefl _ h2
        simp [h, h2, Op.bytesLess, hne]
      · have : a = b := UInt8.toNat_inj.1 (by have h3 := UInt8.not_lt.1 h; have h4 := UInt8.not_lt.1 h2; exact Nat.le_antisymm (UInt8.le_iff_toNat_le.1 h4) (UInt8.le_iff_toNat_le.1 h3))
        subst this
        simp [Op.bytesLess, UInt8.lt_irrefl, ih]
theorem cmp_eq0 : ∀ a b : List UInt8, Lib.compareBytes a b = 0 ↔ a = b
  | [], [] => by simp [Lib.compareBytes]
  | [], _ :: _ => by simp [Lib.compareBytes]
  | _ :: _, [] => by simp [Lib.compareBytes]
  | a :: x, b :: y => by
    have ih := cmp_eq0 x y
    unfold Lib.compareBytes
    by_cases h : a < b
    · have hne : ¬ a = b := fun e => by subst e; exact UInt8.lt_irrefl _ h
      simp [h, hne]
    · by_cases h2 : b < a
      · have hne : ¬ a = b := fun e => by subst e; exact UInt8.lt_irrefl _ h2
        simp [h, h2, hne]
      · have : a = b := UInt8.toNat_inj.1 (by have h3 := UInt8.not_lt.1 h; have h4 := UInt8.not_lt.1 h2; exact Nat.le_antisymm (UInt8.le_iff_toNat_le.1 h4) (UInt8.le_iff_toNat_le.1 h3))
        subst this
        simp [UInt8.lt_irrefl, ih]

theorem compare_spec (a b : List UInt8) (w : World) : Calls Try.prog 77 #[str a, str b] w (Ret0 (.int .i64 (Lib.compareBytes a b)) w) := by
  have h := Try.strings_Compare ⟨⟨a⟩⟩ ⟨⟨b⟩⟩ w
  refine h.mono fun e w' ⟨h1, h2⟩ => ?_
  subst h2
  exact ⟨h1, Step.refl _⟩

theorem cmpE_spec {x : Ent} {n : List UInt8} (w : World) (hx : x.ok) : Calls Try.prog 76 #[.agg x.cells.toArray, str n] w (Ret0 (.int .i64 (Lib.compareBytes x.name n)) w) := by
  have hs : Step [] [] w w := Step.refl w
  refine calls (n := 9) Try.func76 rfl rfl rfl ?_
  repeat (first | refine CW.seq ?_ | refine CW.block ?_ | refine CW.skip ?_ | refine CW.label ?_ | refine CW.exit ?_ | refine CW.condT rfl ?_ | refine CW.condF rfl ?_)
  refine CW.reg ?_
  refine WL.box (cs := x.cells) rfl rfl rfl hs (fun b2 w hs => ?_)
  refine WL.val rfl (run_assign) ?_
  refine WL.nil ?_
  repeat (first | refine CW.seq ?_ | refine CW.block ?_ | refine CW.skip ?_ | refine CW.label ?_ | refine CW.exit ?_ | refine CW.condT rfl ?_ | refine CW.condF rfl ?_)
  refine CW.reg ?_
  refine WL.val rfl (run_field (o' := 0) Try.underlying48 rfl ty9 rfl rfl rfl) ?_
  first | refine WL.val rfl (run_load1 ty9 rfl (hs.c0 rfl)) ?_ | refine WL.val rfl (run_load1 ty9 rfl (hs.c1 rfl)) ?_ | refine WL.val rfl (run_load1 ty9 rfl (hs.c2 rfl)) ?_ | refine WL.val rfl (run_load1 ty9 rfl (hs.c3 rfl)) ?_ | refine WL.val rfl (run_load1 ty9 rfl (hs.c4 rfl)) ?_ | refine WL.val rfl (run_load1 ty9 rfl (hs.c5 rfl)) ?_ | refine WL.val rfl (run_load1 ty9 rfl (hs.c0 rfl)) ?_
  refine WL.val rfl (run_move) ?_
  refine WL.enter rfl (run_call en77 rfl rfl) (compare_spec _ _ _) ?_
  rintro e w ⟨rfl, hq⟩
  refine ⟨_, rfl, ?_⟩
  refine WL.val rfl (run_assign) ?_
  refine WL.nil ?_
  repeat (first | refine CW.seq ?_ | refine CW.block ?_ | refine CW.skip ?_ | refine CW.label ?_ | refine CW.exit ?_ | refine CW.condT rfl ?_ | refine CW.condF rfl ?_)
  refine CW.ret ?_
  refine fin_ret1 rfl ?_
  exact ⟨rfl, (hs.callE hq).clear⟩

theorem run_shr1 {P : Program} {f : Slots} {w : World} {d : Option Tmp} {ty : TypeId} {pos : String} {af : Array Edge} {x y : Operand} {T T' : TypeId} {k k' : IntKind} {u : Nat} (hx : ev f x = .int k u) (hy : ev f y = .int k' 1) (hk : 1 ≤ k.bits) :
    (execOp (ev f) ⟨d, .binOp .shr T x y T', ty, pos, af, none⟩).run P w = .ok (.value (.int k (u / 2 : Nat))) w := by
  rw [run_shr hx hy (by decide)]
  have e : (2 : Int) ^ min (1 : Int).toNat k.bits = ((2 : Nat) : Int) := by
    have : min (1 : Int).toNat k.bits = 1 := by
      show min 1 k.bits = 1
      omega
    rw [this]
    rfl
  rw [e, Int.fdiv_eq_ediv_of_nonneg _ (by decide), ← Int.natCast_ediv]

/-- The names rise. -/
def Rising (l : List Ent) : Prop := l.Pairwise fun x y => Op.bytesLess x.name y.name = true
/-- Place i parts the names below n from the others. -/
def PartAt (l : List Ent) (n : List UInt8) (i : Nat) : Prop := (∀ j (h : j < l.length), j < i → Op.bytesLess l[j].name n = true) ∧ (∀ j (h : j < l.length), i ≤ j → Op.bytesLess l[j].name n = false)
def At? (l : List Ent) (n : List UInt8) (i : Nat) : Bool := match l[i]? with | some x => decide (x.name = n) | none => false

theorem bytesLess_trans : ∀ {a b c : List UInt8}, Op.bytesLess a b = true → Op.bytesLess b c = true → Op.bytesLess a c = true
  | [], b :: y, c :: z, _, _ => rfl
  | a :: x, b :: y, c :: z, h1, h2 => by
    simp only [Op.bytesLess, Bool.or_eq_true, decide_eq_true_eq, Bool.and_eq_true, beq_iff_eq] at h1 h2 ⊢
    rcases h1 with h1 | ⟨rfl, h1⟩
    · rcases h2 with h2 | ⟨rfl, h2⟩
      · exact .inl (UInt8.lt_trans h1 h2)
      · exact .inl h1
    · rcases h2 with h2 | ⟨rfl, h2⟩
      · exact .inl h2
      · exact .inr ⟨rfl, bytesLess_trans h1 h2⟩
  | [], [], _, h, _ => by cases h
  | [], _ :: _, [], _, h => by cases h
  | _ :: _, [], _, h, _ => by cases h
  | _ :: _, _ :: _, [], _, h => by cases h

theorem rising_lt {l : List Ent} (h : Rising l) {i j : Nat} (hj : j < l.length) (hij : i < j) : Op.bytesLess (l[i]).name (l[j]).name = true := List.pairwise_iff_getElem.1 h i j (by omega) hj hij

theorem search_spec {v : Value} {l : List Ent} {n : List UInt8} (w0 : World) (hl : Es w0 v l) (hbb : l.length ≤ 1000000) :
    Calls Try.prog 75 #[v, str n, .func (.func 76) #[] #[]] w0 fun e w' => ∃ i : Nat, e = .returned (.tuple #[.int .i64 i, .bool (At? l n i)]) ∧ i ≤ l.length ∧ (Rising l → PartAt l n i) ∧ Step [] [] w0 w' := by
  have hs : Step [] [] w0 w0 := Step.refl w0
  have hbl := hl.2.2
  have hobt := hl.1.form
  obtain ⟨a, c, rfl⟩ := hobt
  refine calls (n := 49) Try.func75 rfl rfl rfl ?_
  repeat (first | refine CW.seq ?_ | refine CW.block ?_ | refine CW.skip ?_ | refine CW.label ?_ | refine CW.exit ?_ | refine CW.condT rfl ?_ | refine CW.condF rfl ?_)
  refine CW.reg ?_
  refine WL.val rfl (run_assign) ?_
  refine WL.val rfl (run_assign) ?_
  refine WL.nil ?_
  repeat (first | refine CW.seq ?_ | refine CW.block ?_ | refine CW.skip ?_ | refine CW.label ?_ | refine CW.exit ?_ | refine CW.condT rfl ?_ | refine CW.condF rfl ?_)
  refine CW.reg ?_
  refine WL.val rfl (run_move) ?_
  refine WL.val rfl (run_lenSl Try.underlying22 rfl) ?_
  refine WL.val rfl (run_assign) ?_
  refine WL.nil ?_
  repeat (first | refine CW.seq ?_ | refine CW.block ?_ | refine CW.skip ?_ | refine CW.label ?_ | refine CW.exit ?_ | refine CW.condT rfl ?_ | refine CW.condF rfl ?_)
  refine CW.reg ?_
  refine WL.val rfl (run_move) ?_
  refine WL.val rfl (run_assign) ?_
  refine WL.val rfl (run_assign) ?_
  refine WL.nil ?_
  repeat (first | refine CW.seq ?_ | refine CW.block ?_ | refine CW.skip ?_ | refine CW.label ?_ | refine CW.exit ?_ | refine CW.condT rfl ?_ | refine CW.condF rfl ?_)
  refine CW.loop (fun m f w' => ∃ i j : Nat, i ≤ j ∧ j ≤ l.length ∧ m = j - i ∧ Step [] [] w0 w' ∧ (Rising l → (∀ k (h : k < l.length), k < i → Op.bytesLess l[k].name n = true) ∧ (∀ k (h : k < l.length), j ≤ k → Op.bytesLess l[k].name n = false)) ∧ Holds f [(0, .slice a l.length c), (1, str n), (2, .func (.func 76) #[] #[]), (8, .int .i64 l.length), (9, .int .i64 i), (10, .int .i64 j)]) (m := l.length) ?_ ?_
  · exact ⟨0, l.length, by omega, by omega, by omega, hs, fun _ => ⟨fun k h h1 => by omega, fun k h h1 => by omega⟩, rfl, rfl, rfl, rfl, rfl, rfl, trivial⟩
  · rintro m f w ⟨i, j, hij, hj, rfl, hs, hp, hf⟩
    have hobt := hf.chain
    obtain ⟨g, rfl⟩ := hobt
    repeat (first | refine CW.seq ?_ | refine CW.block ?_ | refine CW.skip ?_ | refine CW.label ?_ | refine CW.exit ?_ | refine CW.condT rfl ?_ | refine CW.condF rfl ?_)
    refine CW.reg ?_
    refine WL.val rfl (run_move) ?_
    refine WL.val rfl (run_move) ?_
    refine WL.val rfl (run_lss rfl rfl) ?_
    refine WL.nil ?_
    repeat (first | refine CW.seq ?_ | refine CW.block ?_ | refine CW.skip ?_ | refine CW.label ?_ | refine CW.exit ?_)
    first | refine CW.condP rfl (fun hlt => ?_) (fun hlt => ?_) | refine CW.cond rfl (fun hlt => ?_) (fun hlt => ?_)
    · have hlt' : i < j := by omega
      have hh : i ≤ (i + j) / 2 ∧ (i + j) / 2 < j := by omega
      rcases hl.cases with ⟨_, c', hv', rfl⟩ | ⟨b, off, c', hv', hat⟩
      · simp at hj
        omega
      obtain ⟨rfl, rfl⟩ : a = some ⟨b, off, none⟩ ∧ c = c' := by cases hv'; exact ⟨rfl, rfl⟩
      have hhl : (i + j) / 2 < l.length := by omega
      have hok := hl.2.1.get hhl
      have hax := (hat.ent hl.2.1 hhl).step hs (by simp)
      repeat (first | refine CW.seq ?_ | refine CW.block ?_ | refine CW.skip ?_ | refine CW.label ?_ | refine CW.exit ?_ | refine CW.condT rfl ?_ | refine CW.condF rfl ?_)
      refine CW.reg ?_
      refine WL.val rfl (run_move) ?_
      refine WL.val rfl (run_move) ?_
      refine WL.val rfl (run_add (c := ((i + j : Nat) : Int)) rfl rfl (by omega) (by omega)) ?_
      first | refine WL.val rfl (run_convU64 Try.underlying3 Try.underlying94 rfl (by omega)) ?_ | refine WL.val rfl (run_convInt Try.underlying3 Try.underlying94 rfl) ?_
      refine WL.val rfl (run_shr1 rfl rfl (by decide)) ?_
      first | refine WL.val rfl (run_convI64 Try.underlying94 Try.underlying3 rfl (by omega)) ?_ | refine WL.val rfl (run_convInt Try.underlying94 Try.underlying3 rfl) ?_
      refine WL.val rfl (run_assign) ?_
      refine WL.nil ?_
      by_cases hc : Op.bytesLess (l[(i + j) / 2]).name n = true
      · repeat (first | refine CW.seq ?_ | refine CW.block ?_ | refine CW.skip ?_ | refine CW.label ?_ | refine CW.exit ?_ | refine CW.condT rfl ?_ | refine CW.condF rfl ?_)
        refine CW.reg ?_
        refine WL.val rfl (run_move) ?_
        refine WL.val rfl (run_move) ?_
        refine WL.val rfl (run_move) ?_
        first | refine WL.val rfl (run_ixSlN Try.underlying22 ty48 rfl rfl (by omega)) ?_ | refine WL.val rfl (run_ixSl Try.underlying22 ty48 rfl rfl (by omega)) ?_
        refine WL.val rfl (run_loadN ty48 rfl (Ent.cells_len hok) hax) ?_
        refine WL.val rfl (run_move) ?_
        refine WL.enter rfl (run_callV (cap := []) en76 rfl rfl) (cmpE_spec _ hok) ?_
        rintro e w ⟨rfl, hq⟩
        refine ⟨_, rfl, ?_⟩
        refine WL.val rfl (run_bT (run_lss rfl rfl) (by exact (cmp_lt _ _).2 hc)) ?_
        refine WL.nil ?_
        replace hs := hs.callE hq
        repeat (first | refine CW.seq ?_ | refine CW.block ?_ | refine CW.skip ?_ | refine CW.label ?_ | refine CW.exit ?_ | refine CW.condT rfl ?_ | refine CW.condF rfl ?_)
        refine CW.reg ?_
        refine WL.val rfl (run_move) ?_
        refine WL.val rfl (run_add (c := (((i + j) / 2 + 1 : Nat) : Int)) rfl rfl (by omega) (by omega)) ?_
        refine WL.val rfl (run_assign) ?_
        refine WL.nil ?_
        repeat (first | refine CW.seq ?_ | refine CW.block ?_ | refine CW.skip ?_ | refine CW.label ?_ | refine CW.exit ?_)
        refine (show _ ∧ _ from ⟨rfl, _, ?_, (i + j) / 2 + 1, j, by omega, hj, rfl, hs, ?_, rfl, rfl, rfl, rfl, rfl, rfl, trivial⟩)
        · omega
        · intro hr
          refine ⟨fun k h h1 => ?_, (hp hr).2⟩
          by_cases hk : k = (i + j) / 2
          · subst hk; exact hc
          · exact bytesLess_trans (rising_lt hr hhl (by omega)) hc
      · repeat (first | refine CW.seq ?_ | refine CW.block ?_ | refine CW.skip ?_ | refine CW.label ?_ | refine CW.exit ?_ | refine CW.condT rfl ?_ | refine CW.condF rfl ?_)
        refine CW.reg ?_
        refine WL.val rfl (run_move) ?_
        refine WL.val rfl (run_move) ?_
        refine WL.val rfl (run_move) ?_
        first | refine WL.val rfl (run_ixSlN Try.underlying22 ty48 rfl rfl (by omega)) ?_ | refine WL.val rfl (run_ixSl Try.underlying22 ty48 rfl rfl (by omega)) ?_
        refine WL.val rfl (run_loadN ty48 rfl (Ent.cells_len hok) hax) ?_
        refine WL.val rfl (run_move) ?_
        refine WL.enter rfl (run_callV (cap := []) en76 rfl rfl) (cmpE_spec _ hok) ?_
        rintro e w ⟨rfl, hq⟩
        refine ⟨_, rfl, ?_⟩
        refine WL.val rfl (run_bF (run_lss rfl rfl) (by exact fun h => hc ((cmp_lt _ _).1 h))) ?_
        refine WL.nil ?_
        replace hs := hs.callE hq
        repeat (first | refine CW.seq ?_ | refine CW.block ?_ | refine CW.skip ?_ | refine CW.label ?_ | refine CW.exit ?_ | refine CW.condT rfl ?_ | refine CW.condF rfl ?_)
        refine CW.reg ?_
        refine WL.val rfl (run_move) ?_
        refine WL.val rfl (run_assign) ?_
        refine WL.nil ?_
        repeat (first | refine CW.seq ?_ | refine CW.block ?_ | refine CW.skip ?_ | refine CW.label ?_ | refine CW.exit ?_)
        refine (show _ ∧ _ from ⟨rfl, _, ?_, i, (i + j) / 2, by omega, by omega, rfl, hs, ?_, rfl, rfl, rfl, rfl, rfl, rfl, trivial⟩)
        · omega
        · intro hr
          refine ⟨(hp hr).1, fun k h h1 => ?_⟩
          by_cases hk : k = (i + j) / 2
          · subst hk; simpa using hc
          · cases hkn : Op.bytesLess (l[k]).name n with
            | false => rfl
            | true => exact absurd (bytesLess_trans (rising_lt hr h (by omega)) hkn) hc
    · obtain rfl : i = j := by omega
      by_cases hlt2 : i < l.length
      · rcases hl.cases with ⟨_, c', hv', rfl⟩ | ⟨b, off, c', hv', hat⟩
        · simp at hlt2
        obtain ⟨rfl, rfl⟩ : a = some ⟨b, off, none⟩ ∧ c = c' := by cases hv'; exact ⟨rfl, rfl⟩
        have hok := hl.2.1.get hlt2
        have hax := (hat.ent hl.2.1 hlt2).step hs (by simp)
        have hat2 : At? l n i = decide ((l[i]).name = n) := by unfold At?; rw [List.getElem?_eq_getElem hlt2]
        by_cases hn : (l[i]).name = n
        · repeat (first | refine CW.seq ?_ | refine CW.block ?_ | refine CW.skip ?_ | refine CW.label ?_ | refine CW.exit ?_ | refine CW.condT rfl ?_ | refine CW.condF rfl ?_)
          refine CW.reg ?_
          refine WL.val rfl (run_move) ?_
          refine WL.val rfl (run_move) ?_
          refine WL.val rfl (run_move) ?_
          refine WL.val rfl (run_bT (run_lss rfl rfl) (by omega)) ?_
          refine WL.val rfl (run_move) ?_
          refine WL.yes rfl rfl rfl ?_
          refine WL.val rfl (run_move) ?_
          refine WL.yes rfl rfl rfl ?_
          refine WL.val rfl (run_move) ?_
          refine WL.yes rfl rfl rfl ?_
          refine WL.val rfl (run_move) ?_
          refine WL.yes rfl rfl rfl ?_
          first | refine WL.val rfl (run_ixSlN Try.underlying22 ty48 rfl rfl (by omega)) ?_ | refine WL.val rfl (run_ixSl Try.underlying22 ty48 rfl rfl (by omega)) ?_
          refine WL.yes rfl rfl rfl ?_
          refine WL.val rfl (run_loadN ty48 rfl (Ent.cells_len hok) hax) ?_
          refine WL.yes rfl rfl rfl ?_
          refine WL.val rfl (run_move) ?_
          refine WL.yes rfl rfl rfl ?_
          refine WL.enter rfl (run_callV (cap := []) en76 rfl rfl) (cmpE_spec _ hok) ?_
          rintro e w ⟨rfl, hq⟩
          refine ⟨_, rfl, ?_⟩
          refine WL.yes rfl rfl rfl ?_
          refine WL.val rfl (run_bT (run_eql rfl rfl) (by exact (cmp_eq0 _ _).2 hn)) ?_
          first | refine WL.val rfl (run_pickT rfl) ?_ | refine WL.val rfl (run_pickF rfl) ?_
          refine WL.val rfl (run_assign) ?_
          refine WL.val rfl (run_assign) ?_
          refine WL.nil ?_
          repeat (first | refine CW.seq ?_ | refine CW.block ?_ | refine CW.skip ?_ | refine CW.label ?_ | refine CW.exit ?_ | refine CW.condT rfl ?_ | refine CW.condF rfl ?_)
          refine CW.ret ?_
          refine fin_ret2 rfl ?_
          rw [decide_eq_true hn] at hat2
          exact ⟨i, by rw [hat2]; rfl, hj, hp, hs.callE hq⟩
        · repeat (first | refine CW.seq ?_ | refine CW.block ?_ | refine CW.skip ?_ | refine CW.label ?_ | refine CW.exit ?_ | refine CW.condT rfl ?_ | refine CW.condF rfl ?_)
          refine CW.reg ?_
          refine WL.val rfl (run_move) ?_
          refine WL.val rfl (run_move) ?_
          refine WL.val rfl (run_move) ?_
          refine WL.val rfl (run_bT (run_lss rfl rfl) (by omega)) ?_
          refine WL.val rfl (run_move) ?_
          refine WL.yes rfl rfl rfl ?_
          refine WL.val rfl (run_move) ?_
          refine WL.yes rfl rfl rfl ?_
          refine WL.val rfl (run_move) ?_
          refine WL.yes rfl rfl rfl ?_
          refine WL.val rfl (run_move) ?_
          refine WL.yes rfl rfl rfl ?_
          first | refine WL.val rfl (run_ixSlN Try.underlying22 ty48 rfl rfl (by omega)) ?_ | refine WL.val rfl (run_ixSl Try.underlying22 ty48 rfl rfl (by omega)) ?_
          refine WL.yes rfl rfl rfl ?_
          refine WL.val rfl (run_loadN ty48 rfl (Ent.cells_len hok) hax) ?_
          refine WL.yes rfl rfl rfl ?_
          refine WL.val rfl (run_move) ?_
          refine WL.yes rfl rfl rfl ?_
          refine WL.enter rfl (run_callV (cap := []) en76 rfl rfl) (cmpE_spec _ hok) ?_
          rintro e w ⟨rfl, hq⟩
          refine ⟨_, rfl, ?_⟩
          refine WL.yes rfl rfl rfl ?_
          refine WL.val rfl (run_bF (run_eql rfl rfl) (by exact fun h => hn ((cmp_eq0 _ _).1 h))) ?_
          first | refine WL.val rfl (run_pickT rfl) ?_ | refine WL.val rfl (run_pickF rfl) ?_
          refine WL.val rfl (run_assign) ?_
          refine WL.val rfl (run_assign) ?_
          refine WL.nil ?_
          repeat (first | refine CW.seq ?_ | refine CW.block ?_ | refine CW.skip ?_ | refine CW.label ?_ | refine CW.exit ?_ | refine CW.condT rfl ?_ | refine CW.condF rfl ?_)
          refine CW.ret ?_
          refine fin_ret2 rfl ?_
          rw [decide_eq_false hn] at hat2
          exact ⟨i, by rw [hat2]; rfl, hj, hp, hs.callE hq⟩
      · have hat2 : At? l n i = false := by unfold At?; rw [List.getElem?_eq_none (by omega)]
        repeat (first | refine CW.seq ?_ | refine CW.block ?_ | refine CW.skip ?_ | refine CW.label ?_ | refine CW.exit ?_ | refine CW.condT rfl ?_ | refine CW.condF rfl ?_)
        refine CW.reg ?_
        refine WL.val rfl (run_move) ?_
        refine WL.val rfl (run_move) ?_
        refine WL.val rfl (run_move) ?_
        refine WL.val rfl (run_bF (run_lss rfl rfl) (by omega)) ?_
        refine WL.val rfl (run_move) ?_
        first | refine WL.no rfl rfl rfl (.inl rfl) ?_ | refine WL.no rfl rfl rfl (.inr rfl) ?_
        first | refine WL.no rfl rfl rfl (.inl rfl) ?_ | refine WL.no rfl rfl rfl (.inr rfl) ?_
        first | refine WL.no rfl rfl rfl (.inl rfl) ?_ | refine WL.no rfl rfl rfl (.inr rfl) ?_
        first | refine WL.no rfl rfl rfl (.inl rfl) ?_ | refine WL.no rfl rfl rfl (.inr rfl) ?_
        first | refine WL.no rfl rfl rfl (.inl rfl) ?_ | refine WL.no rfl rfl rfl (.inr rfl) ?_
        first | refine WL.no rfl rfl rfl (.inl rfl) ?_ | refine WL.no rfl rfl rfl (.inr rfl) ?_
        first | refine WL.no rfl rfl rfl (.inl rfl) ?_ | refine WL.no rfl rfl rfl (.inr rfl) ?_
        first | refine WL.no rfl rfl rfl (.inl rfl) ?_ | refine WL.no rfl rfl rfl (.inr rfl) ?_
        first | refine WL.val rfl (run_pickT rfl) ?_ | refine WL.val rfl (run_pickF rfl) ?_
        refine WL.val rfl (run_assign) ?_
        refine WL.val rfl (run_assign) ?_
        refine WL.nil ?_
        repeat (first | refine CW.seq ?_ | refine CW.block ?_ | refine CW.skip ?_ | refine CW.label ?_ | refine CW.exit ?_ | refine CW.condT rfl ?_ | refine CW.condF rfl ?_)
        refine CW.ret ?_
        refine fin_ret2 rfl ?_
        exact ⟨i, by rw [hat2]; rfl, hj, hp, hs⟩

theorem place_spec {v : Value} {l : List Ent} {n : List UInt8} (w0 : World) (hl : Es w0 v l) (hbb : l.length ≤ 1000000) :
    Calls Try.prog 55 #[v, str n] w0 fun e w' => ∃ i : Nat, e = .returned (.tuple #[.int .i64 i, .bool (At? l n i)]) ∧ i ≤ l.length ∧ (Rising l → PartAt l n i) ∧ Step [] [] w0 w' := by
  have hs : Step [] [] w0 w0 := Step.refl w0
  refine calls (n := 11) Try.func55 rfl rfl rfl ?_
  repeat (first | refine CW.seq ?_ | refine CW.block ?_ | refine CW.skip ?_ | refine CW.label ?_ | refine CW.exit ?_ | refine CW.condT rfl ?_ | refine CW.condF rfl ?_)
  refine CW.reg ?_
  refine WL.val rfl (run_assign) ?_
  refine WL.val rfl (run_assign) ?_
  refine WL.nil ?_
  repeat (first | refine CW.seq ?_ | refine CW.block ?_ | refine CW.skip ?_ | refine CW.label ?_ | refine CW.exit ?_ | refine CW.condT rfl ?_ | refine CW.condF rfl ?_)
  refine CW.reg ?_
  refine WL.val rfl (run_move) ?_
  refine WL.val rfl (run_move) ?_
  refine WL.enter rfl (run_call en75 rfl rfl) (search_spec _ hl hbb) ?_
  rintro e w ⟨i, rfl, hi, hp, hq⟩
  refine ⟨_, rfl, ?_⟩
  refine WL.val rfl (run_extract rfl rfl) ?_
  refine WL.val rfl (run_extract rfl rfl) ?_
  refine WL.val rfl (run_assign) ?_
  refine WL.val rfl (run_assign) ?_
  refine WL.nil ?_
  repeat (first | refine CW.seq ?_ | refine CW.block ?_ | refine CW.skip ?_ | refine CW.label ?_ | refine CW.exit ?_ | refine CW.condT rfl ?_ | refine CW.condF rfl ?_)
  refine CW.ret ?_
  refine fin_ret2 rfl ?_
  exact ⟨i, rfl, hi, hp, hs.callE hq⟩

theorem cloneE_spec {v : Value} {l : List Ent} (w0 : World) (hl : Es w0 v l) (hb : l.length ≤ 1000000) :
    Calls Try.prog 56 #[v] w0 fun e w' => ∃ u Lu, e = .returned u ∧ OwnSl 48 34 u l.length (rows l) Lu ∧ Step [] Lu w0 w' := by
  have hs : Step [] [] w0 w0 := Step.refl w0
  have hobt := hl.1.form
  obtain ⟨a, c, rfl⟩ := hobt
  cases a with
  | none =>
    have hl0 : l = [] := by
      rcases hl.cases with ⟨_, c', hv', h⟩ | ⟨b, off, c', hv', hat⟩
      · exact h
      · cases hv'
    subst hl0
    refine calls (n := 8) Try.func56 rfl rfl rfl ?_
    repeat (first | refine CW.seq ?_ | refine CW.block ?_ | refine CW.skip ?_ | refine CW.label ?_ | refine CW.exit ?_ | refine CW.condT rfl ?_ | refine CW.condF rfl ?_)
    refine CW.reg ?_
    refine WL.val rfl (run_assign) ?_
    refine WL.nil ?_
    repeat (first | refine CW.seq ?_ | refine CW.block ?_ | refine CW.skip ?_ | refine CW.label ?_ | refine CW.exit ?_ | refine CW.condT rfl ?_ | refine CW.condF rfl ?_)
    refine CW.reg ?_
    refine WL.val rfl (run_move) ?_
    refine WL.val rfl (run_eqSlNil Try.underlying22 rfl) ?_
    refine WL.nil ?_
    repeat (first | refine CW.seq ?_ | refine CW.block ?_ | refine CW.skip ?_ | refine CW.label ?_ | refine CW.exit ?_ | refine CW.condT rfl ?_ | refine CW.condF rfl ?_)
    refine CW.reg ?_
    refine WL.val rfl (run_assign) ?_
    refine WL.nil ?_
    repeat (first | refine CW.seq ?_ | refine CW.block ?_ | refine CW.skip ?_ | refine CW.label ?_ | refine CW.exit ?_ | refine CW.condT rfl ?_ | refine CW.condF rfl ?_)
    refine CW.ret ?_
    refine fin_ret1 rfl ?_
    exact ⟨_, _, rfl, .nil _ _, hs⟩
  | some a =>
    refine calls (n := 8) Try.func56 rfl rfl rfl ?_
    repeat (first | refine CW.seq ?_ | refine CW.block ?_ | refine CW.skip ?_ | refine CW.label ?_ | refine CW.exit ?_ | refine CW.condT rfl ?_ | refine CW.condF rfl ?_)
    refine CW.reg ?_
    refine WL.val rfl (run_assign) ?_
    refine WL.nil ?_
    repeat (first | refine CW.seq ?_ | refine CW.block ?_ | refine CW.skip ?_ | refine CW.label ?_ | refine CW.exit ?_ | refine CW.condT rfl ?_ | refine CW.condF rfl ?_)
    refine CW.reg ?_
    refine WL.val rfl (run_move) ?_
    refine WL.val rfl (run_eqSlNil Try.underlying22 rfl) ?_
    refine WL.nil ?_
    repeat (first | refine CW.seq ?_ | refine CW.block ?_ | refine CW.skip ?_ | refine CW.label ?_ | refine CW.exit ?_ | refine CW.condT rfl ?_ | refine CW.condF rfl ?_)
    refine CW.reg ?_
    refine WL.buildSlice (cs := []) Try.underlying22 ty48 rfl (by decide) rfl (by simp [Filled, Instr.fill]) rfl hs (fun b5 w hs => ?_)
    refine WL.val rfl (run_move) ?_
    refine WL.append Try.underlying22 Try.underlying22 ty48 rfl (by decide) rfl rfl ((OwnSl.mk (k := 0) (by simp))) (hs) (hl.1.step0 hs.clear) (rows_cells1 l) (by first | omega | (simp only [List.length_append, List.length_cons, List.length_nil]; omega)) rfl (fun v7 Lv7 w hv7 hs => ?_)
    refine WL.val rfl (run_assign) ?_
    refine WL.nil ?_
    repeat (first | refine CW.seq ?_ | refine CW.block ?_ | refine CW.skip ?_ | refine CW.label ?_ | refine CW.exit ?_ | refine CW.condT rfl ?_ | refine CW.condF rfl ?_)
    refine CW.ret ?_
    refine fin_ret1 rfl ?_
    rw [Nat.zero_add, List.nil_append] at hv7
    exact ⟨_, _, rfl, hv7, Step.dropR (L2 := []) hs⟩
end Go.Gx
/-! Sl2 -/
namespace Go.Gx
open Go.Proofs
set_option linter.unusedVariables false
set_option linter.unusedSimpArgs false
set_option maxRecDepth 100000

theorem splice_mid {A M R vs : List Value} {off : Nat} (ho : off = A.length) (h : vs.length = M.length) : splice (A ++ M ++ R) off vs = A ++ vs ++ R := by
  subst ho
  simp [splice, List.append_assoc, h]
theorem Step.blkEq {S : List Nat} {b : Nat} {T : TypeId} {cs cs' : List Value} {L : List (Nat × Obj)} {w0 w : World} (e : cs = cs') (h : Step S ((b, blk T cs) :: L) w0 w) : Step S ((b, blk T cs') :: L) w0 w := e ▸ h
theorem rows_take_len {l : List Ent} (h : Oks l) {i : Nat} (hi : i ≤ l.length) : (rows (l.take i)).length = i * 34 := by
  rw [rows_len (h.take i), List.length_take, Nat.min_eq_left hi]
theorem rows_drop_len {l : List Ent} (h : Oks l) (i : Nat) : (rows (l.drop i)).length = (l.length - i) * 34 := by
  rw [rows_len (h.drop i), List.length_drop]
theorem rows_cut (l : List Ent) (i : Nat) : rows l = rows (l.take i) ++ rows (l.drop i) := by rw [← rows_append, List.take_append_drop]
theorem rows_drop {l : List Ent} (h : Oks l) {i : Nat} (hi : i ≤ l.length) : (rows l).drop (i * 34) = rows (l.drop i) := by
  rw [rows_cut l i, ← rows_take_len h hi, List.drop_left]
theorem rows_take {l : List Ent} (h : Oks l) {i : Nat} (hi : i ≤ l.length) : (rows l).take (i * 34) = rows (l.take i) := by
  rw [rows_cut l i, ← rows_take_len h hi, List.take_left]

def del (l : List Ent) (i : Nat) : List Ent := l.take i ++ l.drop (i + 1)
def ins (l : List Ent) (i : Nat) (x : Ent) : List Ent := l.take i ++ x :: l.drop i

theorem deleteE_spec {b cap i : Nat} {l : List Ent} {more : List Value} (w0 : World) (hi : i < l.length) (ho : Oks l) (hbb : l.length ≤ 1000000) (hO : Step [b] [(b, blk 48 (rows l ++ more))] w0 w0) (hcap : (rows l ++ more).length = cap * 34) :
    Calls Try.prog 57 #[.slice (some ⟨b, 0, none⟩) l.length cap, .int .i64 i, .int .i64 (i + 1 : Nat)] w0 fun e w' => ∃ u Lu, e = .returned u ∧ OwnSl 48 34 u (del l i).length (rows (del l i)) Lu ∧ Step [b] Lu w0 w' := by
  have hs := hO
  have hrl := rows_len ho
  have hcl : l.length ≤ cap := by
    rw [List.length_append, hrl] at hcap
    omega
  have htl := rows_take_len ho (Nat.le_of_lt hi)
  have hdl := rows_drop_len ho (i + 1)
  have hdl0 := rows_drop_len ho i
  have hdel : (del l i).length = l.length - 1 := by simp [del]; omega
  have hcut : cutSl 34 b 0 (i + (l.length - (i + 1))) l.length cap = .slice (some ⟨b, 0 + (l.length - 1) * 34, none⟩) 1 (cap - (l.length - 1)) := by
    rw [show i + (l.length - (i + 1)) = l.length - 1 by omega, cutSl, if_neg (by omega), show l.length - (l.length - 1) = 1 by omega]
  have e0 : rows l ++ more = rows (l.take i) ++ (rows (l.drop i) ++ more) := by rw [← List.append_assoc, ← rows_cut]
  have hat : ∀ {w : World} {L : List (Nat × Obj)}, Step [b] ((b, blk 48 (rows l ++ more)) :: L) w0 w → At w b 0 (rows l) := fun hs => (At.of_blk hs.hd).left
  have hsrc : ∀ w, Step [b] [(b, blk 48 (rows l ++ more))] w0 w → Sl w 34 (cutSl 34 b 0 (i + 1) l.length cap) (l.length - (i + 1)) (rows (l.drop (i + 1))) := fun w hs => by
    have h1 := Sl.cut (sz := 34) (lo := i + 1) (hi := l.length) (m := cap) (hat hs) hrl (by omega) (Nat.le_refl _) hcl
    rw [rows_take ho (Nat.le_refl _), List.take_length, rows_drop ho (by omega)] at h1
    exact h1
  refine calls (n := 33) Try.func57 rfl rfl rfl ?_
  repeat (first | refine CW.seq ?_ | refine CW.block ?_ | refine CW.skip ?_ | refine CW.label ?_ | refine CW.exit ?_ | refine CW.condT rfl ?_ | refine CW.condF rfl ?_)
  refine CW.reg ?_
  refine WL.val rfl (run_assign) ?_
  refine WL.nil ?_
  repeat (first | refine CW.seq ?_ | refine CW.block ?_ | refine CW.skip ?_ | refine CW.label ?_ | refine CW.exit ?_ | refine CW.condT rfl ?_ | refine CW.condF rfl ?_)
  refine CW.reg ?_
  refine WL.val rfl (run_move) ?_
  refine WL.val rfl (run_move) ?_
  refine WL.val rfl (run_move) ?_
  refine WL.val rfl (run_move) ?_
  refine WL.val rfl (run_lenSl Try.underlying22 rfl) ?_
  refine WL.val rfl (run_sliceSlE (lo := i) (hi := i + 1) (m := l.length) Try.underlying22 ty48 rfl rfl rfl rfl (by simp) (by omega) (by omega) (by omega) rfl) ?_
  refine WL.nil ?_
  repeat (first | refine CW.seq ?_ | refine CW.block ?_ | refine CW.skip ?_ | refine CW.label ?_ | refine CW.exit ?_ | refine CW.condT rfl ?_ | refine CW.condF rfl ?_)
  refine CW.reg ?_
  refine WL.val rfl (run_move) ?_
  refine WL.val rfl (run_move) ?_
  refine WL.val rfl (run_bF (run_eql rfl rfl) (by omega)) ?_
  refine WL.nil ?_
  repeat (first | refine CW.seq ?_ | refine CW.block ?_ | refine CW.skip ?_ | refine CW.label ?_ | refine CW.exit ?_ | refine CW.condT rfl ?_ | refine CW.condF rfl ?_)
  refine CW.reg ?_
  refine WL.val rfl (run_move) ?_
  refine WL.val rfl (run_lenSl Try.underlying22 rfl) ?_
  refine WL.val rfl (run_assign) ?_
  refine WL.nil ?_
  repeat (first | refine CW.seq ?_ | refine CW.block ?_ | refine CW.skip ?_ | refine CW.label ?_ | refine CW.exit ?_ | refine CW.condT rfl ?_ | refine CW.condF rfl ?_)
  refine CW.any (A := fun w => True) (C := fun w => Step [b] [(b, blk 48 (rows l ++ more))] w0 w) 6 8 mixedP rfl ?_
  replace hs := hs.drew
  refine AL.valA 0 rfl (by kernel_rfl) rfl (fun w hs => run_move) ?_
  refine AL.valA 1 rfl (by kernel_rfl) rfl (fun w hs => run_move) ?_
  refine AL.val 2 rfl (by kernel_rfl) rfl (fun w hs => run_sliceSl0  Try.underlying22 ty48 rfl rfl rfl (by simp) (by omega) (by omega)) ?_
  refine AL.valA 3 rfl (by kernel_rfl) rfl (fun w hs => run_move) ?_
  refine AL.valA 4 rfl (by kernel_rfl) rfl (fun w hs => run_move) ?_
  refine AL.val 5 rfl (by kernel_rfl) rfl (fun w hs => run_sliceSlE (lo := i + 1) (hi := l.length) (m := cap) Try.underlying22 ty48 rfl rfl rfl rfl (by simp) (by omega) (by omega) (by omega) rfl) ?_
  refine AL.one 6 (by kernel_rfl) rfl (trivial) (hs) ?_
  have hsl := hsrc _ hs
  replace hs := Step.blkEq e0 hs
  refine WL.appendIn Try.underlying22 Try.underlying22 ty48 rfl rfl rfl (htl) hs ((by rw [← e0]; exact hcap)) (hsl) (rows_cells1 _) (by omega) rfl (fun w hs => ?_)
  refine WL.nil ?_
  refine ⟨rfl, ?_⟩
  refine AL.relax (by kernel_rfl) ?_
  refine AL.valA 7 rfl (by kernel_rfl) rfl (fun w hs => run_assign) ?_
  refine AL.end (by kernel_rfl) (trivial) (trivial) ?_
  have hml : (rows (l.drop i) ++ more).drop (rows (l.drop (i + 1))).length = (rows (l.drop i) ++ more).drop ((l.length - (i + 1)) * 34) := by rw [hdl]
  generalize hm2 : (rows (l.drop i) ++ more).drop (rows (l.drop (i + 1))).length = more2 at hs
  have hm2l : 34 ≤ more2.length := by
    rw [← hm2, hdl]
    simp only [List.length_drop, List.length_append, hdl0]
    omega
  have hcs : (rows (l.take i) ++ rows (l.drop (i + 1)) ++ more2).length = (l.length - 1) * 34 + more2.length := by
    simp only [List.length_append, htl, hdl]
    omega
  have hcapl : (l.length - 1) * 34 + more2.length = cap * 34 := by
    rw [← hm2, hdl]
    rw [e0] at hcap
    simp only [List.length_drop, List.length_append, htl, hdl0] at hcap ⊢
    omega
  repeat (first | refine CW.seq ?_ | refine CW.block ?_ | refine CW.skip ?_ | refine CW.label ?_ | refine CW.exit ?_ | refine CW.condT rfl ?_ | refine CW.condF rfl ?_)
  refine CW.reg ?_
  refine WL.val rfl (run_move) ?_
  refine WL.val rfl (run_move) ?_
  refine WL.val rfl (run_lenSl Try.underlying22 rfl) ?_
  refine WL.val rfl (run_move) ?_
  refine WL.val rfl (run_sliceSlE (lo := i + (l.length - (i + 1))) (hi := l.length) (m := cap) Try.underlying22 ty48 rfl rfl rfl rfl (by simp) (by omega) (by omega) (by omega) hcut) ?_
  first | refine WL.clear Try.underlying22 ty48 rfl rfl hs (by omega) (by omega) rfl (fun w hs => ?_) | refine WL.clearA Try.underlying22 ty48 rfl rfl hs (by omega) rfl (fun w hs => ?_)
  refine WL.nil ?_
  repeat (first | refine CW.seq ?_ | refine CW.block ?_ | refine CW.skip ?_ | refine CW.label ?_ | refine CW.exit ?_ | refine CW.condT rfl ?_ | refine CW.condF rfl ?_)
  refine CW.reg ?_
  refine WL.val rfl (run_move) ?_
  refine WL.val rfl (run_assign) ?_
  refine WL.nil ?_
  repeat (first | refine CW.seq ?_ | refine CW.block ?_ | refine CW.skip ?_ | refine CW.label ?_ | refine CW.exit ?_ | refine CW.condT rfl ?_ | refine CW.condF rfl ?_)
  refine CW.ret ?_
  refine fin_ret1 rfl ?_
  have hdr : rows (del l i) = rows (l.take i) ++ rows (l.drop (i + 1)) := by rw [del, rows_append]
  have hz : (List.replicate 1 ([str [], .int .i64 0] ++ List.replicate 32 (Value.int .u8 0))).flatten.length = 34 := rfl
  have hsp := splice_end (rows (del l i)) more2 (List.replicate 1 ([str [], .int .i64 0] ++ List.replicate 32 (Value.int .u8 0))).flatten (by rw [hz]; omega)
  have hdll : (rows (del l i)).length = (l.length - 1) * 34 := by rw [hdr, List.length_append, htl, hdl]; omega
  rw [hdll, hdr] at hsp
  rw [Nat.zero_add, hsp] at hs
  have hlen : i + (l.length - (i + 1)) = (del l i).length := by rw [hdel]; omega
  have hu : OwnSl 48 34 (.slice (some ⟨b, 0, none⟩) (i + (l.length - (i + 1))) cap) (del l i).length (rows (del l i)) [(b, blk 48 (rows (l.take i) ++ rows (l.drop (i + 1)) ++ (List.replicate 1 ([str [], .int .i64 0] ++ List.replicate 32 (Value.int .u8 0))).flatten ++ more2.drop (List.replicate 1 ([str [], .int .i64 0] ++ List.replicate 32 (Value.int .u8 0))).flatten.length))] := by
    refine ⟨by rw [hdel]; exact hdll, .inr ⟨b, cap, (List.replicate 1 ([str [], .int .i64 0] ++ List.replicate 32 (Value.int .u8 0))).flatten ++ more2.drop (List.replicate 1 ([str [], .int .i64 0] ++ List.replicate 32 (Value.int .u8 0))).flatten.length, by rw [hlen], by rw [hdr, List.append_assoc (rows (l.take i) ++ rows (l.drop (i + 1)))], ?_⟩⟩
    rw [hdr]
    simp only [List.length_append, htl, hdl, hz, List.length_drop]
    omega
  exact ⟨.slice (some ⟨b, 0, none⟩) (i + (l.length - (i + 1))) cap, _, rfl, hu, hs⟩
end Go.Gx
/-! Sl3 -/
namespace Go.Gx
open Go.Proofs
set_option linter.unusedVariables false
set_option linter.unusedSimpArgs false
set_option maxRecDepth 100000

theorem ins_rows (l : List Ent) (i : Nat) (x : Ent) : rows (ins l i x) = rows (l.take i) ++ x.cells ++ rows (l.drop i) := by
  rw [ins, rows_append, List.append_assoc]
  rfl
theorem OwnSl.some1 {E sz k : Nat} {v : Value} {xs : List Value} {Lv : List (Nat × Obj)} (h : OwnSl E sz v k xs Lv) (hk : 0 < k) : ∃ b cap more, v = .slice (some ⟨b, 0, none⟩) k cap ∧ Lv = [(b, blk E (xs ++ more))] ∧ (xs ++ more).length = cap * sz := by
  obtain ⟨hl, ⟨h1, h0, _⟩ | h⟩ := h
  · omega
  · exact h

theorem insertE_spec {b bx cap i : Nat} {l : List Ent} {x : Ent} {more : List Value} (w0 : World) (hi : i ≤ l.length) (ho : Oks l) (hx : x.ok) (hbb : l.length ≤ 1000000) (hO : Step [b] [(b, blk 48 (rows l ++ more))] w0 w0) (hcap : (rows l ++ more).length = cap * 34)
    (hxb : w0.heap[bx]? = some (blk 48 x.cells)) (hne : bx ≠ b) :
    Calls Try.prog 58 #[.slice (some ⟨b, 0, none⟩) l.length cap, .int .i64 i, .slice (some ⟨bx, 0, none⟩) 1 1] w0 fun e w' => ∃ u Lu, e = .returned u ∧ OwnSl 48 34 u (l.length + 1) (rows (ins l i x)) Lu ∧ Step [b] Lu w0 w' := by
  have hs := hO
  have hrl := rows_len ho
  have hxl := Ent.cells_len hx
  have hml : more.length = (cap - l.length) * 34 := by
    rw [List.length_append, hrl] at hcap
    omega
  have hcl : l.length ≤ cap := by
    rw [List.length_append, hrl] at hcap
    omega
  have htl := rows_take_len ho hi
  have hdl := rows_drop_len ho i
  have hnb : bx ∉ [b] := by simpa using hne
  have hxs : ∀ {w : World} {L : List (Nat × Obj)}, Step [b] L w0 w → Sl w 34 (.slice (some ⟨bx, 0, none⟩) 1 1) 1 x.cells := fun hs => .mk (by rw [hxl]) ((At.of_blk hxb).step hs hnb)
  have hat : ∀ {w : World} {L : List (Nat × Obj)}, Step [b] ((b, blk 48 (rows l ++ more)) :: L) w0 w → At w b 0 (rows l) := fun hs => (At.of_blk hs.hd).left
  have hsrc : ∀ {w : World} {L : List (Nat × Obj)}, Step [b] ((b, blk 48 (rows l ++ more)) :: L) w0 w → Sl w 34 (cutSl 34 b 0 i l.length cap) (l.length - i) (rows (l.drop i)) := fun hs => by
    have h1 := Sl.cut (sz := 34) (lo := i) (hi := l.length) (m := cap) (hat hs) hrl (by omega) (Nat.le_refl _) hcl
    rw [rows_take ho (Nat.le_refl _), List.take_length, rows_drop ho hi] at h1
    exact h1
  have hil : (rows (ins l i x)).length = (l.length + 1) * 34 := by
    rw [ins_rows]
    simp only [List.length_append, htl, hxl, hdl]
    omega
  by_cases hend : i = l.length
  · have hown : OwnSl 48 34 (.slice (some ⟨b, 0, none⟩) l.length cap) l.length (rows l) [(b, blk 48 (rows l ++ more))] := ⟨hrl, .inr ⟨b, cap, more, rfl, rfl, hcap⟩⟩
    have he : rows (ins l i x) = rows l ++ x.cells := by
      rw [ins_rows, hend, List.take_length, List.drop_length]
      simp [rows]
    refine calls (n := 95) Try.func58 rfl rfl rfl ?_
    repeat (first | refine CW.seq ?_ | refine CW.block ?_ | refine CW.skip ?_ | refine CW.label ?_ | refine CW.exit ?_ | refine CW.condT rfl ?_ | refine CW.condF rfl ?_)
    refine CW.reg ?_
    refine WL.val rfl (run_assign) ?_
    refine WL.nil ?_
    repeat (first | refine CW.seq ?_ | refine CW.block ?_ | refine CW.skip ?_ | refine CW.label ?_ | refine CW.exit ?_ | refine CW.condT rfl ?_ | refine CW.condF rfl ?_)
    refine CW.reg ?_
    refine WL.val rfl (run_move) ?_
    refine WL.val rfl (run_move) ?_
    refine WL.val rfl (run_sliceSlE (lo := i) (hi := l.length) (m := cap) Try.underlying22 ty48 rfl rfl rfl rfl (by simp) (by omega) (by omega) (by omega) rfl) ?_
    refine WL.nil ?_
    repeat (first | refine CW.seq ?_ | refine CW.block ?_ | refine CW.skip ?_ | refine CW.label ?_ | refine CW.exit ?_ | refine CW.condT rfl ?_ | refine CW.condF rfl ?_)
    refine CW.reg ?_
    refine WL.val rfl (run_move) ?_
    refine WL.val rfl (run_lenSl Try.underlying22 rfl) ?_
    refine WL.val rfl (run_assign) ?_
    refine WL.nil ?_
    repeat (first | refine CW.seq ?_ | refine CW.block ?_ | refine CW.skip ?_ | refine CW.label ?_ | refine CW.exit ?_ | refine CW.condT rfl ?_ | refine CW.condF rfl ?_)
    refine CW.reg ?_
    refine WL.val rfl (run_move) ?_
    refine WL.val rfl (run_bF (run_eql rfl rfl) (by decide)) ?_
    refine WL.nil ?_
    repeat (first | refine CW.seq ?_ | refine CW.block ?_ | refine CW.skip ?_ | refine CW.label ?_ | refine CW.exit ?_ | refine CW.condT rfl ?_ | refine CW.condF rfl ?_)
    refine CW.reg ?_
    refine WL.val rfl (run_move) ?_
    refine WL.val rfl (run_lenSl Try.underlying22 rfl) ?_
    refine WL.val rfl (run_assign) ?_
    refine WL.nil ?_
    repeat (first | refine CW.seq ?_ | refine CW.block ?_ | refine CW.skip ?_ | refine CW.label ?_ | refine CW.exit ?_ | refine CW.condT rfl ?_ | refine CW.condF rfl ?_)
    refine CW.reg ?_
    refine WL.val rfl (run_move) ?_
    refine WL.val rfl (run_move) ?_
    refine WL.val rfl (run_bT (run_eql rfl rfl) (by omega)) ?_
    refine WL.nil ?_
    repeat (first | refine CW.seq ?_ | refine CW.block ?_ | refine CW.skip ?_ | refine CW.label ?_ | refine CW.exit ?_ | refine CW.condT rfl ?_ | refine CW.condF rfl ?_)
    refine CW.reg ?_
    refine WL.val rfl (run_move) ?_
    refine WL.val rfl (run_move) ?_
    refine WL.append Try.underlying22 Try.underlying22 ty48 rfl (by decide) rfl rfl (hown) (hs) (hxs hs) (x.cells1) (by first | omega | (simp only [List.length_append, List.length_cons, List.length_nil]; omega)) rfl (fun v25 Lv25 w hv25 hs => ?_)
    refine WL.val rfl (run_assign) ?_
    refine WL.nil ?_
    repeat (first | refine CW.seq ?_ | refine CW.block ?_ | refine CW.skip ?_ | refine CW.label ?_ | refine CW.exit ?_ | refine CW.condT rfl ?_ | refine CW.condF rfl ?_)
    refine CW.ret ?_
    refine fin_ret1 rfl ?_
    rw [← he] at hv25
    exact ⟨_, _, rfl, hv25, Step.dropR (L2 := []) hs⟩
  · have hlt : i < l.length := by omega
    by_cases hgrow : cap < l.length + 1
    · refine calls (n := 95) Try.func58 rfl rfl rfl ?_
      repeat (first | refine CW.seq ?_ | refine CW.block ?_ | refine CW.skip ?_ | refine CW.label ?_ | refine CW.exit ?_ | refine CW.condT rfl ?_ | refine CW.condF rfl ?_)
      refine CW.reg ?_
      refine WL.val rfl (run_assign) ?_
      refine WL.nil ?_
      repeat (first | refine CW.seq ?_ | refine CW.block ?_ | refine CW.skip ?_ | refine CW.label ?_ | refine CW.exit ?_ | refine CW.condT rfl ?_ | refine CW.condF rfl ?_)
      refine CW.reg ?_
      refine WL.val rfl (run_move) ?_
      refine WL.val rfl (run_move) ?_
      refine WL.val rfl (run_sliceSlE (lo := i) (hi := l.length) (m := cap) Try.underlying22 ty48 rfl rfl rfl rfl (by simp) (by omega) (by omega) (by omega) rfl) ?_
      refine WL.nil ?_
      repeat (first | refine CW.seq ?_ | refine CW.block ?_ | refine CW.skip ?_ | refine CW.label ?_ | refine CW.exit ?_ | refine CW.condT rfl ?_ | refine CW.condF rfl ?_)
      refine CW.reg ?_
      refine WL.val rfl (run_move) ?_
      refine WL.val rfl (run_lenSl Try.underlying22 rfl) ?_
      refine WL.val rfl (run_assign) ?_
      refine WL.nil ?_
      repeat (first | refine CW.seq ?_ | refine CW.block ?_ | refine CW.skip ?_ | refine CW.label ?_ | refine CW.exit ?_ | refine CW.condT rfl ?_ | refine CW.condF rfl ?_)
      refine CW.reg ?_
      refine WL.val rfl (run_move) ?_
      refine WL.val rfl (run_bF (run_eql rfl rfl) (by decide)) ?_
      refine WL.nil ?_
      repeat (first | refine CW.seq ?_ | refine CW.block ?_ | refine CW.skip ?_ | refine CW.label ?_ | refine CW.exit ?_ | refine CW.condT rfl ?_ | refine CW.condF rfl ?_)
      refine CW.reg ?_
      refine WL.val rfl (run_move) ?_
      refine WL.val rfl (run_lenSl Try.underlying22 rfl) ?_
      refine WL.val rfl (run_assign) ?_
      refine WL.nil ?_
      repeat (first | refine CW.seq ?_ | refine CW.block ?_ | refine CW.skip ?_ | refine CW.label ?_ | refine CW.exit ?_ | refine CW.condT rfl ?_ | refine CW.condF rfl ?_)
      refine CW.reg ?_
      refine WL.val rfl (run_move) ?_
      refine WL.val rfl (run_move) ?_
      refine WL.val rfl (run_bF (run_eql rfl rfl) (by omega)) ?_
      refine WL.nil ?_
      repeat (first | refine CW.seq ?_ | refine CW.block ?_ | refine CW.skip ?_ | refine CW.label ?_ | refine CW.exit ?_ | refine CW.condT rfl ?_ | refine CW.condF rfl ?_)
      refine CW.reg ?_
      refine WL.val rfl (run_move) ?_
      refine WL.val rfl (run_move) ?_
      refine WL.val rfl (run_add (c := ((l.length + 1 : Nat) : Int)) rfl rfl (by omega) (by omega)) ?_
      refine WL.val rfl (run_move) ?_
      refine WL.val rfl (run_capSl Try.underlying22 rfl) ?_
      refine WL.val rfl (run_bT (run_gtr rfl rfl) (by omega)) ?_
      refine WL.nil ?_
      have hold := fun (w : World) (L : List (Nat × Obj)) (hs : Step [b] ((b, blk 48 (rows l ++ more)) :: L) w0 w) => show Sl w 34 (.slice (some ⟨b, 0, none⟩) i cap) i (rows (l.take i)) from .mk htl (by have := (hat hs).take (i * 34); rwa [rows_take ho hi] at this)
      repeat (first | refine CW.seq ?_ | refine CW.block ?_ | refine CW.skip ?_ | refine CW.label ?_ | refine CW.exit ?_ | refine CW.condT rfl ?_ | refine CW.condF rfl ?_)
      refine CW.reg ?_
      refine WL.val rfl (run_move) ?_
      refine WL.val rfl (run_move) ?_
      refine WL.val rfl (run_sliceSl0 (hi := i) Try.underlying22 ty48 rfl rfl rfl (by simp) (by omega) (by omega)) ?_
      refine WL.val rfl (run_move) ?_
      refine WL.val rfl (run_move) ?_
      refine WL.val rfl (run_add (c := ((l.length + 1 : Nat) : Int)) rfl rfl (by omega) (by omega)) ?_
      refine WL.val rfl (run_move) ?_
      refine WL.val rfl (run_sub (c := ((l.length + 1 - i : Nat) : Int)) rfl rfl (by omega) (by omega)) ?_
      refine WL.appendZ Try.underlying22 Try.underlying3 ty48 rfl (by decide) rfl rfl (hold _ _ hs) hs (by omega) (by omega) rfl (fun v40 Lv40 w hv40 hs => ?_)
      refine WL.val rfl (run_assign) ?_
      refine WL.nil ?_
      have hkl : i + (l.length + 1 - i) = l.length + 1 := by omega
      rw [hkl] at hv40
      have h40 := hv40.some1 (by omega)
      obtain ⟨b2, cap2, more2, hq1, hq2, hcap2⟩ := h40
      subst hq1
      subst hq2
      have hzl : ((List.replicate (l.length + 1 - i) ([str [], .int .i64 0] ++ List.replicate 32 (Value.int .u8 0))).flatten).length = (l.length + 1 - i) * 34 := by
        simp only [List.length_flatten, List.map_replicate, List.sum_replicate_nat]
        rfl
      have hobt : ∃ Z, Z = (List.replicate (l.length + 1 - i) ([str [], .int .i64 0] ++ List.replicate 32 (Value.int .u8 0))).flatten := ⟨_, rfl⟩
      obtain ⟨Z, hZ⟩ := hobt
      rw [← hZ] at hs hcap2 hzl
      have hcl2 : l.length + 1 ≤ cap2 := by
        simp only [List.length_append, htl, hzl] at hcap2
        omega
      have hm2 : more2.length = cap2 * 34 - (l.length + 1) * 34 := by
        simp only [List.length_append, htl, hzl] at hcap2
        omega
      have hcut1 : cutSl 34 b2 0 i (l.length + 1) cap2 = .slice (some ⟨b2, 0 + i * 34, none⟩) (l.length + 1 - i) (cap2 - i) := by rw [cutSl, if_neg (by omega)]
      have hcs1 : (rows (l.take i) ++ Z ++ more2).length = i * 34 + (l.length + 1 - i) * 34 + more2.length := by simp only [List.length_append, htl, hzl]
      have hxs2 := hxs hs
      repeat (first | refine CW.seq ?_ | refine CW.block ?_ | refine CW.skip ?_ | refine CW.label ?_ | refine CW.exit ?_ | refine CW.condT rfl ?_ | refine CW.condF rfl ?_)
      refine CW.reg ?_
      refine WL.val rfl (run_move) ?_
      refine WL.val rfl (run_move) ?_
      refine WL.val rfl (run_sliceSlE (lo := i) (hi := l.length + 1) (m := cap2) Try.underlying22 ty48 rfl rfl rfl rfl (by simp) (by omega) (by omega) (by omega) hcut1) ?_
      refine WL.val rfl (run_move) ?_
      refine WL.copy Try.underlying22 ty48 rfl rfl (hs) (hxs2) (x.cells1) (by first | omega | exact Nat.le_of_ble_eq_true rfl | (simp [Ent.cells, u8s]; done)) (fun k hk => by cases hk; rfl) (fun w hs => ⟨fun k hk => ?_, fun h => by cases h⟩)
      cases hk
      refine WL.nil ?_
      have e1 : splice (rows (l.take i) ++ Z ++ more2) (0 + i * 34) (List.take (min 1 (l.length + 1 - i) * 34) x.cells) = rows (l.take i) ++ x.cells ++ (Z.drop 34 ++ more2) := by
        rw [Nat.min_eq_left (by omega), List.take_of_length_le (l := x.cells) (by omega)]
        have h1 : rows (l.take i) ++ Z ++ more2 = rows (l.take i) ++ Z.take 34 ++ (Z.drop 34 ++ more2) := by
          rw [List.append_assoc, List.append_assoc, ← List.append_assoc (Z.take 34), List.take_append_drop]
        rw [h1]
        exact splice_mid (by rw [htl]; omega) (by rw [hxl, List.length_take, hzl]; omega)
      replace hs := Step.blkEq e1 hs
      have hz2 : (Z.drop 34).length = (l.length - i) * 34 := by rw [List.length_drop, hzl]; omega
      have hns : ∀ {w : World}, Step [b] [(b2, blk 48 (rows (l.take i) ++ x.cells ++ (Z.drop 34 ++ more2))), (b, blk 48 (rows l ++ more))] w0 w → Sl w 34 (cutSl 34 b 0 i l.length cap) (l.length - i) (rows (l.drop i)) := fun hs => hsrc hs.swap
      have hcut2 : cutSl 34 b2 0 (i + 1) (l.length + 1) cap2 = .slice (some ⟨b2, if cap2 = i + 1 then 0 else 0 + (i + 1) * 34, none⟩) (l.length - i) (cap2 - (i + 1)) := by rw [cutSl, show l.length + 1 - (i + 1) = l.length - i by omega]
      have hcut3 : cutSl 34 b2 0 (i + 1) (l.length + 1) cap2 = .slice (some ⟨b2, 0 + (i + 1) * 34, none⟩) (l.length - i) (cap2 - (i + 1)) := by rw [hcut2, if_neg (by omega)]
      have hcs2 : (rows (l.take i) ++ x.cells ++ (Z.drop 34 ++ more2)).length = (i + 1) * 34 + (l.length - i) * 34 + more2.length := by
        simp only [List.length_append, htl, hxl, hz2]
        omega
      repeat (first | refine CW.seq ?_ | refine CW.block ?_ | refine CW.skip ?_ | refine CW.label ?_ | refine CW.exit ?_ | refine CW.condT rfl ?_ | refine CW.condF rfl ?_)
      refine CW.any (A := fun w => True) (C := fun w => Step [b] [(b2, blk 48 (rows (l.take i) ++ x.cells ++ (Z.drop 34 ++ more2))), (b, blk 48 (rows l ++ more))] w0 w) 8 9 mixedP rfl ?_
      replace hs := hs.drew
      refine AL.valA 0 rfl (by kernel_rfl) rfl (fun w hs => run_move) ?_
      refine AL.valA 1 rfl (by kernel_rfl) rfl (fun w hs => run_move) ?_
      refine AL.valA 2 rfl (by kernel_rfl) rfl (fun w hs => run_move) ?_
      refine AL.valA 3 rfl (by kernel_rfl) rfl (fun w hs => run_add (c := ((i + 1 : Nat) : Int)) rfl rfl (by omega) (by omega)) ?_
      refine AL.val 4 rfl (by kernel_rfl) rfl (fun w hs => run_sliceSlE (lo := i + 1) (hi := l.length + 1) (m := cap2) Try.underlying22 ty48 rfl rfl rfl rfl (by simp) (by omega) (by omega) (by omega) hcut3) ?_
      refine AL.valA 5 rfl (by kernel_rfl) rfl (fun w hs => run_move) ?_
      refine AL.valA 6 rfl (by kernel_rfl) rfl (fun w hs => run_move) ?_
      refine AL.val 7 rfl (by kernel_rfl) rfl (fun w hs => run_sliceSlE (lo := i) (hi := l.length) (m := cap) Try.underlying22 ty48 rfl rfl rfl rfl (by simp) (by omega) (by omega) (by omega) rfl) ?_
      refine AL.one 8 (by kernel_rfl) rfl (trivial) (hs) ?_
      refine WL.copy Try.underlying22 ty48 rfl rfl (hs) (hns hs) (rows_cells1 _) (by first | omega | exact Nat.le_of_ble_eq_true rfl | (simp [Ent.cells, u8s]; done)) (fun k hk => by cases hk; rfl) (fun w hs => ⟨fun k hk => ?_, fun h => by cases h⟩)
      cases hk
      refine WL.nil ?_
      refine ⟨rfl, ?_⟩
      refine AL.relax (by kernel_rfl) ?_
      refine AL.end (by kernel_rfl) (trivial) (trivial) ?_
      have e2 : splice (rows (l.take i) ++ x.cells ++ (Z.drop 34 ++ more2)) (0 + (i + 1) * 34) (List.take (min (l.length - i) (l.length - i) * 34) (rows (l.drop i))) = rows (ins l i x) ++ more2 := by
        rw [Nat.min_self, List.take_of_length_le (l := rows (l.drop i)) (by omega), ins_rows]
        have h1 := splice_mid (A := rows (l.take i) ++ x.cells) (M := Z.drop 34) (R := more2) (vs := rows (l.drop i)) (off := 0 + (i + 1) * 34) (by simp only [List.length_append, htl, hxl]; omega) (by rw [hz2, hdl])
        rw [← h1]
        simp only [List.append_assoc]
      replace hs := Step.blkEq e2 hs
      repeat (first | refine CW.seq ?_ | refine CW.block ?_ | refine CW.skip ?_ | refine CW.label ?_ | refine CW.exit ?_ | refine CW.condT rfl ?_ | refine CW.condF rfl ?_)
      refine CW.reg ?_
      refine WL.val rfl (run_move) ?_
      refine WL.val rfl (run_assign) ?_
      refine WL.nil ?_
      repeat (first | refine CW.seq ?_ | refine CW.block ?_ | refine CW.skip ?_ | refine CW.label ?_ | refine CW.exit ?_ | refine CW.condT rfl ?_ | refine CW.condF rfl ?_)
      refine CW.ret ?_
      refine fin_ret1 rfl ?_
      have hu : OwnSl 48 34 (.slice (some ⟨b2, 0, none⟩) (l.length + 1) cap2) (l.length + 1) (rows (ins l i x)) [(b2, blk 48 (rows (ins l i x) ++ more2))] := ⟨hil, .inr ⟨b2, cap2, more2, rfl, rfl, by rw [List.length_append, hil]; omega⟩⟩
      exact ⟨.slice (some ⟨b2, 0, none⟩) (l.length + 1) cap2, _, rfl, hu, Step.dropR (L1 := [_]) hs⟩
    · have hm34 : 34 ≤ more.length := by omega
      have hcut1 : cutSl 34 b 0 (i + 1) (l.length + 1) cap = .slice (some ⟨b, 0 + (i + 1) * 34, none⟩) (l.length - i) (cap - (i + 1)) := by rw [cutSl, if_neg (by omega), show l.length + 1 - (i + 1) = l.length - i by omega]
      have hcut2 : cutSl 34 b 0 i (l.length + 1) cap = .slice (some ⟨b, 0 + i * 34, none⟩) (l.length + 1 - i) (cap - i) := by rw [cutSl, if_neg (by omega)]
      have hcs1 : (rows l ++ more).length = cap * 34 := hcap
      have hsrc2 : ∀ {w : World}, Step [b] [(b, blk 48 (rows l ++ more))] w0 w → Sl w 34 (.slice (some ⟨b, 0 + i * 34, none⟩) (l.length + 1 - i) (cap - i)) (l.length + 1 - i) ((rows (l.drop i)) ++ more.take 34) := fun hs => by
        refine .mk (by simp only [List.length_append, List.length_take, hdl]; omega) ?_
        have h1 := ((At.of_blk (T := 48) hs.hd).drop (i * 34)).take ((l.length + 1 - i) * 34)
        have e : ((rows l ++ more).drop (i * 34)).take ((l.length + 1 - i) * 34) = rows (l.drop i) ++ more.take 34 := by
          rw [List.drop_append_of_le_length (by omega), rows_drop ho hi, List.take_append, List.take_of_length_le (l := rows (l.drop i)) (by omega), hdl, show (l.length + 1 - i) * 34 - (l.length - i) * 34 = 34 by omega]
        rw [e] at h1
        exact h1
      have hcc : Cells1 ((rows (l.drop i) ++ more.take 34).take (min (l.length + 1 - i) (l.length - i) * 34)) := by
        rw [Nat.min_eq_right (by omega), List.take_append_of_le_length (by omega)]
        exact (rows_cells1 _).take _
      have hbxw : ∀ {w : World} {L : List (Nat × Obj)}, Step [b] L w0 w → w.heap[bx]? = some (blk 48 x.cells) := fun hs => hs.old hxb hnb
      refine calls (n := 95) Try.func58 rfl rfl rfl ?_
      repeat (first | refine CW.seq ?_ | refine CW.block ?_ | refine CW.skip ?_ | refine CW.label ?_ | refine CW.exit ?_ | refine CW.condT rfl ?_ | refine CW.condF rfl ?_)
      refine CW.reg ?_
      refine WL.val rfl (run_assign) ?_
      refine WL.nil ?_
      repeat (first | refine CW.seq ?_ | refine CW.block ?_ | refine CW.skip ?_ | refine CW.label ?_ | refine CW.exit ?_ | refine CW.condT rfl ?_ | refine CW.condF rfl ?_)
      refine CW.reg ?_
      refine WL.val rfl (run_move) ?_
      refine WL.val rfl (run_move) ?_
      refine WL.val rfl (run_sliceSlE (lo := i) (hi := l.length) (m := cap) Try.underlying22 ty48 rfl rfl rfl rfl (by simp) (by omega) (by omega) (by omega) rfl) ?_
      refine WL.nil ?_
      repeat (first | refine CW.seq ?_ | refine CW.block ?_ | refine CW.skip ?_ | refine CW.label ?_ | refine CW.exit ?_ | refine CW.condT rfl ?_ | refine CW.condF rfl ?_)
      refine CW.reg ?_
      refine WL.val rfl (run_move) ?_
      refine WL.val rfl (run_lenSl Try.underlying22 rfl) ?_
      refine WL.val rfl (run_assign) ?_
      refine WL.nil ?_
      repeat (first | refine CW.seq ?_ | refine CW.block ?_ | refine CW.skip ?_ | refine CW.label ?_ | refine CW.exit ?_ | refine CW.condT rfl ?_ | refine CW.condF rfl ?_)
      refine CW.reg ?_
      refine WL.val rfl (run_move) ?_
      refine WL.val rfl (run_bF (run_eql rfl rfl) (by decide)) ?_
      refine WL.nil ?_
      repeat (first | refine CW.seq ?_ | refine CW.block ?_ | refine CW.skip ?_ | refine CW.label ?_ | refine CW.exit ?_ | refine CW.condT rfl ?_ | refine CW.condF rfl ?_)
      refine CW.reg ?_
      refine WL.val rfl (run_move) ?_
      refine WL.val rfl (run_lenSl Try.underlying22 rfl) ?_
      refine WL.val rfl (run_assign) ?_
      refine WL.nil ?_
      repeat (first | refine CW.seq ?_ | refine CW.block ?_ | refine CW.skip ?_ | refine CW.label ?_ | refine CW.exit ?_ | refine CW.condT rfl ?_ | refine CW.condF rfl ?_)
      refine CW.reg ?_
      refine WL.val rfl (run_move) ?_
      refine WL.val rfl (run_move) ?_
      refine WL.val rfl (run_bF (run_eql rfl rfl) (by omega)) ?_
      refine WL.nil ?_
      repeat (first | refine CW.seq ?_ | refine CW.block ?_ | refine CW.skip ?_ | refine CW.label ?_ | refine CW.exit ?_ | refine CW.condT rfl ?_ | refine CW.condF rfl ?_)
      refine CW.reg ?_
      refine WL.val rfl (run_move) ?_
      refine WL.val rfl (run_move) ?_
      refine WL.val rfl (run_add (c := ((l.length + 1 : Nat) : Int)) rfl rfl (by omega) (by omega)) ?_
      refine WL.val rfl (run_move) ?_
      refine WL.val rfl (run_capSl Try.underlying22 rfl) ?_
      refine WL.val rfl (run_bF (run_gtr rfl rfl) (by omega)) ?_
      refine WL.nil ?_
      repeat (first | refine CW.seq ?_ | refine CW.block ?_ | refine CW.skip ?_ | refine CW.label ?_ | refine CW.exit ?_ | refine CW.condT rfl ?_ | refine CW.condF rfl ?_)
      refine CW.reg ?_
      refine WL.val rfl (run_move) ?_
      refine WL.val rfl (run_move) ?_
      refine WL.val rfl (run_move) ?_
      refine WL.val rfl (run_add (c := ((l.length + 1 : Nat) : Int)) rfl rfl (by omega) (by omega)) ?_
      refine WL.val rfl (run_sliceSl0 (hi := l.length + 1) Try.underlying22 ty48 rfl rfl rfl (by simp) (by omega) (by omega)) ?_
      refine WL.val rfl (run_assign) ?_
      refine WL.nil ?_
      repeat (first | refine CW.seq ?_ | refine CW.block ?_ | refine CW.skip ?_ | refine CW.label ?_ | refine CW.exit ?_ | refine CW.condT rfl ?_ | refine CW.condF rfl ?_)
      refine CW.reg ?_
      refine WL.val rfl (run_move) ?_
      refine WL.val rfl (run_move) ?_
      refine WL.val rfl (run_move) ?_
      refine WL.val rfl (run_move) ?_
      refine WL.val rfl (run_add (c := ((i + 1 : Nat) : Int)) rfl rfl (by omega) (by omega)) ?_
      refine WL.val rfl (run_sliceSlE (lo := i + 1) (hi := l.length + 1) (m := cap) Try.underlying22 ty48 rfl rfl rfl rfl (by simp) (by omega) (by omega) (by omega) hcut1) ?_
      refine WL.val rfl (run_callExt Try.func78 (by kernel_rfl) (by kernel_rfl) (by kernel_rfl) (e := Extern.SlicesOverlaps.overlaps #[22, 22] #[4]) (by kernel_rfl) rfl rfl (run_overlaps Try.underlying22 ty48 hne (hbxw hs) hs.hd (by omega))) ?_
      first | refine WL.val rfl (run_notB rfl) ?_ | refine WL.val rfl (run_not rfl) ?_
      refine WL.nil ?_
      repeat (first | refine CW.seq ?_ | refine CW.block ?_ | refine CW.skip ?_ | refine CW.label ?_ | refine CW.exit ?_ | refine CW.condT rfl ?_ | refine CW.condF rfl ?_)
      refine CW.any (A := fun w => True) (C := fun w => Step [b] [(b, blk 48 (rows l ++ more))] w0 w) 8 9 mixedP rfl ?_
      replace hs := hs.drew
      refine AL.valA 0 rfl (by kernel_rfl) rfl (fun w hs => run_move) ?_
      refine AL.valA 1 rfl (by kernel_rfl) rfl (fun w hs => run_move) ?_
      refine AL.valA 2 rfl (by kernel_rfl) rfl (fun w hs => run_move) ?_
      refine AL.valA 3 rfl (by kernel_rfl) rfl (fun w hs => run_add (c := ((i + 1 : Nat) : Int)) rfl rfl (by omega) (by omega)) ?_
      refine AL.val 4 rfl (by kernel_rfl) rfl (fun w hs => run_sliceSlE (lo := i + 1) (hi := l.length + 1) (m := cap) Try.underlying22 ty48 rfl rfl rfl rfl (by simp) (by omega) (by omega) (by omega) hcut1) ?_
      refine AL.valA 5 rfl (by kernel_rfl) rfl (fun w hs => run_move) ?_
      refine AL.valA 6 rfl (by kernel_rfl) rfl (fun w hs => run_move) ?_
      refine AL.val 7 rfl (by kernel_rfl) rfl (fun w hs => run_sliceSlE (lo := i) (hi := l.length + 1) (m := cap) Try.underlying22 ty48 rfl rfl rfl rfl (by simp) (by omega) (by omega) (by omega) hcut2) ?_
      refine AL.one 8 (by kernel_rfl) rfl (trivial) (hs) ?_
      refine WL.copyT Try.underlying22 ty48 rfl rfl (hs) (hsrc2 hs) (hcc) (by first | omega | exact Nat.le_of_ble_eq_true rfl | (simp [Ent.cells, u8s]; done)) (fun k hk => by cases hk; rfl) (fun w hs => ⟨fun k hk => ?_, fun h => by cases h⟩)
      cases hk
      refine WL.nil ?_
      refine ⟨rfl, ?_⟩
      refine AL.relax (by kernel_rfl) ?_
      refine AL.end (by kernel_rfl) (trivial) (trivial) ?_
      have e1 : splice (rows l ++ more) (0 + (i + 1) * 34) (List.take (min (l.length + 1 - i) (l.length - i) * 34) (rows (l.drop i) ++ more.take 34)) = rows (l.take i) ++ ((rows (l.drop i) ++ more).take 34) ++ (rows (l.drop i) ++ more.drop 34) := by
        rw [Nat.min_eq_right (by omega), List.take_append_of_le_length (by omega), List.take_of_length_le (l := rows (l.drop i)) (by omega)]
        have h0 : rows l ++ more = (rows (l.take i) ++ (rows (l.drop i) ++ more).take 34) ++ ((rows (l.drop i) ++ more).drop 34).take ((l.length - i) * 34) ++ more.drop 34 := by
          have h1 : ((rows (l.drop i) ++ more).drop 34).drop ((l.length - i) * 34) = more.drop 34 := by
            rw [List.drop_drop, List.drop_append, List.drop_of_length_le (by omega), List.nil_append, hdl]
            congr 1
            omega
          rw [← h1, List.append_assoc, List.append_assoc, List.take_append_drop, List.take_append_drop, ← List.append_assoc, ← rows_cut]
        rw [h0]
        have h2 := splice_mid (A := rows (l.take i) ++ (rows (l.drop i) ++ more).take 34) (M := ((rows (l.drop i) ++ more).drop 34).take ((l.length - i) * 34)) (R := more.drop 34) (vs := rows (l.drop i)) (off := 0 + (i + 1) * 34) (by simp only [List.length_append, List.length_take, htl, hdl]; omega) (by simp only [List.length_take, List.length_drop, List.length_append, hdl]; omega)
        rw [h2]
        simp only [List.append_assoc]
      replace hs := Step.blkEq e1 hs
      have hcs2 : (rows (l.take i) ++ ((rows (l.drop i) ++ more).take 34) ++ (rows (l.drop i) ++ more.drop 34)).length = cap * 34 := by
        simp only [List.length_append, List.length_take, List.length_drop, htl, hdl]
        omega
      have hxs3 := hxs hs
      repeat (first | refine CW.seq ?_ | refine CW.block ?_ | refine CW.skip ?_ | refine CW.label ?_ | refine CW.exit ?_ | refine CW.condT rfl ?_ | refine CW.condF rfl ?_)
      refine CW.reg ?_
      refine WL.val rfl (run_move) ?_
      refine WL.val rfl (run_move) ?_
      refine WL.val rfl (run_sliceSlE (lo := i) (hi := l.length + 1) (m := cap) Try.underlying22 ty48 rfl rfl rfl rfl (by simp) (by omega) (by omega) (by omega) hcut2) ?_
      refine WL.val rfl (run_move) ?_
      refine WL.copy Try.underlying22 ty48 rfl rfl (hs) (hxs3) (x.cells1) (by first | omega | exact Nat.le_of_ble_eq_true rfl | (simp [Ent.cells, u8s]; done)) (fun k hk => by cases hk; rfl) (fun w hs => ⟨fun k hk => ?_, fun h => by cases h⟩)
      cases hk
      refine WL.nil ?_
      have e2 : splice (rows (l.take i) ++ ((rows (l.drop i) ++ more).take 34) ++ (rows (l.drop i) ++ more.drop 34)) (0 + i * 34) (List.take (min 1 (l.length + 1 - i) * 34) x.cells) = rows (ins l i x) ++ more.drop 34 := by
        rw [Nat.min_eq_left (by omega), List.take_of_length_le (l := x.cells) (by omega), ins_rows]
        have h2 := splice_mid (A := rows (l.take i)) (M := (rows (l.drop i) ++ more).take 34) (R := rows (l.drop i) ++ more.drop 34) (vs := x.cells) (off := 0 + i * 34) (by omega) (by simp only [List.length_take, List.length_append, hdl]; omega)
        rw [h2]
        simp only [List.append_assoc]
      replace hs := Step.blkEq e2 hs
      repeat (first | refine CW.seq ?_ | refine CW.block ?_ | refine CW.skip ?_ | refine CW.label ?_ | refine CW.exit ?_ | refine CW.condT rfl ?_ | refine CW.condF rfl ?_)
      refine CW.reg ?_
      refine WL.val rfl (run_move) ?_
      refine WL.val rfl (run_assign) ?_
      refine WL.nil ?_
      repeat (first | refine CW.seq ?_ | refine CW.block ?_ | refine CW.skip ?_ | refine CW.label ?_ | refine CW.exit ?_ | refine CW.condT rfl ?_ | refine CW.condF rfl ?_)
      refine CW.ret ?_
      refine fin_ret1 rfl ?_
      have hu : OwnSl 48 34 (.slice (some ⟨b, 0, none⟩) (l.length + 1) cap) (l.length + 1) (rows (ins l i x)) [(b, blk 48 (rows (ins l i x) ++ more.drop 34))] := ⟨hil, .inr ⟨b, cap, more.drop 34, rfl, rfl, by rw [List.length_append, hil, List.length_drop]; omega⟩⟩
      exact ⟨.slice (some ⟨b, 0, none⟩) (l.length + 1) cap, _, rfl, hu, hs⟩
end Go.Gx
/-! Sl4 -/
namespace Go.Gx
open Go.Proofs
set_option linter.unusedVariables false
set_option linter.unusedSimpArgs false
set_option maxRecDepth 100000

theorem insertO_spec {u : Value} {Lu : List (Nat × Obj)} {bx i : Nat} {l : List Ent} {x : Ent} (w0 : World) (hi : i ≤ l.length) (ho : Oks l) (hx : x.ok) (hbb : l.length ≤ 1000000) (hv : OwnSl 48 34 u l.length (rows l) Lu) (hO : Step (Lu.map (·.1)) Lu w0 w0)
    (hxb : w0.heap[bx]? = some (blk 48 x.cells)) (hne : bx ∉ Lu.map (·.1)) :
    Calls Try.prog 58 #[u, .int .i64 i, .slice (some ⟨bx, 0, none⟩) 1 1] w0 fun e w' => ∃ u Lu', e = .returned u ∧ OwnSl 48 34 u (ins l i x).length (rows (ins l i x)) Lu' ∧ Step (Lu.map (·.1)) Lu' w0 w' := by
  have hil : (ins l i x).length = l.length + 1 := by simp [ins]; omega
  rw [hil]
  obtain ⟨hl, ⟨rfl, h0, rfl⟩ | ⟨b, cap, more, rfl, rfl, hcap⟩⟩ := hv
  · obtain rfl : l = [] := List.eq_nil_of_length_eq_zero h0
    obtain rfl : i = 0 := by simpa using hi
    have hs : Step [] [] w0 w0 := hO
    have hxs : ∀ {w : World} {L : List (Nat × Obj)}, Step [] L w0 w → Sl w 34 (.slice (some ⟨bx, 0, none⟩) 1 1) 1 x.cells := fun hs => .mk (by rw [Ent.cells_len hx]) ((At.of_blk hxb).step hs (by simp))
    refine calls (n := 95) Try.func58 rfl rfl rfl ?_
    repeat (first | refine CW.seq ?_ | refine CW.block ?_ | refine CW.skip ?_ | refine CW.label ?_ | refine CW.exit ?_ | refine CW.condT rfl ?_ | refine CW.condF rfl ?_)
    refine CW.reg ?_
    refine WL.val rfl (run_assign) ?_
    refine WL.nil ?_
    repeat (first | refine CW.seq ?_ | refine CW.block ?_ | refine CW.skip ?_ | refine CW.label ?_ | refine CW.exit ?_ | refine CW.condT rfl ?_ | refine CW.condF rfl ?_)
    refine CW.reg ?_
    refine WL.val rfl (run_move) ?_
    refine WL.val rfl (run_move) ?_
    refine WL.val rfl (run_sliceNil Try.underlying22 ty48 rfl rfl rfl) ?_
    refine WL.nil ?_
    repeat (first | refine CW.seq ?_ | refine CW.block ?_ | refine CW.skip ?_ | refine CW.label ?_ | refine CW.exit ?_ | refine CW.condT rfl ?_ | refine CW.condF rfl ?_)
    refine CW.reg ?_
    refine WL.val rfl (run_move) ?_
    refine WL.val rfl (run_lenSl Try.underlying22 rfl) ?_
    refine WL.val rfl (run_assign) ?_
    refine WL.nil ?_
    repeat (first | refine CW.seq ?_ | refine CW.block ?_ | refine CW.skip ?_ | refine CW.label ?_ | refine CW.exit ?_ | refine CW.condT rfl ?_ | refine CW.condF rfl ?_)
    refine CW.reg ?_
    refine WL.val rfl (run_move) ?_
    refine WL.val rfl (run_bF (run_eql rfl rfl) (by decide)) ?_
    refine WL.nil ?_
    repeat (first | refine CW.seq ?_ | refine CW.block ?_ | refine CW.skip ?_ | refine CW.label ?_ | refine CW.exit ?_ | refine CW.condT rfl ?_ | refine CW.condF rfl ?_)
    refine CW.reg ?_
    refine WL.val rfl (run_move) ?_
    refine WL.val rfl (run_lenSl Try.underlying22 rfl) ?_
    refine WL.val rfl (run_assign) ?_
    refine WL.nil ?_
    repeat (first | refine CW.seq ?_ | refine CW.block ?_ | refine CW.skip ?_ | refine CW.label ?_ | refine CW.exit ?_ | refine CW.condT rfl ?_ | refine CW.condF rfl ?_)
    refine CW.reg ?_
    refine WL.val rfl (run_move) ?_
    refine WL.val rfl (run_move) ?_
    refine WL.val rfl (run_bT (run_eql rfl rfl) (by rfl)) ?_
    refine WL.nil ?_
    repeat (first | refine CW.seq ?_ | refine CW.block ?_ | refine CW.skip ?_ | refine CW.label ?_ | refine CW.exit ?_ | refine CW.condT rfl ?_ | refine CW.condF rfl ?_)
    refine CW.reg ?_
    refine WL.val rfl (run_move) ?_
    refine WL.val rfl (run_move) ?_
    refine WL.append Try.underlying22 Try.underlying22 ty48 rfl (by decide) rfl rfl (.nil _ _) (hs) (hxs hs) (x.cells1) (by first | omega | (simp only [List.length_append, List.length_cons, List.length_nil]; omega)) rfl (fun v25 Lv25 w hv25 hs => ?_)
    refine WL.val rfl (run_assign) ?_
    refine WL.nil ?_
    repeat (first | refine CW.seq ?_ | refine CW.block ?_ | refine CW.skip ?_ | refine CW.label ?_ | refine CW.exit ?_ | refine CW.condT rfl ?_ | refine CW.condF rfl ?_)
    refine CW.ret ?_
    refine fin_ret1 rfl ?_
    have e : rows (ins [] 0 x) = [] ++ x.cells := by simp [ins, rows]
    rw [← e] at hv25
    exact ⟨_, _, rfl, hv25, Step.dropR (L2 := []) hs⟩
  · exact insertE_spec w0 hi ho hx hbb hO hcap hxb (by simpa using hne)

theorem At?_lt {l : List Ent} {n : List UInt8} {i : Nat} (h : At? l n i = true) : i < l.length := by
  unfold At? at h
  cases hx : l[i]? with
  | none => rw [hx] at h; cases h
  | some x => exact (List.getElem?_eq_some_iff.1 hx).1
theorem At?_eq {l : List Ent} {n : List UInt8} {i : Nat} (hi : i < l.length) : At? l n i = decide ((l[i]).name = n) := by
  unfold At?
  rw [List.getElem?_eq_getElem hi]

def withP (l : List Ent) (x : Ent) (i : Nat) : List Ent := if At? l x.name i = true then l.set i x else ins l i x
def lessP (l : List Ent) (n : List UInt8) (i : Nat) : List Ent := if At? l n i = true then del l i else l
def findP (l : List Ent) (n : List UInt8) (i : Nat) : Ent := if At? l n i = true then l.getD i zE else zE

theorem OwnSl.es0 {E : TypeId} {v : Value} {l : List Ent} {Lv : List (Nat × Obj)} {S : List Nat} {w0 w : World} (h : OwnSl E 34 v l.length (rows l) Lv) (ho : Oks l) (hl : l.length ≤ 9223372036854775807) (hs : Step S Lv w0 w) : Es w v l :=
  ⟨h.sl (L := []) (by rw [List.append_nil]; exact hs), ho, hl⟩
theorem rows_set {l : List Ent} {x : Ent} {i : Nat} (hi : i < l.length) (ho : Oks l) (hx : x.ok) (more : List Value) : splice (rows l ++ more) (0 + i * 34) x.cells = rows (l.set i x) ++ more := by
  have e1 : rows l ++ more = rows (l.take i) ++ (l[i]).cells ++ (rows (l.drop (i + 1)) ++ more) := by
    rw [rows_split ho hi]
    simp only [List.append_assoc]
  have e2 : rows (l.set i x) = rows (l.take i) ++ x.cells ++ rows (l.drop (i + 1)) := by
    rw [List.set_eq_take_append_cons_drop, if_pos hi, rows_append, List.append_assoc]
    rfl
  rw [e1, splice_mid (by rw [rows_take_len ho (Nat.le_of_lt hi)]; omega) (by rw [Ent.cells_len hx, Ent.cells_len (ho.get hi)]), e2]
  simp only [List.append_assoc]

theorem withE_spec {v : Value} {l : List Ent} {x : Ent} (w0 : World) (hl : Es w0 v l) (hbb : l.length ≤ 1000000) (hx : x.ok) :
    Calls Try.prog 28 #[v, .agg x.cells.toArray] w0 fun e w' => ∃ i u Lu, e = .returned u ∧ i ≤ l.length ∧ (Rising l → PartAt l x.name i) ∧ OwnSl 48 34 u (withP l x i).length (rows (withP l x i)) Lu ∧ Step [] Lu w0 w' := by
  have hs : Step [] [] w0 w0 := Step.refl w0
  have hxl := Ent.cells_len hx
  refine calls (n := 28) Try.func28 rfl rfl rfl ?_
  repeat (first | refine CW.seq ?_ | refine CW.block ?_ | refine CW.skip ?_ | refine CW.label ?_ | refine CW.exit ?_ | refine CW.condT rfl ?_ | refine CW.condF rfl ?_)
  refine CW.reg ?_
  refine WL.box (cs := x.cells) rfl rfl rfl hs (fun b3 w hs => ?_)
  refine WL.val rfl (run_assign) ?_
  refine WL.nil ?_
  repeat (first | refine CW.seq ?_ | refine CW.block ?_ | refine CW.skip ?_ | refine CW.label ?_ | refine CW.exit ?_ | refine CW.condT rfl ?_ | refine CW.condF rfl ?_)
  refine CW.reg ?_
  refine WL.val rfl (run_move) ?_
  refine WL.val rfl (run_field (o' := 0) Try.underlying48 rfl ty9 rfl rfl rfl) ?_
  first | refine WL.val rfl (run_load1 ty9 rfl (hs.c0 rfl)) ?_ | refine WL.val rfl (run_load1 ty9 rfl (hs.c1 rfl)) ?_ | refine WL.val rfl (run_load1 ty9 rfl (hs.c2 rfl)) ?_ | refine WL.val rfl (run_load1 ty9 rfl (hs.c3 rfl)) ?_ | refine WL.val rfl (run_load1 ty9 rfl (hs.c4 rfl)) ?_ | refine WL.val rfl (run_load1 ty9 rfl (hs.c5 rfl)) ?_ | refine WL.val rfl (run_load1 ty9 rfl (hs.c0 rfl)) ?_
  refine WL.enter rfl (run_call en55 rfl rfl) (place_spec (l := l) (n := x.name) _ (hl.step0 hs.clear) hbb) ?_
  rintro e w ⟨i, rfl, hi, hp, hq⟩
  refine ⟨_, rfl, ?_⟩
  refine WL.val rfl (run_move) ?_
  refine WL.val rfl (run_extract rfl rfl) ?_
  refine WL.val rfl (run_extract rfl rfl) ?_
  refine WL.val rfl (run_assign) ?_
  refine WL.val rfl (run_assign) ?_
  refine WL.nil ?_
  replace hs := hs.callE hq
  repeat (first | refine CW.seq ?_ | refine CW.block ?_ | refine CW.skip ?_ | refine CW.label ?_ | refine CW.exit ?_ | refine CW.condT rfl ?_ | refine CW.condF rfl ?_)
  refine CW.reg ?_
  refine WL.val rfl (run_move) ?_
  refine WL.enter rfl (run_call en56 rfl rfl) (cloneE_spec (l := l) _ (hl.step0 hs.clear) hbb) ?_
  rintro e w ⟨u, Lu, rfl, hu, hq2⟩
  refine ⟨_, rfl, ?_⟩
  refine WL.val rfl (run_assign) ?_
  refine WL.nil ?_
  replace hs : Step [] (Lu ++ [(b3, blk 48 x.cells)]) w0 w := hs.call0 hq2
  cases hat : At? l x.name i with
  | true =>
    have hlt := At?_lt hat
    have hsm := hu.some1 (by omega)
    obtain ⟨b, cap, more, hq1, hqL, hcap⟩ := hsm
    subst hq1
    subst hqL
    have hcl : (rows l ++ more).length = cap * 34 := hcap
    have hrl := rows_len hl.2.1
    have hcl2 : l.length ≤ cap := by
      rw [List.length_append, hrl] at hcap
      omega
    have hc34 : 0 + i * 34 + 34 ≤ (rows l ++ more).length := by rw [hcl]; omega
    replace hs : Step [] [(b, blk 48 (rows l ++ more)), (b3, blk 48 x.cells)] w0 w := hs
    repeat (first | refine CW.seq ?_ | refine CW.block ?_ | refine CW.skip ?_ | refine CW.label ?_ | refine CW.exit ?_ | refine CW.condT rfl ?_ | refine CW.condF rfl ?_)
    refine CW.reg ?_
    refine WL.val rfl (run_move) ?_
    refine WL.nil ?_
    repeat (first | refine CW.seq ?_ | refine CW.block ?_ | refine CW.skip ?_ | refine CW.label ?_ | refine CW.exit ?_ | refine CW.condT rfl ?_ | refine CW.condF rfl ?_)
    refine CW.reg ?_
    refine WL.val rfl (run_move) ?_
    refine WL.val rfl (run_move) ?_
    refine WL.val rfl (run_loadN ty48 rfl hxl hs.a1) ?_
    first | refine WL.val rfl (run_ixSlN Try.underlying22 ty48 rfl rfl (by omega)) ?_ | refine WL.val rfl (run_ixSl Try.underlying22 ty48 rfl rfl (by omega)) ?_
    refine WL.storeN ty48 rfl rfl (hxl) (x.cells1) (hs) (by first | (simp; done) | omega | (simp only [List.length_append, List.length_replicate, List.length_cons, List.length_nil, List.length_set]; omega) | (simp [Ent.cells, u8s]; done) | exact Nat.le_of_ble_eq_true rfl) (fun w hs => ?_)
    refine WL.nil ?_
    replace hs := Step.blkEq (rows_set hlt hl.2.1 hx more) hs
    repeat (first | refine CW.seq ?_ | refine CW.block ?_ | refine CW.skip ?_ | refine CW.label ?_ | refine CW.exit ?_ | refine CW.condT rfl ?_ | refine CW.condF rfl ?_)
    refine CW.reg ?_
    refine WL.val rfl (run_move) ?_
    refine WL.val rfl (run_assign) ?_
    refine WL.nil ?_
    repeat (first | refine CW.seq ?_ | refine CW.block ?_ | refine CW.skip ?_ | refine CW.label ?_ | refine CW.exit ?_ | refine CW.condT rfl ?_ | refine CW.condF rfl ?_)
    refine CW.ret ?_
    refine fin_ret1 rfl ?_
    have hw : withP l x i = l.set i x := by unfold withP; rw [if_pos hat]
    have hres : OwnSl 48 34 (.slice (some ⟨b, 0, none⟩) l.length cap) (withP l x i).length (rows (withP l x i)) [(b, blk 48 (rows (withP l x i) ++ more))] := by
      rw [hw]
      have hok : Oks (l.set i x) := fun y hy => by
        rcases List.mem_or_eq_of_mem_set hy with h | rfl
        · exact hl.2.1 y h
        · exact hx
      have hr := rows_len hok
      rw [List.length_set] at hr
      refine ⟨by rw [hr, List.length_set], .inr ⟨b, cap, more, by rw [List.length_set], rfl, ?_⟩⟩
      rw [List.length_append, hr]
      rw [List.length_append, hrl] at hcap
      exact hcap
    rw [← hw] at hs
    exact ⟨i, .slice (some ⟨b, 0, none⟩) l.length cap, _, rfl, hi, hp, hres, Step.dropR (L1 := [_]) hs⟩
  | false =>
    have hs3 := Step.append_comm hs
    repeat (first | refine CW.seq ?_ | refine CW.block ?_ | refine CW.skip ?_ | refine CW.label ?_ | refine CW.exit ?_ | refine CW.condT rfl ?_ | refine CW.condF rfl ?_)
    refine CW.reg ?_
    refine WL.val rfl (run_move) ?_
    refine WL.nil ?_
    have hs := hs3
    repeat (first | refine CW.seq ?_ | refine CW.block ?_ | refine CW.skip ?_ | refine CW.label ?_ | refine CW.exit ?_ | refine CW.condT rfl ?_ | refine CW.condF rfl ?_)
    refine CW.reg ?_
    refine WL.val rfl (run_move) ?_
    refine WL.val rfl (run_move) ?_
    refine WL.val rfl (run_loadN ty48 rfl hxl hs.a0) ?_
    refine WL.buildSlice (cs := x.cells) Try.underlying22 ty48 rfl (by decide) rfl (filled1 hxl rfl) rfl hs (fun b26 w hs => ?_)
    have hsl := Step.append_comm (L1 := [_, _]) hs
    refine WL.enter rfl (run_call en58 rfl rfl) (insertO_spec (l := l) (x := x) (i := i) _ hi hl.2.1 hx hbb hu (Step.own hsl) hs.hd (fun hm => Step.disj (L1 := [_, _]) hs _ (List.mem_cons_self ..) hm)) ?_
    rintro e w ⟨u2, Lu2, rfl, hu2, hq3⟩
    refine ⟨_, rfl, ?_⟩
    refine WL.val rfl (run_assign) ?_
    refine WL.nil ?_
    repeat (first | refine CW.seq ?_ | refine CW.block ?_ | refine CW.skip ?_ | refine CW.label ?_ | refine CW.exit ?_ | refine CW.condT rfl ?_ | refine CW.condF rfl ?_)
    refine CW.ret ?_
    refine fin_ret1 rfl ?_
    have hw : withP l x i = ins l i x := by unfold withP; rw [if_neg (by rw [hat]; simp)]
    rw [← hw] at hu2
    exact ⟨i, u2, Lu2, rfl, hi, hp, hu2, Step.dropR (Step.call (L1 := Lu) hsl hq3)⟩

theorem lessE_spec {v : Value} {l : List Ent} {n : List UInt8} (w0 : World) (hl : Es w0 v l) (hbb : l.length ≤ 1000000) :
    Calls Try.prog 24 #[v, str n] w0 fun e w' => ∃ i u Lu, e = .returned u ∧ i ≤ l.length ∧ (Rising l → PartAt l n i) ∧ OwnSl 48 34 u (lessP l n i).length (rows (lessP l n i)) Lu ∧ Step [] Lu w0 w' := by
  have hs : Step [] [] w0 w0 := Step.refl w0
  refine calls (n := 23) Try.func24 rfl rfl rfl ?_
  repeat (first | refine CW.seq ?_ | refine CW.block ?_ | refine CW.skip ?_ | refine CW.label ?_ | refine CW.exit ?_ | refine CW.condT rfl ?_ | refine CW.condF rfl ?_)
  refine CW.reg ?_
  refine WL.val rfl (run_assign) ?_
  refine WL.nil ?_
  repeat (first | refine CW.seq ?_ | refine CW.block ?_ | refine CW.skip ?_ | refine CW.label ?_ | refine CW.exit ?_ | refine CW.condT rfl ?_ | refine CW.condF rfl ?_)
  refine CW.reg ?_
  refine WL.val rfl (run_move) ?_
  refine WL.val rfl (run_move) ?_
  refine WL.enter rfl (run_call en55 rfl rfl) (place_spec (l := l) (n := n) _ (hl.step0 hs.clear) hbb) ?_
  rintro e w ⟨i, rfl, hi, hp, hq⟩
  refine ⟨_, rfl, ?_⟩
  refine WL.val rfl (run_move) ?_
  refine WL.val rfl (run_extract rfl rfl) ?_
  refine WL.val rfl (run_extract rfl rfl) ?_
  refine WL.val rfl (run_assign) ?_
  refine WL.val rfl (run_assign) ?_
  refine WL.nil ?_
  replace hs := hs.callE hq
  repeat (first | refine CW.seq ?_ | refine CW.block ?_ | refine CW.skip ?_ | refine CW.label ?_ | refine CW.exit ?_ | refine CW.condT rfl ?_ | refine CW.condF rfl ?_)
  refine CW.reg ?_
  refine WL.val rfl (run_move) ?_
  refine WL.enter rfl (run_call en56 rfl rfl) (cloneE_spec (l := l) _ (hl.step0 hs.clear) hbb) ?_
  rintro e w ⟨u, Lu, rfl, hu, hq2⟩
  refine ⟨_, rfl, ?_⟩
  refine WL.val rfl (run_assign) ?_
  refine WL.nil ?_
  replace hs : Step [] (Lu ++ []) w0 w := hs.call0 hq2
  cases hat : At? l n i with
  | true =>
    have hlt := At?_lt hat
    have hsm := hu.some1 (by omega)
    obtain ⟨b, cap, more, hq1, hqL, hcap⟩ := hsm
    subst hq1
    subst hqL
    have hown := Step.own hs
    have hw : lessP l n i = del l i := by unfold lessP; rw [if_pos hat]
    repeat (first | refine CW.seq ?_ | refine CW.block ?_ | refine CW.skip ?_ | refine CW.label ?_ | refine CW.exit ?_ | refine CW.condT rfl ?_ | refine CW.condF rfl ?_)
    refine CW.reg ?_
    refine WL.val rfl (run_move) ?_
    refine WL.nil ?_
    repeat (first | refine CW.seq ?_ | refine CW.block ?_ | refine CW.skip ?_ | refine CW.label ?_ | refine CW.exit ?_ | refine CW.condT rfl ?_ | refine CW.condF rfl ?_)
    refine CW.reg ?_
    refine WL.val rfl (run_move) ?_
    refine WL.val rfl (run_move) ?_
    refine WL.val rfl (run_move) ?_
    refine WL.val rfl (run_add (c := ((i + 1 : Nat) : Int)) rfl rfl (by omega) (by omega)) ?_
    refine WL.enter rfl (run_call en57 rfl rfl) (deleteE_spec (l := l) (more := more) _ hlt hl.2.1 hbb hown hcap) ?_
    rintro e w ⟨u2, Lu2, rfl, hu2, hq3⟩
    refine ⟨_, rfl, ?_⟩
    refine WL.val rfl (run_assign) ?_
    refine WL.nil ?_
    repeat (first | refine CW.seq ?_ | refine CW.block ?_ | refine CW.skip ?_ | refine CW.label ?_ | refine CW.exit ?_ | refine CW.condT rfl ?_ | refine CW.condF rfl ?_)
    refine CW.reg ?_
    refine WL.val rfl (run_move) ?_
    refine WL.val rfl (run_assign) ?_
    refine WL.nil ?_
    repeat (first | refine CW.seq ?_ | refine CW.block ?_ | refine CW.skip ?_ | refine CW.label ?_ | refine CW.exit ?_ | refine CW.condT rfl ?_ | refine CW.condF rfl ?_)
    refine CW.ret ?_
    refine fin_ret1 rfl ?_
    rw [← hw] at hu2
    exact ⟨i, u2, Lu2, rfl, hi, hp, hu2, Step.dropR (Step.call (L1 := [_]) hs hq3)⟩
  | false =>
    have hw : lessP l n i = l := by unfold lessP; rw [if_neg (by rw [hat]; simp)]
    repeat (first | refine CW.seq ?_ | refine CW.block ?_ | refine CW.skip ?_ | refine CW.label ?_ | refine CW.exit ?_ | refine CW.condT rfl ?_ | refine CW.condF rfl ?_)
    refine CW.reg ?_
    refine WL.val rfl (run_move) ?_
    refine WL.nil ?_
    repeat (first | refine CW.seq ?_ | refine CW.block ?_ | refine CW.skip ?_ | refine CW.label ?_ | refine CW.exit ?_ | refine CW.condT rfl ?_ | refine CW.condF rfl ?_)
    refine CW.reg ?_
    refine WL.val rfl (run_move) ?_
    refine WL.val rfl (run_assign) ?_
    refine WL.nil ?_
    repeat (first | refine CW.seq ?_ | refine CW.block ?_ | refine CW.skip ?_ | refine CW.label ?_ | refine CW.exit ?_ | refine CW.condT rfl ?_ | refine CW.condF rfl ?_)
    refine CW.ret ?_
    refine fin_ret1 rfl ?_
    rw [← hw] at hu
    exact ⟨i, u, Lu, rfl, hi, hp, hu, Step.dropR hs⟩

theorem findE_spec {v : Value} {l : List Ent} {n : List UInt8} (w0 : World) (hl : Es w0 v l) (hbb : l.length ≤ 1000000) :
    Calls Try.prog 26 #[v, str n] w0 fun e w' => ∃ i, e = .returned (.tuple #[.agg (findP l n i).cells.toArray, .bool (At? l n i)]) ∧ i ≤ l.length ∧ (Rising l → PartAt l n i) ∧ Step [] [] w0 w' := by
  have hs : Step [] [] w0 w0 := Step.refl w0
  refine calls (n := 21) Try.func26 rfl rfl rfl ?_
  repeat (first | refine CW.seq ?_ | refine CW.block ?_ | refine CW.skip ?_ | refine CW.label ?_ | refine CW.exit ?_ | refine CW.condT rfl ?_ | refine CW.condF rfl ?_)
  refine CW.reg ?_
  refine WL.alloc ty48 rfl hs (fun b4 w hs => ?_)
  refine WL.val rfl (run_assign) ?_
  refine WL.nil ?_
  have hz : Step [] [(b4, blk 48 zE.cells)] w0 w := hs
  replace hs := hz
  repeat (first | refine CW.seq ?_ | refine CW.block ?_ | refine CW.skip ?_ | refine CW.label ?_ | refine CW.exit ?_ | refine CW.condT rfl ?_ | refine CW.condF rfl ?_)
  refine CW.reg ?_
  refine WL.val rfl (run_move) ?_
  refine WL.val rfl (run_move) ?_
  refine WL.enter rfl (run_call en55 rfl rfl) (place_spec (l := l) (n := n) _ (hl.step0 hs.clear) hbb) ?_
  rintro e w ⟨i, rfl, hi, hp, hq⟩
  refine ⟨_, rfl, ?_⟩
  refine WL.val rfl (run_move) ?_
  refine WL.val rfl (run_extract rfl rfl) ?_
  refine WL.val rfl (run_extract rfl rfl) ?_
  refine WL.val rfl (run_assign) ?_
  refine WL.val rfl (run_assign) ?_
  refine WL.nil ?_
  replace hs := hs.callE hq
  cases hat : At? l n i with
  | true =>
    have hlt := At?_lt hat
    have hok := hl.2.1.get hlt
    have hyl := Ent.cells_len hok
    have hw : findP l n i = l[i] := by unfold findP; rw [if_pos hat]; simp [List.getD, hlt]
    rcases hl.cases with ⟨_, c', hv', h0⟩ | ⟨b, off, c', hv', hatl⟩
    · rw [h0] at hlt; simp at hlt
    subst hv'
    have hax : ∀ {w : World} {L : List (Nat × Obj)}, Step [] L w0 w → At w b (off + i * 34) (l[i]).cells := fun hs => (hatl.ent hl.2.1 hlt).step hs (by simp)
    repeat (first | refine CW.seq ?_ | refine CW.block ?_ | refine CW.skip ?_ | refine CW.label ?_ | refine CW.exit ?_ | refine CW.condT rfl ?_ | refine CW.condF rfl ?_)
    refine CW.reg ?_
    refine WL.val rfl (run_move) ?_
    first | refine WL.val rfl (run_notB rfl) ?_ | refine WL.val rfl (run_not rfl) ?_
    refine WL.nil ?_
    repeat (first | refine CW.seq ?_ | refine CW.block ?_ | refine CW.skip ?_ | refine CW.label ?_ | refine CW.exit ?_ | refine CW.condT rfl ?_ | refine CW.condF rfl ?_)
    refine CW.reg ?_
    refine WL.val rfl (run_move) ?_
    refine WL.val rfl (run_move) ?_
    first | refine WL.val rfl (run_ixSlN Try.underlying22 ty48 rfl rfl (by omega)) ?_ | refine WL.val rfl (run_ixSl Try.underlying22 ty48 rfl rfl (by omega)) ?_
    refine WL.val rfl (run_loadN ty48 rfl hyl (hax hs)) ?_
    first | refine WL.storeAll ty48 rfl rfl ((hyl)) ((l[i]).cells1) hs (by first | rfl | assumption) (fun w hs => ?_) | refine WL.storeAll_1 ty48 rfl rfl ((hyl)) ((l[i]).cells1) hs (by first | rfl | assumption) (fun w hs => ?_) | refine WL.storeAll_2 ty48 rfl rfl ((hyl)) ((l[i]).cells1) hs (by first | rfl | assumption) (fun w hs => ?_) | refine WL.storeAll_3 ty48 rfl rfl ((hyl)) ((l[i]).cells1) hs (by first | rfl | assumption) (fun w hs => ?_) | refine WL.storeAll_4 ty48 rfl rfl ((hyl)) ((l[i]).cells1) hs (by first | rfl | assumption) (fun w hs => ?_) | refine WL.storeAll ty48 rfl rfl ((hyl)) ((l[i]).cells1) hs (by first | rfl | assumption) (fun w hs => ?_)
    refine WL.val rfl (run_assign) ?_
    refine WL.nil ?_
    repeat (first | refine CW.seq ?_ | refine CW.block ?_ | refine CW.skip ?_ | refine CW.label ?_ | refine CW.exit ?_ | refine CW.condT rfl ?_ | refine CW.condF rfl ?_)
    refine CW.ret ?_
    refine fin_cellTmp rfl rfl (run_loadVarN ty48 hyl hs.a0) ?_
    exact ⟨i, by rw [hw, hat]; rfl, hi, hp, hs.clear⟩
  | false =>
    have hw : findP l n i = zE := by unfold findP; rw [if_neg (by rw [hat]; simp)]
    repeat (first | refine CW.seq ?_ | refine CW.block ?_ | refine CW.skip ?_ | refine CW.label ?_ | refine CW.exit ?_ | refine CW.condT rfl ?_ | refine CW.condF rfl ?_)
    refine CW.reg ?_
    refine WL.val rfl (run_move) ?_
    first | refine WL.val rfl (run_notB rfl) ?_ | refine WL.val rfl (run_not rfl) ?_
    refine WL.nil ?_
    repeat (first | refine CW.seq ?_ | refine CW.block ?_ | refine CW.skip ?_ | refine CW.label ?_ | refine CW.exit ?_ | refine CW.condT rfl ?_ | refine CW.condF rfl ?_)
    refine CW.reg ?_
    refine WL.val rfl (run_build rfl (bld_zE _)) ?_
    first | refine WL.storeAll ty48 rfl rfl (by first | rfl | assumption) (by first | assumption | exact Cells1.of_all rfl | exact Ent.cells1 _) hs (by first | rfl | assumption) (fun w hs => ?_) | refine WL.storeAll_1 ty48 rfl rfl (by first | rfl | assumption) (by first | assumption | exact Cells1.of_all rfl | exact Ent.cells1 _) hs (by first | rfl | assumption) (fun w hs => ?_) | refine WL.storeAll_2 ty48 rfl rfl (by first | rfl | assumption) (by first | assumption | exact Cells1.of_all rfl | exact Ent.cells1 _) hs (by first | rfl | assumption) (fun w hs => ?_) | refine WL.storeAll_3 ty48 rfl rfl (by first | rfl | assumption) (by first | assumption | exact Cells1.of_all rfl | exact Ent.cells1 _) hs (by first | rfl | assumption) (fun w hs => ?_) | refine WL.storeAll_4 ty48 rfl rfl (by first | rfl | assumption) (by first | assumption | exact Cells1.of_all rfl | exact Ent.cells1 _) hs (by first | rfl | assumption) (fun w hs => ?_) | refine WL.storeAll ty48 rfl rfl (by first | rfl | assumption) (by first | assumption | exact Cells1.of_all rfl | exact Ent.cells1 _) hs (by first | rfl | assumption) (fun w hs => ?_)
    refine WL.val rfl (run_assign) ?_
    refine WL.nil ?_
    repeat (first | refine CW.seq ?_ | refine CW.block ?_ | refine CW.skip ?_ | refine CW.label ?_ | refine CW.exit ?_ | refine CW.condT rfl ?_ | refine CW.condF rfl ?_)
    refine CW.ret ?_
    refine fin_cellTmp rfl rfl (run_loadVarN ty48 rfl hs.a0) ?_
    exact ⟨i, by rw [hw, hat]; rfl, hi, hp, hs.clear⟩
end Go.Gx
/-! Sl5 -/
namespace Go.Gx
open Go.Proofs
set_option linter.unusedVariables false
set_option linter.unusedSimpArgs false
set_option maxRecDepth 100000

def remR (n : List UInt8) (l : List Ent) : List Ent := l.filter fun x => decide (x.name ≠ n)
def findR (n : List UInt8) : List Ent → Ent × Bool
  | [] => (zE, false)
  | x :: l => if x.name = n then (x, true) else findR n l
def withR (x : Ent) : Bool → List Ent → List Ent
  | put, [] => if put then [] else [x]
  | put, y :: l => (if put = false ∧ Op.bytesLess y.name x.name = false then [x] else []) ++ (if y.name ≠ x.name then [y] else []) ++ withR x (put || !Op.bytesLess y.name x.name) l

theorem remR_take {l : List Ent} {n : List UInt8} {k : Nat} (hk : k < l.length) : remR n (l.take (k + 1)) = remR n (l.take k) ++ (if (l[k]).name ≠ n then [l[k]] else []) := by
  rw [List.take_succ_eq_append_getElem hk, remR, List.filter_append]
  congr 1
  by_cases h : (l[k]).name = n <;> simp [h]

theorem remR_ok {l : List Ent} (n : List UInt8) (h : Oks l) : Oks (remR n l) := fun x hx => h x (List.mem_filter.1 hx).1

theorem lessR_spec {v : Value} {l : List Ent} {n : List UInt8} (w0 : World) (hl : Es w0 v l) (hbb : l.length ≤ 1000000) :
    Calls Try.prog 25 #[v, str n] w0 fun e w' => ∃ u Lu, e = .returned u ∧ OwnSl 48 34 u (remR n l).length (rows (remR n l)) Lu ∧ Step [] Lu w0 w' := by
  have hs : Step [] [] w0 w0 := Step.refl w0
  have hobt := hl.1.form
  obtain ⟨a, c, rfl⟩ := hobt
  refine calls (n := 28) Try.func25 rfl rfl rfl ?_
  repeat (first | refine CW.seq ?_ | refine CW.block ?_ | refine CW.skip ?_ | refine CW.label ?_ | refine CW.exit ?_ | refine CW.condT rfl ?_ | refine CW.condF rfl ?_)
  refine CW.reg ?_
  refine WL.val rfl (run_assign) ?_
  refine WL.nil ?_
  repeat (first | refine CW.seq ?_ | refine CW.block ?_ | refine CW.skip ?_ | refine CW.label ?_ | refine CW.exit ?_ | refine CW.condT rfl ?_ | refine CW.condF rfl ?_)
  refine CW.reg ?_
  refine WL.val rfl (run_assign) ?_
  refine WL.nil ?_
  repeat (first | refine CW.seq ?_ | refine CW.block ?_ | refine CW.skip ?_ | refine CW.label ?_ | refine CW.exit ?_ | refine CW.condT rfl ?_ | refine CW.condF rfl ?_)
  refine CW.reg ?_
  refine WL.val rfl (run_assign) ?_
  refine WL.nil ?_
  repeat (first | refine CW.seq ?_ | refine CW.block ?_ | refine CW.skip ?_ | refine CW.label ?_ | refine CW.exit ?_ | refine CW.condT rfl ?_ | refine CW.condF rfl ?_)
  refine CW.loop (fun m f w' => ∃ k u Lu, k ≤ l.length ∧ m = l.length - k ∧ OwnSl 48 34 u (remR n (l.take k)).length (rows (remR n (l.take k))) Lu ∧ Step [] Lu w0 w' ∧ Holds f [(0, .slice a l.length c), (1, str n), (5, u), (6, .int .i64 k)]) (m := l.length) ?_ ?_
  · exact ⟨0, _, [], by omega, by omega, .nil _ _, hs, rfl, rfl, rfl, rfl, trivial⟩
  · rintro m f w ⟨k, u, Lu, hk, rfl, hu, hs, hf⟩
    have hobt := hf.chain
    obtain ⟨g, rfl⟩ := hobt
    repeat (first | refine CW.seq ?_ | refine CW.block ?_ | refine CW.skip ?_ | refine CW.label ?_ | refine CW.exit ?_ | refine CW.condT rfl ?_ | refine CW.condF rfl ?_)
    refine CW.reg ?_
    refine WL.val rfl (run_move) ?_
    refine WL.val rfl (run_move) ?_
    refine WL.val rfl (run_lenSl Try.underlying22 rfl) ?_
    refine WL.val rfl (run_lss rfl rfl) ?_
    refine WL.nil ?_
    repeat (first | refine CW.seq ?_ | refine CW.block ?_ | refine CW.skip ?_ | refine CW.label ?_ | refine CW.exit ?_)
    first | refine CW.condP rfl (fun h => ?_) (fun h => ?_) | refine CW.cond rfl (fun h => ?_) (fun h => ?_)
    · have hlt : k < l.length := by omega
      rcases hl.cases with ⟨_, c', hv', h0⟩ | ⟨b, off, c', hv', hat⟩
      · rw [h0] at hlt; simp at hlt
      obtain ⟨rfl, rfl⟩ : a = some ⟨b, off, none⟩ ∧ c = c' := by cases hv'; exact ⟨rfl, rfl⟩
      have hok := hl.2.1.get hlt
      have hyl := Ent.cells_len hok
      have hax : ∀ {w : World} {L : List (Nat × Obj)}, Step [] L w0 w → At w b (off + k * 34) (l[k]).cells := fun hs => (hat.ent hl.2.1 hlt).step hs (by simp)
      have hrt := remR_take (n := n) hlt
      by_cases hn : (l[k]).name = n
      · rw [if_neg (by simpa using hn), List.append_nil] at hrt
        repeat (first | refine CW.seq ?_ | refine CW.block ?_ | refine CW.skip ?_ | refine CW.label ?_ | refine CW.exit ?_ | refine CW.condT rfl ?_ | refine CW.condF rfl ?_)
        refine CW.reg ?_
        refine WL.val rfl (run_move) ?_
        refine WL.val rfl (run_move) ?_
        first | refine WL.val rfl (run_ixSlN Try.underlying22 ty48 rfl rfl (by omega)) ?_ | refine WL.val rfl (run_ixSl Try.underlying22 ty48 rfl rfl (by omega)) ?_
        refine WL.val rfl (run_field (o' := 0) Try.underlying48 rfl ty9 rfl rfl rfl) ?_
        refine WL.val rfl (run_load1 ty9 rfl ((hax hs).cell (j := 0) rfl)) ?_
        refine WL.val rfl (run_move) ?_
        refine WL.val rfl (run_bF (run_strNe rfl rfl) (by simpa using hn)) ?_
        refine WL.nil ?_
        repeat (first | refine CW.seq ?_ | refine CW.block ?_ | refine CW.skip ?_ | refine CW.label ?_ | refine CW.exit ?_ | refine CW.condT rfl ?_ | refine CW.condF rfl ?_)
        refine CW.reg ?_
        refine WL.val rfl (run_move) ?_
        refine WL.val rfl (run_add (c := ((k + 1 : Nat) : Int)) rfl rfl (by omega) (by omega)) ?_
        refine WL.val rfl (run_assign) ?_
        refine WL.nil ?_
        repeat (first | refine CW.seq ?_ | refine CW.block ?_ | refine CW.skip ?_ | refine CW.label ?_ | refine CW.exit ?_)
        refine (show _ ∧ _ from ⟨rfl, _, ?_, k + 1, u, Lu, by omega, rfl, by rw [hrt]; exact hu, hs, rfl, rfl, rfl, rfl, trivial⟩)
        omega
      · rw [if_pos hn] at hrt
        have hlen : (remR n (l.take k)).length ≤ k := by
          have := List.length_filter_le (fun x : Ent => decide (x.name ≠ n)) (l.take k)
          rw [List.length_take] at this
          unfold remR
          omega
        have hobt := hu.form
        obtain ⟨ua, uc, rfl⟩ := hobt
        repeat (first | refine CW.seq ?_ | refine CW.block ?_ | refine CW.skip ?_ | refine CW.label ?_ | refine CW.exit ?_ | refine CW.condT rfl ?_ | refine CW.condF rfl ?_)
        refine CW.reg ?_
        refine WL.val rfl (run_move) ?_
        refine WL.val rfl (run_move) ?_
        first | refine WL.val rfl (run_ixSlN Try.underlying22 ty48 rfl rfl (by omega)) ?_ | refine WL.val rfl (run_ixSl Try.underlying22 ty48 rfl rfl (by omega)) ?_
        refine WL.val rfl (run_field (o' := 0) Try.underlying48 rfl ty9 rfl rfl rfl) ?_
        refine WL.val rfl (run_load1 ty9 rfl ((hax hs).cell (j := 0) rfl)) ?_
        refine WL.val rfl (run_move) ?_
        refine WL.val rfl (run_bT (run_strNe rfl rfl) (by exact hn)) ?_
        refine WL.nil ?_
        repeat (first | refine CW.seq ?_ | refine CW.block ?_ | refine CW.skip ?_ | refine CW.label ?_ | refine CW.exit ?_ | refine CW.condT rfl ?_ | refine CW.condF rfl ?_)
        refine CW.reg ?_
        refine WL.val rfl (run_move) ?_
        refine WL.val rfl (run_move) ?_
        refine WL.val rfl (run_move) ?_
        first | refine WL.val rfl (run_ixSlN Try.underlying22 ty48 rfl rfl (by omega)) ?_ | refine WL.val rfl (run_ixSl Try.underlying22 ty48 rfl rfl (by omega)) ?_
        refine WL.val rfl (run_loadN ty48 rfl hyl (hax hs)) ?_
        refine WL.buildSlice (cs := (l[k]).cells) Try.underlying22 ty48 rfl (by decide) rfl (filled1 hyl rfl) rfl hs (fun b25 w hs => ?_)
        have hsl : Sl w 34 (.slice (some ⟨b25, 0, none⟩) 1 1) 1 (l[k]).cells := .own1 hs (by rw [hyl])
        refine WL.append Try.underlying22 Try.underlying22 ty48 rfl (by decide) rfl rfl (hu) ((Step.append_comm (L1 := [_]) hs)) (hsl) ((l[k]).cells1) (by first | omega | (simp only [List.length_append, List.length_cons, List.length_nil]; omega)) rfl (fun v26 Lv26 w hv26 hs => ?_)
        refine WL.val rfl (run_assign) ?_
        refine WL.nil ?_
        repeat (first | refine CW.seq ?_ | refine CW.block ?_ | refine CW.skip ?_ | refine CW.label ?_ | refine CW.exit ?_ | refine CW.condT rfl ?_ | refine CW.condF rfl ?_)
        refine CW.reg ?_
        refine WL.val rfl (run_move) ?_
        refine WL.val rfl (run_add (c := ((k + 1 : Nat) : Int)) rfl rfl (by omega) (by omega)) ?_
        refine WL.val rfl (run_assign) ?_
        refine WL.nil ?_
        repeat (first | refine CW.seq ?_ | refine CW.block ?_ | refine CW.skip ?_ | refine CW.label ?_ | refine CW.exit ?_)
        refine (show _ ∧ _ from ⟨rfl, _, ?_, k + 1, _, _, by omega, rfl, ?_, Step.dropR hs, rfl, rfl, rfl, rfl, trivial⟩)
        · omega
        · rw [hrt, List.length_append, rows_append, rows_one]
          exact hv26
    · obtain rfl : k = l.length := by omega
      rw [List.take_length] at hu
      repeat (first | refine CW.seq ?_ | refine CW.block ?_ | refine CW.skip ?_ | refine CW.label ?_ | refine CW.exit ?_ | refine CW.condT rfl ?_ | refine CW.condF rfl ?_)
      refine CW.reg ?_
      refine WL.val rfl (run_move) ?_
      refine WL.val rfl (run_assign) ?_
      refine WL.nil ?_
      repeat (first | refine CW.seq ?_ | refine CW.block ?_ | refine CW.skip ?_ | refine CW.label ?_ | refine CW.exit ?_ | refine CW.condT rfl ?_ | refine CW.condF rfl ?_)
      refine CW.ret ?_
      refine fin_ret1 rfl ?_
      exact ⟨u, Lu, rfl, hu, hs⟩

theorem findR_spec {v : Value} {l : List Ent} {n : List UInt8} (w0 : World) (hl : Es w0 v l) :
    Calls Try.prog 27 #[v, str n] w0 fun e w' => e = .returned (.tuple #[.agg (findR n l).1.cells.toArray, .bool (findR n l).2]) ∧ Step [] [] w0 w' := by
  have hs : Step [] [] w0 w0 := Step.refl w0
  have hbl := hl.2.2
  have hobt := hl.1.form
  obtain ⟨a, c, rfl⟩ := hobt
  refine calls (n := 25) Try.func27 rfl rfl rfl ?_
  repeat (first | refine CW.seq ?_ | refine CW.block ?_ | refine CW.skip ?_ | refine CW.label ?_ | refine CW.exit ?_ | refine CW.condT rfl ?_ | refine CW.condF rfl ?_)
  refine CW.reg ?_
  refine WL.alloc ty48 rfl hs (fun b4 w hs => ?_)
  refine WL.val rfl (run_assign) ?_
  refine WL.nil ?_
  have hz : Step [] [(b4, blk 48 zE.cells)] w0 w := hs
  replace hs := hz
  repeat (first | refine CW.seq ?_ | refine CW.block ?_ | refine CW.skip ?_ | refine CW.label ?_ | refine CW.exit ?_ | refine CW.condT rfl ?_ | refine CW.condF rfl ?_)
  refine CW.reg ?_
  refine WL.val rfl (run_assign) ?_
  refine WL.nil ?_
  repeat (first | refine CW.seq ?_ | refine CW.block ?_ | refine CW.skip ?_ | refine CW.label ?_ | refine CW.exit ?_ | refine CW.condT rfl ?_ | refine CW.condF rfl ?_)
  refine CW.loop (fun m f w' => ∃ k, k ≤ l.length ∧ m = l.length - k ∧ findR n l = findR n (l.drop k) ∧ Step [] [(b4, blk 48 zE.cells)] w0 w' ∧ Holds f [(0, .slice a l.length c), (1, str n), (4, .pointer (some ⟨b4, 0, none⟩)), (6, .int .i64 k)]) (m := l.length) ?_ ?_
  · exact ⟨0, by omega, by omega, rfl, hs, rfl, rfl, rfl, rfl, trivial⟩
  · rintro m f w ⟨k, hk, rfl, hfr, hs, hf⟩
    have hobt := hf.chain
    obtain ⟨g, rfl⟩ := hobt
    repeat (first | refine CW.seq ?_ | refine CW.block ?_ | refine CW.skip ?_ | refine CW.label ?_ | refine CW.exit ?_ | refine CW.condT rfl ?_ | refine CW.condF rfl ?_)
    refine CW.reg ?_
    refine WL.val rfl (run_move) ?_
    refine WL.val rfl (run_move) ?_
    refine WL.val rfl (run_lenSl Try.underlying22 rfl) ?_
    refine WL.val rfl (run_lss rfl rfl) ?_
    refine WL.nil ?_
    repeat (first | refine CW.seq ?_ | refine CW.block ?_ | refine CW.skip ?_ | refine CW.label ?_ | refine CW.exit ?_)
    first | refine CW.condP rfl (fun h => ?_) (fun h => ?_) | refine CW.cond rfl (fun h => ?_) (fun h => ?_)
    · have hlt : k < l.length := by omega
      rcases hl.cases with ⟨_, c', hv', h0⟩ | ⟨b, off, c', hv', hat⟩
      · rw [h0] at hlt; simp at hlt
      obtain ⟨rfl, rfl⟩ : a = some ⟨b, off, none⟩ ∧ c = c' := by cases hv'; exact ⟨rfl, rfl⟩
      have hok := hl.2.1.get hlt
      have hyl := Ent.cells_len hok
      have hax : ∀ {w : World} {L : List (Nat × Obj)}, Step [] L w0 w → At w b (off + k * 34) (l[k]).cells := fun hs => (hat.ent hl.2.1 hlt).step hs (by simp)
      rw [List.drop_eq_getElem_cons hlt, findR] at hfr
      by_cases hn : (l[k]).name = n
      · rw [if_pos hn] at hfr
        repeat (first | refine CW.seq ?_ | refine CW.block ?_ | refine CW.skip ?_ | refine CW.label ?_ | refine CW.exit ?_ | refine CW.condT rfl ?_ | refine CW.condF rfl ?_)
        refine CW.reg ?_
        refine WL.val rfl (run_move) ?_
        refine WL.val rfl (run_move) ?_
        first | refine WL.val rfl (run_ixSlN Try.underlying22 ty48 rfl rfl (by omega)) ?_ | refine WL.val rfl (run_ixSl Try.underlying22 ty48 rfl rfl (by omega)) ?_
        refine WL.val rfl (run_field (o' := 0) Try.underlying48 rfl ty9 rfl rfl rfl) ?_
        refine WL.val rfl (run_load1 ty9 rfl ((hax hs).cell (j := 0) rfl)) ?_
        refine WL.val rfl (run_move) ?_
        refine WL.val rfl (run_bT (run_strEq rfl rfl) (by exact hn)) ?_
        refine WL.nil ?_
        repeat (first | refine CW.seq ?_ | refine CW.block ?_ | refine CW.skip ?_ | refine CW.label ?_ | refine CW.exit ?_ | refine CW.condT rfl ?_ | refine CW.condF rfl ?_)
        refine CW.reg ?_
        refine WL.val rfl (run_move) ?_
        refine WL.val rfl (run_move) ?_
        first | refine WL.val rfl (run_ixSlN Try.underlying22 ty48 rfl rfl (by omega)) ?_ | refine WL.val rfl (run_ixSl Try.underlying22 ty48 rfl rfl (by omega)) ?_
        refine WL.val rfl (run_loadN ty48 rfl hyl (hax hs)) ?_
        first | refine WL.storeAll ty48 rfl rfl ((hyl)) ((l[k]).cells1) hs (by first | rfl | assumption) (fun w hs => ?_) | refine WL.storeAll_1 ty48 rfl rfl ((hyl)) ((l[k]).cells1) hs (by first | rfl | assumption) (fun w hs => ?_) | refine WL.storeAll_2 ty48 rfl rfl ((hyl)) ((l[k]).cells1) hs (by first | rfl | assumption) (fun w hs => ?_) | refine WL.storeAll_3 ty48 rfl rfl ((hyl)) ((l[k]).cells1) hs (by first | rfl | assumption) (fun w hs => ?_) | refine WL.storeAll_4 ty48 rfl rfl ((hyl)) ((l[k]).cells1) hs (by first | rfl | assumption) (fun w hs => ?_) | refine WL.storeAll ty48 rfl rfl ((hyl)) ((l[k]).cells1) hs (by first | rfl | assumption) (fun w hs => ?_)
        refine WL.val rfl (run_assign) ?_
        refine WL.nil ?_
        repeat (first | refine CW.seq ?_ | refine CW.block ?_ | refine CW.skip ?_ | refine CW.label ?_ | refine CW.exit ?_ | refine CW.condT rfl ?_ | refine CW.condF rfl ?_)
        refine CW.ret ?_
        refine fin_cellTmp rfl rfl (run_loadVarN ty48 hyl hs.a0) ?_
        exact ⟨by rw [hfr]; rfl, hs.clear⟩
      · rw [if_neg hn] at hfr
        repeat (first | refine CW.seq ?_ | refine CW.block ?_ | refine CW.skip ?_ | refine CW.label ?_ | refine CW.exit ?_ | refine CW.condT rfl ?_ | refine CW.condF rfl ?_)
        refine CW.reg ?_
        refine WL.val rfl (run_move) ?_
        refine WL.val rfl (run_move) ?_
        first | refine WL.val rfl (run_ixSlN Try.underlying22 ty48 rfl rfl (by omega)) ?_ | refine WL.val rfl (run_ixSl Try.underlying22 ty48 rfl rfl (by omega)) ?_
        refine WL.val rfl (run_field (o' := 0) Try.underlying48 rfl ty9 rfl rfl rfl) ?_
        refine WL.val rfl (run_load1 ty9 rfl ((hax hs).cell (j := 0) rfl)) ?_
        refine WL.val rfl (run_move) ?_
        refine WL.val rfl (run_bF (run_strEq rfl rfl) (by exact hn)) ?_
        refine WL.nil ?_
        repeat (first | refine CW.seq ?_ | refine CW.block ?_ | refine CW.skip ?_ | refine CW.label ?_ | refine CW.exit ?_ | refine CW.condT rfl ?_ | refine CW.condF rfl ?_)
        refine CW.reg ?_
        refine WL.val rfl (run_move) ?_
        refine WL.val rfl (run_add (c := ((k + 1 : Nat) : Int)) rfl rfl (by omega) (by omega)) ?_
        refine WL.val rfl (run_assign) ?_
        refine WL.nil ?_
        repeat (first | refine CW.seq ?_ | refine CW.block ?_ | refine CW.skip ?_ | refine CW.label ?_ | refine CW.exit ?_)
        refine (show _ ∧ _ from ⟨rfl, _, ?_, k + 1, by omega, rfl, hfr, hs, rfl, rfl, rfl, rfl, trivial⟩)
        omega
    · obtain rfl : k = l.length := by omega
      rw [List.drop_length] at hfr
      repeat (first | refine CW.seq ?_ | refine CW.block ?_ | refine CW.skip ?_ | refine CW.label ?_ | refine CW.exit ?_ | refine CW.condT rfl ?_ | refine CW.condF rfl ?_)
      refine CW.reg ?_
      refine WL.val rfl (run_build rfl (bld_zE _)) ?_
      first | refine WL.storeAll ty48 rfl rfl (by first | rfl | assumption) (by first | assumption | exact Cells1.of_all rfl | exact Ent.cells1 _) hs (by first | rfl | assumption) (fun w hs => ?_) | refine WL.storeAll_1 ty48 rfl rfl (by first | rfl | assumption) (by first | assumption | exact Cells1.of_all rfl | exact Ent.cells1 _) hs (by first | rfl | assumption) (fun w hs => ?_) | refine WL.storeAll_2 ty48 rfl rfl (by first | rfl | assumption) (by first | assumption | exact Cells1.of_all rfl | exact Ent.cells1 _) hs (by first | rfl | assumption) (fun w hs => ?_) | refine WL.storeAll_3 ty48 rfl rfl (by first | rfl | assumption) (by first | assumption | exact Cells1.of_all rfl | exact Ent.cells1 _) hs (by first | rfl | assumption) (fun w hs => ?_) | refine WL.storeAll_4 ty48 rfl rfl (by first | rfl | assumption) (by first | assumption | exact Cells1.of_all rfl | exact Ent.cells1 _) hs (by first | rfl | assumption) (fun w hs => ?_) | refine WL.storeAll ty48 rfl rfl (by first | rfl | assumption) (by first | assumption | exact Cells1.of_all rfl | exact Ent.cells1 _) hs (by first | rfl | assumption) (fun w hs => ?_)
      refine WL.val rfl (run_assign) ?_
      refine WL.nil ?_
      repeat (first | refine CW.seq ?_ | refine CW.block ?_ | refine CW.skip ?_ | refine CW.label ?_ | refine CW.exit ?_ | refine CW.condT rfl ?_ | refine CW.condF rfl ?_)
      refine CW.ret ?_
      refine fin_cellTmp rfl rfl (run_loadVarN ty48 rfl hs.a0) ?_
      exact ⟨by rw [hfr]; rfl, hs.clear⟩
end Go.Gx
/-! Sl6 -/
namespace Go.Gx
open Go.Proofs
set_option linter.unusedVariables false
set_option linter.unusedSimpArgs false
set_option maxRecDepth 100000

set_option maxHeartbeats 800000 in
theorem withR_spec {v : Value} {l : List Ent} {x : Ent} (w0 : World) (hl : Es w0 v l) (hbb : l.length ≤ 1000000) (hx : x.ok) :
    Calls Try.prog 29 #[v, .agg x.cells.toArray] w0 fun e w' => ∃ u Lu, e = .returned u ∧ OwnSl 48 34 u (withR x false l).length (rows (withR x false l)) Lu ∧ Oks (withR x false l) ∧ Step [] Lu w0 w' := by
  have hs : Step [] [] w0 w0 := Step.refl w0
  have hxl := Ent.cells_len hx
  have hobt := hl.1.form
  obtain ⟨a, c, rfl⟩ := hobt
  refine calls (n := 53) Try.func29 rfl rfl rfl ?_
  repeat (first | refine CW.seq ?_ | refine CW.block ?_ | refine CW.skip ?_ | refine CW.label ?_ | refine CW.exit ?_ | refine CW.condT rfl ?_ | refine CW.condF rfl ?_)
  refine CW.reg ?_
  refine WL.box (cs := x.cells) rfl rfl rfl hs (fun b3 w hs => ?_)
  refine WL.val rfl (run_assign) ?_
  refine WL.nil ?_
  repeat (first | refine CW.seq ?_ | refine CW.block ?_ | refine CW.skip ?_ | refine CW.label ?_ | refine CW.exit ?_ | refine CW.condT rfl ?_ | refine CW.condF rfl ?_)
  refine CW.reg ?_
  refine WL.val rfl (run_assign) ?_
  refine WL.nil ?_
  repeat (first | refine CW.seq ?_ | refine CW.block ?_ | refine CW.skip ?_ | refine CW.label ?_ | refine CW.exit ?_ | refine CW.condT rfl ?_ | refine CW.condF rfl ?_)
  refine CW.reg ?_
  refine WL.val rfl (run_assign) ?_
  refine WL.nil ?_
  repeat (first | refine CW.seq ?_ | refine CW.block ?_ | refine CW.skip ?_ | refine CW.label ?_ | refine CW.exit ?_ | refine CW.condT rfl ?_ | refine CW.condF rfl ?_)
  refine CW.reg ?_
  refine WL.val rfl (run_assign) ?_
  refine WL.nil ?_
  repeat (first | refine CW.seq ?_ | refine CW.block ?_ | refine CW.skip ?_ | refine CW.label ?_ | refine CW.exit ?_ | refine CW.condT rfl ?_ | refine CW.condF rfl ?_)
  refine CW.loop (fun m f w' => ∃ k out put u Lu, k ≤ l.length ∧ m = l.length - k ∧ withR x false l = out ++ withR x put (l.drop k) ∧ out.length ≤ 2 * k ∧ Oks out ∧ OwnSl 48 34 u out.length (rows out) Lu ∧ Step [] ((b3, blk 48 x.cells) :: Lu) w0 w' ∧ Holds f [(0, .slice a l.length c), (3, .pointer (some ⟨b3, 0, none⟩)), (5, u), (6, .bool put), (7, .int .i64 k)]) (m := l.length) ?_ ?_
  · exact ⟨0, [], false, _, [], by omega, by omega, rfl, by simp, Oks.nil, .nil _ _, hs, rfl, rfl, rfl, rfl, rfl, trivial⟩
  · rintro m f w ⟨k, out, put, u, Lu, hk, rfl, hw, hol, hoo, hu, hs, hf⟩
    have hobt := hf.chain
    obtain ⟨g, rfl⟩ := hobt
    repeat (first | refine CW.seq ?_ | refine CW.block ?_ | refine CW.skip ?_ | refine CW.label ?_ | refine CW.exit ?_ | refine CW.condT rfl ?_ | refine CW.condF rfl ?_)
    refine CW.reg ?_
    refine WL.val rfl (run_move) ?_
    refine WL.val rfl (run_move) ?_
    refine WL.val rfl (run_lenSl Try.underlying22 rfl) ?_
    refine WL.val rfl (run_lss rfl rfl) ?_
    refine WL.nil ?_
    repeat (first | refine CW.seq ?_ | refine CW.block ?_ | refine CW.skip ?_ | refine CW.label ?_ | refine CW.exit ?_)
    first | refine CW.condP rfl (fun h => ?_) (fun h => ?_) | refine CW.cond rfl (fun h => ?_) (fun h => ?_)
    · have hlt : k < l.length := by omega
      rcases hl.cases with ⟨_, c', hv', h0⟩ | ⟨b, off, c', hv', hat⟩
      · rw [h0] at hlt; simp at hlt
      obtain ⟨rfl, rfl⟩ : a = some ⟨b, off, none⟩ ∧ c = c' := by cases hv'; exact ⟨rfl, rfl⟩
      have hok := hl.2.1.get hlt
      have hyl := Ent.cells_len hok
      have hax : ∀ {w : World} {L : List (Nat × Obj)}, Step [] L w0 w → At w b (off + k * 34) (l[k]).cells := fun hs => (hat.ent hl.2.1 hlt).step hs (by simp)
      rw [List.drop_eq_getElem_cons hlt, withR] at hw
      cases put with
      | true =>
        rw [if_neg (by simp), List.nil_append, Bool.true_or] at hw
        repeat (first | refine CW.seq ?_ | refine CW.block ?_ | refine CW.skip ?_ | refine CW.label ?_ | refine CW.exit ?_ | refine CW.condT rfl ?_ | refine CW.condF rfl ?_)
        refine CW.quiet mixedP (by kernel_rfl) hs ?_
        refine QL.val rfl (fun w hs => run_move) ?_
        first | refine QL.val rfl (fun w hs => run_notB rfl) ?_ | refine QL.val rfl (fun w hs => run_not rfl) ?_
        refine QL.val rfl (fun w hs => run_move) ?_
        first | refine QL.no rfl rfl rfl (.inl rfl) ?_ | refine QL.no rfl rfl rfl (.inr rfl) ?_
        first | refine QL.no rfl rfl rfl (.inl rfl) ?_ | refine QL.no rfl rfl rfl (.inr rfl) ?_
        first | refine QL.no rfl rfl rfl (.inl rfl) ?_ | refine QL.no rfl rfl rfl (.inr rfl) ?_
        first | refine QL.no rfl rfl rfl (.inl rfl) ?_ | refine QL.no rfl rfl rfl (.inr rfl) ?_
        first | refine QL.no rfl rfl rfl (.inl rfl) ?_ | refine QL.no rfl rfl rfl (.inr rfl) ?_
        first | refine QL.no rfl rfl rfl (.inl rfl) ?_ | refine QL.no rfl rfl rfl (.inr rfl) ?_
        first | refine QL.no rfl rfl rfl (.inl rfl) ?_ | refine QL.no rfl rfl rfl (.inr rfl) ?_
        first | refine QL.no rfl rfl rfl (.inl rfl) ?_ | refine QL.no rfl rfl rfl (.inr rfl) ?_
        first | refine QL.no rfl rfl rfl (.inl rfl) ?_ | refine QL.no rfl rfl rfl (.inr rfl) ?_
        first | refine QL.val rfl (fun w hs => run_pickT rfl) ?_ | refine QL.val rfl (fun w hs => run_pickF rfl) ?_
        refine QL.nil (fun w hs => ?_)
        have hobt : ∃ out2, out2 = out := ⟨_, rfl⟩
        obtain ⟨out2, ho2⟩ := hobt
        subst ho2
        have hoo2 := hoo
        have hu2 := hu
        have hol2 : out2.length ≤ 2 * k + 1 := by omega
        by_cases hn : (l[k]).name = x.name
        · rw [if_neg (by simpa using hn), List.nil_append] at hw
          repeat (first | refine CW.seq ?_ | refine CW.block ?_ | refine CW.skip ?_ | refine CW.label ?_ | refine CW.exit ?_ | refine CW.condT rfl ?_ | refine CW.condF rfl ?_)
          refine CW.quiet mixedP (by kernel_rfl) hs ?_
          refine QL.val rfl (fun w hs => run_move) ?_
          refine QL.val rfl (fun w hs => run_move) ?_
          first | refine QL.val rfl (fun w hs => run_ixSlN Try.underlying22 ty48 rfl rfl (by omega)) ?_ | refine QL.val rfl (fun w hs => run_ixSl Try.underlying22 ty48 rfl rfl (by omega)) ?_
          refine QL.val rfl (fun w hs => run_field (o' := 0) Try.underlying48 rfl ty9 rfl rfl rfl) ?_
          refine QL.val rfl (fun w hs => run_load1 ty9 rfl ((hax hs).cell (j := 0) rfl)) ?_
          refine QL.val rfl (fun w hs => run_field (o' := 0) Try.underlying48 rfl ty9 rfl rfl rfl) ?_
          first | refine QL.val rfl (fun w hs => run_load1 ty9 rfl (hs.c0 rfl)) ?_ | refine QL.val rfl (fun w hs => run_load1 ty9 rfl (hs.c1 rfl)) ?_ | refine QL.val rfl (fun w hs => run_load1 ty9 rfl (hs.c2 rfl)) ?_ | refine QL.val rfl (fun w hs => run_load1 ty9 rfl (hs.c3 rfl)) ?_ | refine QL.val rfl (fun w hs => run_load1 ty9 rfl (hs.c4 rfl)) ?_ | refine QL.val rfl (fun w hs => run_load1 ty9 rfl (hs.c5 rfl)) ?_ | refine QL.val rfl (fun w hs => run_load1 ty9 rfl (hs.c0 rfl)) ?_
          refine QL.val rfl (fun w hs => run_bF (run_strNe rfl rfl) (by simpa using hn)) ?_
          refine QL.nil (fun w hs => ?_)
          repeat (first | refine CW.seq ?_ | refine CW.block ?_ | refine CW.skip ?_ | refine CW.label ?_ | refine CW.exit ?_ | refine CW.condT rfl ?_ | refine CW.condF rfl ?_)
          refine CW.reg ?_
          refine WL.val rfl (run_move) ?_
          refine WL.val rfl (run_add (c := ((k + 1 : Nat) : Int)) rfl rfl (by omega) (by omega)) ?_
          refine WL.val rfl (run_assign) ?_
          refine WL.nil ?_
          repeat (first | refine CW.seq ?_ | refine CW.block ?_ | refine CW.skip ?_ | refine CW.label ?_ | refine CW.exit ?_)
          refine (show _ ∧ _ from ⟨rfl, _, ?_, k + 1, out2, _, _, _, by omega, rfl, hw, by omega, hoo2, hu2, hs, rfl, rfl, rfl, rfl, rfl, trivial⟩)
          omega
        · rw [if_pos hn, ← List.append_assoc] at hw
          repeat (first | refine CW.seq ?_ | refine CW.block ?_ | refine CW.skip ?_ | refine CW.label ?_ | refine CW.exit ?_ | refine CW.condT rfl ?_ | refine CW.condF rfl ?_)
          refine CW.quiet mixedP (by kernel_rfl) hs ?_
          refine QL.val rfl (fun w hs => run_move) ?_
          refine QL.val rfl (fun w hs => run_move) ?_
          first | refine QL.val rfl (fun w hs => run_ixSlN Try.underlying22 ty48 rfl rfl (by omega)) ?_ | refine QL.val rfl (fun w hs => run_ixSl Try.underlying22 ty48 rfl rfl (by omega)) ?_
          refine QL.val rfl (fun w hs => run_field (o' := 0) Try.underlying48 rfl ty9 rfl rfl rfl) ?_
          refine QL.val rfl (fun w hs => run_load1 ty9 rfl ((hax hs).cell (j := 0) rfl)) ?_
          refine QL.val rfl (fun w hs => run_field (o' := 0) Try.underlying48 rfl ty9 rfl rfl rfl) ?_
          first | refine QL.val rfl (fun w hs => run_load1 ty9 rfl (hs.c0 rfl)) ?_ | refine QL.val rfl (fun w hs => run_load1 ty9 rfl (hs.c1 rfl)) ?_ | refine QL.val rfl (fun w hs => run_load1 ty9 rfl (hs.c2 rfl)) ?_ | refine QL.val rfl (fun w hs => run_load1 ty9 rfl (hs.c3 rfl)) ?_ | refine QL.val rfl (fun w hs => run_load1 ty9 rfl (hs.c4 rfl)) ?_ | refine QL.val rfl (fun w hs => run_load1 ty9 rfl (hs.c5 rfl)) ?_ | refine QL.val rfl (fun w hs => run_load1 ty9 rfl (hs.c0 rfl)) ?_
          refine QL.val rfl (fun w hs => run_bT (run_strNe rfl rfl) (by exact hn)) ?_
          refine QL.nil (fun w hs => ?_)
          repeat (first | refine CW.seq ?_ | refine CW.block ?_ | refine CW.skip ?_ | refine CW.label ?_ | refine CW.exit ?_ | refine CW.condT rfl ?_ | refine CW.condF rfl ?_)
          refine CW.reg ?_
          refine WL.val rfl (run_move) ?_
          refine WL.val rfl (run_move) ?_
          refine WL.val rfl (run_move) ?_
          first | refine WL.val rfl (run_ixSlN Try.underlying22 ty48 rfl rfl (by omega)) ?_ | refine WL.val rfl (run_ixSl Try.underlying22 ty48 rfl rfl (by omega)) ?_
          refine WL.val rfl (run_loadN ty48 rfl hyl (hax hs)) ?_
          refine WL.buildSlice (cs := (l[k]).cells) Try.underlying22 ty48 rfl (by decide) rfl (filled1 hyl rfl) rfl hs (fun b44 w hs => ?_)
          have hsl : Sl w 34 (.slice (some ⟨b44, 0, none⟩) 1 1) 1 (l[k]).cells := .own1 hs (by rw [hyl])
          refine WL.append Try.underlying22 Try.underlying22 ty48 rfl (by decide) rfl rfl (hu2) ((Step.append_comm (L1 := [_, _]) hs)) (hsl) ((l[k]).cells1) (by first | omega | (simp only [List.length_append, List.length_cons, List.length_nil]; omega)) rfl (fun v45 Lv45 w hv45 hs => ?_)
          refine WL.val rfl (run_assign) ?_
          refine WL.nil ?_
          repeat (first | refine CW.seq ?_ | refine CW.block ?_ | refine CW.skip ?_ | refine CW.label ?_ | refine CW.exit ?_ | refine CW.condT rfl ?_ | refine CW.condF rfl ?_)
          refine CW.reg ?_
          refine WL.val rfl (run_move) ?_
          refine WL.val rfl (run_add (c := ((k + 1 : Nat) : Int)) rfl rfl (by omega) (by omega)) ?_
          refine WL.val rfl (run_assign) ?_
          refine WL.nil ?_
          repeat (first | refine CW.seq ?_ | refine CW.block ?_ | refine CW.skip ?_ | refine CW.label ?_ | refine CW.exit ?_)
          refine (show _ ∧ _ from ⟨rfl, _, ?_, k + 1, out2 ++ [l[k]], _, _, _, by omega, rfl, hw, by simp; omega, hoo2.append (Oks.one hok), ?_, Step.tail (Step.append_comm hs), rfl, rfl, rfl, rfl, rfl, trivial⟩)
          · omega
          · rw [List.length_append, rows_append, rows_one]
            exact hv45
      | false =>
        cases hb : Op.bytesLess (l[k]).name x.name with
        | true =>
          rw [if_neg (by simp [hb]), List.nil_append, hb, Bool.false_or, Bool.not_true] at hw
          repeat (first | refine CW.seq ?_ | refine CW.block ?_ | refine CW.skip ?_ | refine CW.label ?_ | refine CW.exit ?_ | refine CW.condT rfl ?_ | refine CW.condF rfl ?_)
          refine CW.quiet mixedP (by kernel_rfl) hs ?_
          refine QL.val rfl (fun w hs => run_move) ?_
          first | refine QL.val rfl (fun w hs => run_notB rfl) ?_ | refine QL.val rfl (fun w hs => run_not rfl) ?_
          refine QL.val rfl (fun w hs => run_move) ?_
          refine QL.yes rfl rfl rfl ?_
          refine QL.val rfl (fun w hs => run_field (o' := 0) Try.underlying48 rfl ty9 rfl rfl rfl) ?_
          refine QL.yes rfl rfl rfl ?_
          first | refine QL.val rfl (fun w hs => run_load1 ty9 rfl (hs.c0 rfl)) ?_ | refine QL.val rfl (fun w hs => run_load1 ty9 rfl (hs.c1 rfl)) ?_ | refine QL.val rfl (fun w hs => run_load1 ty9 rfl (hs.c2 rfl)) ?_ | refine QL.val rfl (fun w hs => run_load1 ty9 rfl (hs.c3 rfl)) ?_ | refine QL.val rfl (fun w hs => run_load1 ty9 rfl (hs.c4 rfl)) ?_ | refine QL.val rfl (fun w hs => run_load1 ty9 rfl (hs.c5 rfl)) ?_ | refine QL.val rfl (fun w hs => run_load1 ty9 rfl (hs.c0 rfl)) ?_
          refine QL.yes rfl rfl rfl ?_
          refine QL.val rfl (fun w hs => run_move) ?_
          refine QL.yes rfl rfl rfl ?_
          refine QL.val rfl (fun w hs => run_move) ?_
          refine QL.yes rfl rfl rfl ?_
          first | refine QL.val rfl (fun w hs => run_ixSlN Try.underlying22 ty48 rfl rfl (by omega)) ?_ | refine QL.val rfl (fun w hs => run_ixSl Try.underlying22 ty48 rfl rfl (by omega)) ?_
          refine QL.yes rfl rfl rfl ?_
          refine QL.val rfl (fun w hs => run_field (o' := 0) Try.underlying48 rfl ty9 rfl rfl rfl) ?_
          refine QL.yes rfl rfl rfl ?_
          refine QL.val rfl (fun w hs => run_load1 ty9 rfl ((hax hs).cell (j := 0) rfl)) ?_
          refine QL.yes rfl rfl rfl ?_
          refine QL.enter rfl (fun w => run_call en59 rfl rfl) (fun w hs => above_spec hb _ hx.2.2.2 hok.2.2.2) ?_
          refine QL.yes rfl rfl rfl ?_
          first | refine QL.val rfl (fun w hs => run_notB rfl) ?_ | refine QL.val rfl (fun w hs => run_not rfl) ?_
          first | refine QL.val rfl (fun w hs => run_pickT rfl) ?_ | refine QL.val rfl (fun w hs => run_pickF rfl) ?_
          refine QL.nil (fun w hs => ?_)
          have hobt : ∃ out2, out2 = out := ⟨_, rfl⟩
          obtain ⟨out2, ho2⟩ := hobt
          subst ho2
          have hoo2 := hoo
          have hu2 := hu
          have hol2 : out2.length ≤ 2 * k + 1 := by omega
          by_cases hn : (l[k]).name = x.name
          · rw [if_neg (by simpa using hn), List.nil_append] at hw
            repeat (first | refine CW.seq ?_ | refine CW.block ?_ | refine CW.skip ?_ | refine CW.label ?_ | refine CW.exit ?_ | refine CW.condT rfl ?_ | refine CW.condF rfl ?_)
            refine CW.quiet mixedP (by kernel_rfl) hs ?_
            refine QL.val rfl (fun w hs => run_move) ?_
            refine QL.val rfl (fun w hs => run_move) ?_
            first | refine QL.val rfl (fun w hs => run_ixSlN Try.underlying22 ty48 rfl rfl (by omega)) ?_ | refine QL.val rfl (fun w hs => run_ixSl Try.underlying22 ty48 rfl rfl (by omega)) ?_
            refine QL.val rfl (fun w hs => run_field (o' := 0) Try.underlying48 rfl ty9 rfl rfl rfl) ?_
            refine QL.val rfl (fun w hs => run_load1 ty9 rfl ((hax hs).cell (j := 0) rfl)) ?_
            refine QL.val rfl (fun w hs => run_field (o' := 0) Try.underlying48 rfl ty9 rfl rfl rfl) ?_
            first | refine QL.val rfl (fun w hs => run_load1 ty9 rfl (hs.c0 rfl)) ?_ | refine QL.val rfl (fun w hs => run_load1 ty9 rfl (hs.c1 rfl)) ?_ | refine QL.val rfl (fun w hs => run_load1 ty9 rfl (hs.c2 rfl)) ?_ | refine QL.val rfl (fun w hs => run_load1 ty9 rfl (hs.c3 rfl)) ?_ | refine QL.val rfl (fun w hs => run_load1 ty9 rfl (hs.c4 rfl)) ?_ | refine QL.val rfl (fun w hs => run_load1 ty9 rfl (hs.c5 rfl)) ?_ | refine QL.val rfl (fun w hs => run_load1 ty9 rfl (hs.c0 rfl)) ?_
            refine QL.val rfl (fun w hs => run_bF (run_strNe rfl rfl) (by simpa using hn)) ?_
            refine QL.nil (fun w hs => ?_)
            repeat (first | refine CW.seq ?_ | refine CW.block ?_ | refine CW.skip ?_ | refine CW.label ?_ | refine CW.exit ?_ | refine CW.condT rfl ?_ | refine CW.condF rfl ?_)
            refine CW.reg ?_
            refine WL.val rfl (run_move) ?_
            refine WL.val rfl (run_add (c := ((k + 1 : Nat) : Int)) rfl rfl (by omega) (by omega)) ?_
            refine WL.val rfl (run_assign) ?_
            refine WL.nil ?_
            repeat (first | refine CW.seq ?_ | refine CW.block ?_ | refine CW.skip ?_ | refine CW.label ?_ | refine CW.exit ?_)
            refine (show _ ∧ _ from ⟨rfl, _, ?_, k + 1, out2, _, _, _, by omega, rfl, hw, by omega, hoo2, hu2, hs, rfl, rfl, rfl, rfl, rfl, trivial⟩)
            omega
          · rw [if_pos hn, ← List.append_assoc] at hw
            repeat (first | refine CW.seq ?_ | refine CW.block ?_ | refine CW.skip ?_ | refine CW.label ?_ | refine CW.exit ?_ | refine CW.condT rfl ?_ | refine CW.condF rfl ?_)
            refine CW.quiet mixedP (by kernel_rfl) hs ?_
            refine QL.val rfl (fun w hs => run_move) ?_
            refine QL.val rfl (fun w hs => run_move) ?_
            first | refine QL.val rfl (fun w hs => run_ixSlN Try.underlying22 ty48 rfl rfl (by omega)) ?_ | refine QL.val rfl (fun w hs => run_ixSl Try.underlying22 ty48 rfl rfl (by omega)) ?_
            refine QL.val rfl (fun w hs => run_field (o' := 0) Try.underlying48 rfl ty9 rfl rfl rfl) ?_
            refine QL.val rfl (fun w hs => run_load1 ty9 rfl ((hax hs).cell (j := 0) rfl)) ?_
            refine QL.val rfl (fun w hs => run_field (o' := 0) Try.underlying48 rfl ty9 rfl rfl rfl) ?_
            first | refine QL.val rfl (fun w hs => run_load1 ty9 rfl (hs.c0 rfl)) ?_ | refine QL.val rfl (fun w hs => run_load1 ty9 rfl (hs.c1 rfl)) ?_ | refine QL.val rfl (fun w hs => run_load1 ty9 rfl (hs.c2 rfl)) ?_ | refine QL.val rfl (fun w hs => run_load1 ty9 rfl (hs.c3 rfl)) ?_ | refine QL.val rfl (fun w hs => run_load1 ty9 rfl (hs.c4 rfl)) ?_ | refine QL.val rfl (fun w hs => run_load1 ty9 rfl (hs.c5 rfl)) ?_ | refine QL.val rfl (fun w hs => run_load1 ty9 rfl (hs.c0 rfl)) ?_
            refine QL.val rfl (fun w hs => run_bT (run_strNe rfl rfl) (by exact hn)) ?_
            refine QL.nil (fun w hs => ?_)
            repeat (first | refine CW.seq ?_ | refine CW.block ?_ | refine CW.skip ?_ | refine CW.label ?_ | refine CW.exit ?_ | refine CW.condT rfl ?_ | refine CW.condF rfl ?_)
            refine CW.reg ?_
            refine WL.val rfl (run_move) ?_
            refine WL.val rfl (run_move) ?_
            refine WL.val rfl (run_move) ?_
            first | refine WL.val rfl (run_ixSlN Try.underlying22 ty48 rfl rfl (by omega)) ?_ | refine WL.val rfl (run_ixSl Try.underlying22 ty48 rfl rfl (by omega)) ?_
            refine WL.val rfl (run_loadN ty48 rfl hyl (hax hs)) ?_
            refine WL.buildSlice (cs := (l[k]).cells) Try.underlying22 ty48 rfl (by decide) rfl (filled1 hyl rfl) rfl hs (fun b44 w hs => ?_)
            have hsl : Sl w 34 (.slice (some ⟨b44, 0, none⟩) 1 1) 1 (l[k]).cells := .own1 hs (by rw [hyl])
            refine WL.append Try.underlying22 Try.underlying22 ty48 rfl (by decide) rfl rfl (hu2) ((Step.append_comm (L1 := [_, _]) hs)) (hsl) ((l[k]).cells1) (by first | omega | (simp only [List.length_append, List.length_cons, List.length_nil]; omega)) rfl (fun v45 Lv45 w hv45 hs => ?_)
            refine WL.val rfl (run_assign) ?_
            refine WL.nil ?_
            repeat (first | refine CW.seq ?_ | refine CW.block ?_ | refine CW.skip ?_ | refine CW.label ?_ | refine CW.exit ?_ | refine CW.condT rfl ?_ | refine CW.condF rfl ?_)
            refine CW.reg ?_
            refine WL.val rfl (run_move) ?_
            refine WL.val rfl (run_add (c := ((k + 1 : Nat) : Int)) rfl rfl (by omega) (by omega)) ?_
            refine WL.val rfl (run_assign) ?_
            refine WL.nil ?_
            repeat (first | refine CW.seq ?_ | refine CW.block ?_ | refine CW.skip ?_ | refine CW.label ?_ | refine CW.exit ?_)
            refine (show _ ∧ _ from ⟨rfl, _, ?_, k + 1, out2 ++ [l[k]], _, _, _, by omega, rfl, hw, by simp; omega, hoo2.append (Oks.one hok), ?_, Step.tail (Step.append_comm hs), rfl, rfl, rfl, rfl, rfl, trivial⟩)
            · omega
            · rw [List.length_append, rows_append, rows_one]
              exact hv45
        | false =>
          rw [if_pos ⟨rfl, hb⟩, hb, Bool.false_or, Bool.not_false, List.append_assoc, ← List.append_assoc] at hw
          repeat (first | refine CW.seq ?_ | refine CW.block ?_ | refine CW.skip ?_ | refine CW.label ?_ | refine CW.exit ?_ | refine CW.condT rfl ?_ | refine CW.condF rfl ?_)
          refine CW.quiet mixedP (by kernel_rfl) hs ?_
          refine QL.val rfl (fun w hs => run_move) ?_
          first | refine QL.val rfl (fun w hs => run_notB rfl) ?_ | refine QL.val rfl (fun w hs => run_not rfl) ?_
          refine QL.val rfl (fun w hs => run_move) ?_
          refine QL.yes rfl rfl rfl ?_
          refine QL.val rfl (fun w hs => run_field (o' := 0) Try.underlying48 rfl ty9 rfl rfl rfl) ?_
          refine QL.yes rfl rfl rfl ?_
          first | refine QL.val rfl (fun w hs => run_load1 ty9 rfl (hs.c0 rfl)) ?_ | refine QL.val rfl (fun w hs => run_load1 ty9 rfl (hs.c1 rfl)) ?_ | refine QL.val rfl (fun w hs => run_load1 ty9 rfl (hs.c2 rfl)) ?_ | refine QL.val rfl (fun w hs => run_load1 ty9 rfl (hs.c3 rfl)) ?_ | refine QL.val rfl (fun w hs => run_load1 ty9 rfl (hs.c4 rfl)) ?_ | refine QL.val rfl (fun w hs => run_load1 ty9 rfl (hs.c5 rfl)) ?_ | refine QL.val rfl (fun w hs => run_load1 ty9 rfl (hs.c0 rfl)) ?_
          refine QL.yes rfl rfl rfl ?_
          refine QL.val rfl (fun w hs => run_move) ?_
          refine QL.yes rfl rfl rfl ?_
          refine QL.val rfl (fun w hs => run_move) ?_
          refine QL.yes rfl rfl rfl ?_
          first | refine QL.val rfl (fun w hs => run_ixSlN Try.underlying22 ty48 rfl rfl (by omega)) ?_ | refine QL.val rfl (fun w hs => run_ixSl Try.underlying22 ty48 rfl rfl (by omega)) ?_
          refine QL.yes rfl rfl rfl ?_
          refine QL.val rfl (fun w hs => run_field (o' := 0) Try.underlying48 rfl ty9 rfl rfl rfl) ?_
          refine QL.yes rfl rfl rfl ?_
          refine QL.val rfl (fun w hs => run_load1 ty9 rfl ((hax hs).cell (j := 0) rfl)) ?_
          refine QL.yes rfl rfl rfl ?_
          refine QL.enter rfl (fun w => run_call en59 rfl rfl) (fun w hs => above_spec hb _ hx.2.2.2 hok.2.2.2) ?_
          refine QL.yes rfl rfl rfl ?_
          first | refine QL.val rfl (fun w hs => run_notB rfl) ?_ | refine QL.val rfl (fun w hs => run_not rfl) ?_
          first | refine QL.val rfl (fun w hs => run_pickT rfl) ?_ | refine QL.val rfl (fun w hs => run_pickF rfl) ?_
          refine QL.nil (fun w hs => ?_)
          repeat (first | refine CW.seq ?_ | refine CW.block ?_ | refine CW.skip ?_ | refine CW.label ?_ | refine CW.exit ?_ | refine CW.condT rfl ?_ | refine CW.condF rfl ?_)
          refine CW.reg ?_
          refine WL.val rfl (run_move) ?_
          refine WL.val rfl (run_loadN ty48 rfl hxl hs.a0) ?_
          refine WL.buildSlice (cs := x.cells) Try.underlying22 ty48 rfl (by decide) rfl (filled1 hxl rfl) rfl hs (fun b29 w hs => ?_)
          have hsl : Sl w 34 (.slice (some ⟨b29, 0, none⟩) 1 1) 1 x.cells := .own1 hs (by rw [hxl])
          refine WL.append Try.underlying22 Try.underlying22 ty48 rfl (by decide) rfl rfl (hu) ((Step.append_comm (L1 := [_, _]) hs)) (hsl) (x.cells1) (by first | omega | (simp only [List.length_append, List.length_cons, List.length_nil]; omega)) rfl (fun v30 Lv30 w hv30 hs => ?_)
          refine WL.val rfl (run_assign) ?_
          refine WL.nil ?_
          repeat (first | refine CW.seq ?_ | refine CW.block ?_ | refine CW.skip ?_ | refine CW.label ?_ | refine CW.exit ?_ | refine CW.condT rfl ?_ | refine CW.condF rfl ?_)
          refine CW.reg ?_
          refine WL.val rfl (run_assign) ?_
          refine WL.nil ?_
          have hs2 := Step.tail (Step.append_comm hs)
          have hs := hs2
          have hobt : ∃ out2, out2 = out ++ [x] := ⟨_, rfl⟩
          obtain ⟨out2, ho2⟩ := hobt
          have hoo2 : Oks out2 := by rw [ho2]; exact hoo.append (Oks.one hx)
          have hu2 : OwnSl 48 34 v30 out2.length (rows out2) Lv30 := by rw [ho2, List.length_append, rows_append, rows_one]; exact hv30
          have hol2 : out2.length ≤ 2 * k + 1 := by rw [ho2]; simp; omega
          rw [← ho2] at hw
          by_cases hn : (l[k]).name = x.name
          · rw [if_neg (by simpa using hn), List.nil_append] at hw
            repeat (first | refine CW.seq ?_ | refine CW.block ?_ | refine CW.skip ?_ | refine CW.label ?_ | refine CW.exit ?_ | refine CW.condT rfl ?_ | refine CW.condF rfl ?_)
            refine CW.quiet mixedP (by kernel_rfl) hs ?_
            refine QL.val rfl (fun w hs => run_move) ?_
            refine QL.val rfl (fun w hs => run_move) ?_
            first | refine QL.val rfl (fun w hs => run_ixSlN Try.underlying22 ty48 rfl rfl (by omega)) ?_ | refine QL.val rfl (fun w hs => run_ixSl Try.underlying22 ty48 rfl rfl (by omega)) ?_
            refine QL.val rfl (fun w hs => run_field (o' := 0) Try.underlying48 rfl ty9 rfl rfl rfl) ?_
            refine QL.val rfl (fun w hs => run_load1 ty9 rfl ((hax hs).cell (j := 0) rfl)) ?_
            refine QL.val rfl (fun w hs => run_field (o' := 0) Try.underlying48 rfl ty9 rfl rfl rfl) ?_
            first | refine QL.val rfl (fun w hs => run_load1 ty9 rfl (hs.c0 rfl)) ?_ | refine QL.val rfl (fun w hs => run_load1 ty9 rfl (hs.c1 rfl)) ?_ | refine QL.val rfl (fun w hs => run_load1 ty9 rfl (hs.c2 rfl)) ?_ | refine QL.val rfl (fun w hs => run_load1 ty9 rfl (hs.c3 rfl)) ?_ | refine QL.val rfl (fun w hs => run_load1 ty9 rfl (hs.c4 rfl)) ?_ | refine QL.val rfl (fun w hs => run_load1 ty9 rfl (hs.c5 rfl)) ?_ | refine QL.val rfl (fun w hs => run_load1 ty9 rfl (hs.c0 rfl)) ?_
            refine QL.val rfl (fun w hs => run_bF (run_strNe rfl rfl) (by simpa using hn)) ?_
            refine QL.nil (fun w hs => ?_)
            repeat (first | refine CW.seq ?_ | refine CW.block ?_ | refine CW.skip ?_ | refine CW.label ?_ | refine CW.exit ?_ | refine CW.condT rfl ?_ | refine CW.condF rfl ?_)
            refine CW.reg ?_
            refine WL.val rfl (run_move) ?_
            refine WL.val rfl (run_add (c := ((k + 1 : Nat) : Int)) rfl rfl (by omega) (by omega)) ?_
            refine WL.val rfl (run_assign) ?_
            refine WL.nil ?_
            repeat (first | refine CW.seq ?_ | refine CW.block ?_ | refine CW.skip ?_ | refine CW.label ?_ | refine CW.exit ?_)
            refine (show _ ∧ _ from ⟨rfl, _, ?_, k + 1, out2, _, _, _, by omega, rfl, hw, by omega, hoo2, hu2, hs, rfl, rfl, rfl, rfl, rfl, trivial⟩)
            omega
          · rw [if_pos hn, ← List.append_assoc] at hw
            repeat (first | refine CW.seq ?_ | refine CW.block ?_ | refine CW.skip ?_ | refine CW.label ?_ | refine CW.exit ?_ | refine CW.condT rfl ?_ | refine CW.condF rfl ?_)
            refine CW.quiet mixedP (by kernel_rfl) hs ?_
            refine QL.val rfl (fun w hs => run_move) ?_
            refine QL.val rfl (fun w hs => run_move) ?_
            first | refine QL.val rfl (fun w hs => run_ixSlN Try.underlying22 ty48 rfl rfl (by omega)) ?_ | refine QL.val rfl (fun w hs => run_ixSl Try.underlying22 ty48 rfl rfl (by omega)) ?_
            refine QL.val rfl (fun w hs => run_field (o' := 0) Try.underlying48 rfl ty9 rfl rfl rfl) ?_
            refine QL.val rfl (fun w hs => run_load1 ty9 rfl ((hax hs).cell (j := 0) rfl)) ?_
            refine QL.val rfl (fun w hs => run_field (o' := 0) Try.underlying48 rfl ty9 rfl rfl rfl) ?_
            first | refine QL.val rfl (fun w hs => run_load1 ty9 rfl (hs.c0 rfl)) ?_ | refine QL.val rfl (fun w hs => run_load1 ty9 rfl (hs.c1 rfl)) ?_ | refine QL.val rfl (fun w hs => run_load1 ty9 rfl (hs.c2 rfl)) ?_ | refine QL.val rfl (fun w hs => run_load1 ty9 rfl (hs.c3 rfl)) ?_ | refine QL.val rfl (fun w hs => run_load1 ty9 rfl (hs.c4 rfl)) ?_ | refine QL.val rfl (fun w hs => run_load1 ty9 rfl (hs.c5 rfl)) ?_ | refine QL.val rfl (fun w hs => run_load1 ty9 rfl (hs.c0 rfl)) ?_
            refine QL.val rfl (fun w hs => run_bT (run_strNe rfl rfl) (by exact hn)) ?_
            refine QL.nil (fun w hs => ?_)
            repeat (first | refine CW.seq ?_ | refine CW.block ?_ | refine CW.skip ?_ | refine CW.label ?_ | refine CW.exit ?_ | refine CW.condT rfl ?_ | refine CW.condF rfl ?_)
            refine CW.reg ?_
            refine WL.val rfl (run_move) ?_
            refine WL.val rfl (run_move) ?_
            refine WL.val rfl (run_move) ?_
            first | refine WL.val rfl (run_ixSlN Try.underlying22 ty48 rfl rfl (by omega)) ?_ | refine WL.val rfl (run_ixSl Try.underlying22 ty48 rfl rfl (by omega)) ?_
            refine WL.val rfl (run_loadN ty48 rfl hyl (hax hs)) ?_
            refine WL.buildSlice (cs := (l[k]).cells) Try.underlying22 ty48 rfl (by decide) rfl (filled1 hyl rfl) rfl hs (fun b44 w hs => ?_)
            have hsl : Sl w 34 (.slice (some ⟨b44, 0, none⟩) 1 1) 1 (l[k]).cells := .own1 hs (by rw [hyl])
            refine WL.append Try.underlying22 Try.underlying22 ty48 rfl (by decide) rfl rfl (hu2) ((Step.append_comm (L1 := [_, _]) hs)) (hsl) ((l[k]).cells1) (by first | omega | (simp only [List.length_append, List.length_cons, List.length_nil]; omega)) rfl (fun v45 Lv45 w hv45 hs => ?_)
            refine WL.val rfl (run_assign) ?_
            refine WL.nil ?_
            repeat (first | refine CW.seq ?_ | refine CW.block ?_ | refine CW.skip ?_ | refine CW.label ?_ | refine CW.exit ?_ | refine CW.condT rfl ?_ | refine CW.condF rfl ?_)
            refine CW.reg ?_
            refine WL.val rfl (run_move) ?_
            refine WL.val rfl (run_add (c := ((k + 1 : Nat) : Int)) rfl rfl (by omega) (by omega)) ?_
            refine WL.val rfl (run_assign) ?_
            refine WL.nil ?_
            repeat (first | refine CW.seq ?_ | refine CW.block ?_ | refine CW.skip ?_ | refine CW.label ?_ | refine CW.exit ?_)
            refine (show _ ∧ _ from ⟨rfl, _, ?_, k + 1, out2 ++ [l[k]], _, _, _, by omega, rfl, hw, by simp; omega, hoo2.append (Oks.one hok), ?_, Step.tail (Step.append_comm hs), rfl, rfl, rfl, rfl, rfl, trivial⟩)
            · omega
            · rw [List.length_append, rows_append, rows_one]
              exact hv45
    · obtain rfl : k = l.length := by omega
      rw [List.drop_length, withR] at hw
      cases put with
      | true =>
        rw [if_pos rfl, List.append_nil] at hw
        repeat (first | refine CW.seq ?_ | refine CW.block ?_ | refine CW.skip ?_ | refine CW.label ?_ | refine CW.exit ?_ | refine CW.condT rfl ?_ | refine CW.condF rfl ?_)
        refine CW.reg ?_
        refine WL.val rfl (run_move) ?_
        first | refine WL.val rfl (run_notB rfl) ?_ | refine WL.val rfl (run_not rfl) ?_
        refine WL.nil ?_
        repeat (first | refine CW.seq ?_ | refine CW.block ?_ | refine CW.skip ?_ | refine CW.label ?_ | refine CW.exit ?_ | refine CW.condT rfl ?_ | refine CW.condF rfl ?_)
        refine CW.reg ?_
        refine WL.val rfl (run_move) ?_
        refine WL.val rfl (run_assign) ?_
        refine WL.nil ?_
        repeat (first | refine CW.seq ?_ | refine CW.block ?_ | refine CW.skip ?_ | refine CW.label ?_ | refine CW.exit ?_ | refine CW.condT rfl ?_ | refine CW.condF rfl ?_)
        refine CW.ret ?_
        refine fin_ret1 rfl ?_
        rw [hw]
        exact ⟨u, Lu, rfl, hu, hoo, hs.tail⟩
      | false =>
        rw [if_neg (by simp)] at hw
        repeat (first | refine CW.seq ?_ | refine CW.block ?_ | refine CW.skip ?_ | refine CW.label ?_ | refine CW.exit ?_ | refine CW.condT rfl ?_ | refine CW.condF rfl ?_)
        refine CW.reg ?_
        refine WL.val rfl (run_move) ?_
        first | refine WL.val rfl (run_notB rfl) ?_ | refine WL.val rfl (run_not rfl) ?_
        refine WL.nil ?_
        repeat (first | refine CW.seq ?_ | refine CW.block ?_ | refine CW.skip ?_ | refine CW.label ?_ | refine CW.exit ?_ | refine CW.condT rfl ?_ | refine CW.condF rfl ?_)
        refine CW.reg ?_
        refine WL.val rfl (run_move) ?_
        refine WL.val rfl (run_loadN ty48 rfl hxl hs.a0) ?_
        refine WL.buildSlice (cs := x.cells) Try.underlying22 ty48 rfl (by decide) rfl (filled1 hxl rfl) rfl hs (fun b50 w hs => ?_)
        have hsl : Sl w 34 (.slice (some ⟨b50, 0, none⟩) 1 1) 1 x.cells := .own1 hs (by rw [hxl])
        refine WL.append Try.underlying22 Try.underlying22 ty48 rfl (by decide) rfl rfl (hu) ((Step.append_comm (L1 := [_, _]) hs)) (hsl) (x.cells1) (by first | omega | (simp only [List.length_append, List.length_cons, List.length_nil]; omega)) rfl (fun v51 Lv51 w hv51 hs => ?_)
        refine WL.val rfl (run_assign) ?_
        refine WL.nil ?_
        repeat (first | refine CW.seq ?_ | refine CW.block ?_ | refine CW.skip ?_ | refine CW.label ?_ | refine CW.exit ?_ | refine CW.condT rfl ?_ | refine CW.condF rfl ?_)
        refine CW.reg ?_
        refine WL.val rfl (run_move) ?_
        refine WL.val rfl (run_assign) ?_
        refine WL.nil ?_
        repeat (first | refine CW.seq ?_ | refine CW.block ?_ | refine CW.skip ?_ | refine CW.label ?_ | refine CW.exit ?_ | refine CW.condT rfl ?_ | refine CW.condF rfl ?_)
        refine CW.ret ?_
        refine fin_ret1 rfl ?_
        rw [hw]
        exact ⟨_, Lv51, rfl, by rw [List.length_append, rows_append, rows_one]; exact hv51, hoo.append (Oks.one hx), Step.dropR hs⟩
end Go.Gx
/-! Sl7 -/
namespace Go.Gx
set_option linter.unusedVariables false
set_option linter.unusedSimpArgs false

theorem errE_rising : ∀ (l : List Ent) (a : List UInt8), errE a l = 0 → (∀ x ∈ l, Op.bytesLess a x.name = true) ∧ Rising l
  | [], a, _ => ⟨fun x h => (by cases h), List.Pairwise.nil⟩
  | x :: l, a, h => by
    simp only [errE] at h
    split at h
    · rename_i hw
      have hobt := errE_rising l x.name h
      obtain ⟨h1, h2⟩ := hobt
      have hlt : Op.bytesLess a x.name = true := by
        unfold wrongE at hw
        split at hw
        · rename_i h3; exact h3.2.2
        · cases hw
      refine ⟨fun y hy => ?_, List.Pairwise.cons h1 h2⟩
      rcases List.mem_cons.1 hy with rfl | hy
      · exact hlt
      · exact bytesLess_trans hlt (h1 y hy)
    · rename_i hw; exact absurd h hw
theorem check_rising {l : List Ent} (h : checkE l = 0) : Rising l := (errE_rising l [] (check_parts h).2).2

/-- A rising list parted at i: what lies ahead is below n, what lies behind is not; of that only the first can be n. -/
structure Halves (l : List Ent) (n : List UInt8) (i : Nat) (A B : List Ent) : Prop where
  eq : l = A ++ B
  lenA : A.length = i
  ahead : ∀ y ∈ A, Op.bytesLess y.name n = true
  behind : ∀ y ∈ B, Op.bytesLess y.name n = false
  rest : ∀ y ∈ B.tail, y.name ≠ n

theorem halves {l : List Ent} {n : List UInt8} {i : Nat} (hr : Rising l) (hp : PartAt l n i) (hi : i ≤ l.length) : Halves l n i (l.take i) (l.drop i) := by
  refine ⟨(List.take_append_drop i l).symm, by simp; omega, fun y hy => ?_, fun y hy => ?_, fun y hy => ?_⟩
  · have hobt := List.mem_iff_getElem.1 hy
    obtain ⟨j, hj, rfl⟩ := hobt
    rw [List.getElem_take]
    simp at hj
    exact hp.1 j (by omega) (by omega)
  · have hobt := List.mem_iff_getElem.1 hy
    obtain ⟨j, hj, rfl⟩ := hobt
    rw [List.getElem_drop]
    simp at hj
    exact hp.2 (i + j) (by omega) (by omega)
  · rw [List.tail_drop] at hy
    have hobt := List.mem_iff_getElem.1 hy
    obtain ⟨j, hj, rfl⟩ := hobt
    rw [List.getElem_drop]
    simp at hj
    intro h
    have h1 := rising_lt hr (i := i) (j := i + 1 + j) (by omega) (by omega)
    rw [h] at h1
    rw [hp.2 i (by omega) (Nat.le_refl _)] at h1
    cases h1

section
variable {l A B : List Ent} {n : List UInt8} {i : Nat}
theorem Halves.ne (h : Halves l n i A B) : ∀ y ∈ A, y.name ≠ n := fun y hy he => by
  have := h.ahead y hy
  rw [he, bytesLess_irrefl] at this
  cases this
theorem Halves.at_ (h : Halves l n i A B) : l[i]? = B.head? := by
  rw [h.eq, List.getElem?_append_right (by rw [h.lenA]; exact Nat.le_refl _), h.lenA, Nat.sub_self, List.head?_eq_getElem?]
theorem Halves.take (h : Halves l n i A B) : l.take i = A := by rw [h.eq, ← h.lenA, List.take_left]
theorem Halves.drop (h : Halves l n i A B) : l.drop i = B := by rw [h.eq, ← h.lenA, List.drop_left]
theorem Halves.drop1 (h : Halves l n i A B) : l.drop (i + 1) = B.tail := by rw [← List.tail_drop, h.drop]
end

theorem remR_all {n : List UInt8} {B : List Ent} (h : ∀ y ∈ B, y.name ≠ n) : remR n B = B := List.filter_eq_self.2 fun y hy => by simpa using h y hy
theorem findR_all {n : List UInt8} : ∀ {B : List Ent}, (∀ y ∈ B, y.name ≠ n) → findR n B = (zE, false)
  | [], _ => rfl
  | y :: B, h => by
    rw [findR, if_neg (h y (by simp))]
    exact findR_all fun z hz => h z (by simp [hz])
theorem findR_append {n : List UInt8} {B : List Ent} : ∀ {A : List Ent}, (∀ y ∈ A, y.name ≠ n) → findR n (A ++ B) = findR n B
  | [], _ => rfl
  | y :: A, h => by
    rw [List.cons_append, findR, if_neg (h y (by simp))]
    exact findR_append fun z hz => h z (by simp [hz])
theorem withR_true {x : Ent} : ∀ {B : List Ent}, (∀ y ∈ B, y.name ≠ x.name) → withR x true B = B
  | [], _ => rfl
  | y :: B, h => by
    rw [withR, if_neg (by simp), if_pos (h y (by simp)), Bool.true_or, withR_true fun z hz => h z (by simp [hz])]
    rfl
theorem withR_ahead {x : Ent} {B : List Ent} : ∀ {A : List Ent}, (∀ y ∈ A, Op.bytesLess y.name x.name = true) → withR x false (A ++ B) = A ++ withR x false B
  | [], _ => rfl
  | y :: A, h => by
    have hy := h y (by simp)
    have hne : y.name ≠ x.name := fun he => by rw [he, bytesLess_irrefl] at hy; cases hy
    rw [List.cons_append, withR, if_neg (by simp [hy]), if_pos hne, hy, Bool.not_true, Bool.false_or, withR_ahead fun z hz => h z (by simp [hz])]
    rfl

section
variable {l A B : List Ent} {n : List UInt8} {i : Nat}
theorem lessP_eq (h : Halves l n i A B) : lessP l n i = remR n l := by
  have hat := h.at_
  have e : remR n l = A ++ remR n B := by rw [h.eq, remR, List.filter_append]; exact congrArg (· ++ _) (remR_all h.ne)
  rw [e]
  unfold lessP At? del
  rw [hat, h.take, h.drop1]
  cases B with
  | nil => simp [h.eq, remR]
  | cons y B =>
    have hr := h.rest
    simp only [List.tail_cons] at hr
    have er : remR n (y :: B) = if y.name = n then B else y :: B := by
      rw [remR, List.filter_cons]
      have := remR_all hr
      unfold remR at this
      rw [this]
      by_cases hn : y.name = n <;> simp [hn]
    rw [er]
    by_cases hn : y.name = n
    · simp [hn]
    · simp [hn, h.eq]
theorem findP_eq (h : Halves l n i A B) : (findP l n i, At? l n i) = findR n l := by
  have hat := h.at_
  have e : findR n l = findR n B := by rw [h.eq]; exact findR_append h.ne
  rw [e]
  unfold findP At?
  rw [List.getD_eq_getElem?_getD, hat]
  cases B with
  | nil => rfl
  | cons y B =>
    have hr := h.rest
    simp only [List.tail_cons] at hr
    rw [findR]
    by_cases hn : y.name = n
    · simp [hn]
    · rw [if_neg hn, findR_all hr]
      simp [hn]
theorem withP_eq {x : Ent} (h : Halves l x.name i A B) (hi : i ≤ l.length) : withP l x i = withR x false l := by
  have hat := h.at_
  have e : withR x false l = A ++ withR x false B := by rw [h.eq]; exact withR_ahead h.ahead
  rw [e]
  unfold withP At? ins
  rw [hat, List.set_eq_take_append_cons_drop, h.take, h.drop, h.drop1]
  cases B with
  | nil => simp [withR]
  | cons y B =>
    have hr := h.rest
    have hb := h.behind y (by simp)
    simp only [List.tail_cons] at hr
    have hlt : i < l.length := by
      have := congrArg List.length h.eq
      rw [List.length_append, h.lenA] at this
      simp at this
      omega
    rw [withR, if_pos (⟨rfl, hb⟩ : false = false ∧ Op.bytesLess y.name x.name = false), hb, Bool.not_false, Bool.or_true, withR_true hr]
    by_cases hn : y.name = x.name
    · simp [hn, hlt]
    · simp [hn]
end
end Go.Gx
/-! Edits -/
namespace Go.Gx
open Go.Proofs
set_option linter.unusedVariables false
set_option linter.unusedSimpArgs false
set_option maxRecDepth 100000
attribute [local irreducible] decE decL readP decP encB checkE

theorem withR_ok {x : Ent} (hx : x.ok) : ∀ {l : List Ent} {p : Bool}, Oks l → Oks (withR x p l)
  | [], p, h => by
    rw [withR]
    split
    · exact Oks.nil
    · exact Oks.one hx
  | y :: l, p, h => by
    rw [withR]
    refine Oks.append (Oks.append ?_ ?_) (withR_ok hx fun z hz => h z (by simp [hz]))
    · split
      · exact Oks.one hx
      · exact Oks.nil
    · split
      · exact Oks.one (h y (by simp))
      · exact Oks.nil
theorem withR_len {x : Ent} : ∀ {l : List Ent} {p : Bool}, (withR x p l).length ≤ 2 * l.length + 1
  | [], p => by
    rw [withR]
    split <;> simp
  | y :: l, p => by
    rw [withR]
    have := withR_len (x := x) (l := l) (p := p || !Op.bytesLess y.name x.name)
    simp only [List.length_append, List.length_cons]
    split <;> split <;> simp <;> omega
theorem remR_len (n : List UInt8) (l : List Ent) : (remR n l).length ≤ l.length := List.length_filter_le _ _
theorem findR_ok {n : List UInt8} : ∀ {l : List Ent}, Oks l → (findR n l).1.ok
  | [], _ => show zE.ok from ⟨rfl, by decide, by decide, by decide⟩
  | y :: l, h => by
    rw [findR]
    split
    · exact h y (by simp)
    · exact findR_ok fun z hz => h z (by simp [hz])

theorem run_neqBs {P : Program} {f : Slots} {w : World} {d : Option Tmp} {ty : TypeId} {pos : String} {af : Array Edge} {x y : Operand} {T T' : TypeId} {a : Bool} (hT : P.underlying T = some .bool) (hx : ev f x = .bool a) (hy : ev f y = .bool a) : (execOp (ev f) ⟨d, .binOp .neq T x y T', ty, pos, af, none⟩).run P w = .ok (.value (.bool false)) w := by
  rw [run_neqB hT hx hy]
  cases a <;> rfl
theorem es_one {S : List Nat} {L : List (Nat × Obj)} {w0 w : World} {b : Nat} {x : Ent} (hs : Step S ((b, blk 48 x.cells) :: L) w0 w) (hx : x.ok) : Es w (.slice (some ⟨b, 0, none⟩) 1 1) [x] := by
  refine ⟨?_, Oks.one hx, by simp⟩
  rw [rows_one]
  exact .own1 hs (by rw [Ent.cells_len hx])
theorem lessS_spec {v : Value} {l : List Ent} {n : List UInt8} (w0 : World) (hl : Es w0 v l) (hc : Rising l) (hbb : l.length ≤ 1000000) :
    Calls Try.prog 24 #[v, str n] w0 fun e w' => ∃ u Lu, e = .returned u ∧ OwnSl 48 34 u (remR n l).length (rows (remR n l)) Lu ∧ Step [] Lu w0 w' :=
  (lessE_spec w0 hl hbb).mono fun e w' ⟨i, u, Lu, h1, h2, h3, h4, h5⟩ => by
    rw [lessP_eq (halves hc (h3 hc) h2)] at h4
    exact ⟨u, Lu, h1, h4, h5⟩
theorem withS_spec {v : Value} {l : List Ent} {x : Ent} (w0 : World) (hl : Es w0 v l) (hc : Rising l) (hbb : l.length ≤ 1000000) (hx : x.ok) :
    Calls Try.prog 28 #[v, .agg x.cells.toArray] w0 fun e w' => ∃ u Lu, e = .returned u ∧ OwnSl 48 34 u (withR x false l).length (rows (withR x false l)) Lu ∧ Step [] Lu w0 w' :=
  (withE_spec w0 hl hbb hx).mono fun e w' ⟨i, u, Lu, h1, h2, h3, h4, h5⟩ => by
    rw [withP_eq (halves hc (h3 hc) h2) h2] at h4
    exact ⟨u, Lu, h1, h4, h5⟩
theorem findS_spec {v : Value} {l : List Ent} {n : List UInt8} (w0 : World) (hl : Es w0 v l) (hc : Rising l) (hbb : l.length ≤ 1000000) :
    Calls Try.prog 26 #[v, str n] w0 fun e w' => e = .returned (.tuple #[.agg (findR n l).1.cells.toArray, .bool (findR n l).2]) ∧ Step [] [] w0 w' :=
  (findE_spec w0 hl hbb).mono fun e w' ⟨i, h1, h2, h3, h4⟩ => by
    have h := findP_eq (halves hc (h3 hc) h2)
    rw [← h]
    exact ⟨h1, h4⟩

set_option maxHeartbeats 1600000 in
theorem edits_spec {v : Value} {l : List Ent} {x : Ent} {n : List UInt8} (w0 : World) (hl : Es w0 v l) (hcap : Room v) (hx : x.ok) : Calls Try.prog 7 #[v, .agg x.cells.toArray, str n] w0 fun e w' => e = .returned (.bool true) ∧ Step [] [] w0 w' := by
  have hs : Step [] [] w0 w0 := Step.refl w0
  have hxl := Ent.cells_len hx
  have hobt := hl.2
  obtain ⟨ho, hb⟩ := hobt
  by_cases hc : checkE l = 0
  · have hl1024 := (check_parts hc).1
    have hris := check_rising hc
    have hrl := remR_len n l
    have hwl := withR_len (x := x) (l := l) (p := false)
    have hro := remR_ok n ho
    have hwo := withR_ok (p := false) hx ho
    have hfo := findR_ok (n := n) ho
    have hfl := Ent.cells_len hfo
    refine calls (n := 83) Try.func7 rfl rfl rfl ?_
    repeat (first | refine CW.seq ?_ | refine CW.block ?_ | refine CW.skip ?_ | refine CW.label ?_ | refine CW.exit ?_ | refine CW.condT rfl ?_ | refine CW.condF rfl ?_)
    refine CW.reg ?_
    refine WL.box (cs := x.cells) rfl rfl rfl hs (fun b4 w hs => ?_)
    refine WL.val rfl (run_assign) ?_
    refine WL.nil ?_
    repeat (first | refine CW.seq ?_ | refine CW.block ?_ | refine CW.skip ?_ | refine CW.label ?_ | refine CW.exit ?_ | refine CW.condT rfl ?_ | refine CW.condF rfl ?_)
    refine CW.reg ?_
    refine WL.enter rfl (run_call en11 rfl rfl) (known_spec _) ?_
    rintro e w ⟨rfl, hq⟩
    refine ⟨_, rfl, ?_⟩
    replace hs := hs.callE hq
    first | refine WL.val rfl (run_notB rfl) ?_ | refine WL.val rfl (run_not rfl) ?_
    refine WL.nil ?_
    repeat (first | refine CW.seq ?_ | refine CW.block ?_ | refine CW.skip ?_ | refine CW.label ?_ | refine CW.exit ?_ | refine CW.condT rfl ?_ | refine CW.condF rfl ?_)
    refine CW.reg ?_
    refine WL.val rfl (run_move) ?_
    refine WL.enter rfl (run_call en14 rfl rfl) (checkR_spec hc _ (hl.step0 hs.clear) hcap) ?_
    rintro e w ⟨rfl, hq⟩
    refine ⟨_, rfl, ?_⟩
    replace hs := hs.callE hq
    refine WL.val rfl (run_bF (run_neq rfl rfl) (by decide)) ?_
    refine WL.nil ?_
    repeat (first | refine CW.seq ?_ | refine CW.block ?_ | refine CW.skip ?_ | refine CW.label ?_ | refine CW.exit ?_ | refine CW.condT rfl ?_ | refine CW.condF rfl ?_)
    refine CW.reg ?_
    refine WL.val rfl (run_move) ?_
    refine WL.enter rfl (run_call en12 rfl rfl) (lend_spec _ (hl.step0 hs.clear) (by omega)) ?_
    rintro e w ⟨b20, rfl, hq⟩
    refine ⟨_, rfl, ?_⟩
    replace hs := hs.call0 hq
    refine WL.val rfl (run_assign) ?_
    refine WL.nil ?_
    repeat (first | refine CW.seq ?_ | refine CW.block ?_ | refine CW.skip ?_ | refine CW.label ?_ | refine CW.exit ?_ | refine CW.condT rfl ?_ | refine CW.condF rfl ?_)
    refine CW.reg ?_
    refine WL.val rfl (run_move) ?_
    refine WL.val rfl (run_move) ?_
    refine WL.enter rfl (run_call en24 rfl rfl) (lessS_spec (l := l) (n := n) _ (lent_es hs ho hb) hris (by omega)) ?_
    rintro e w ⟨u, Lu, rfl, hu, hq⟩
    refine ⟨_, rfl, ?_⟩
    replace hs := (hs.call0 hq).append_comm
    refine WL.val rfl (run_assign) ?_
    refine WL.nil ?_
    replace hs : Step [] ([(b20, LendB b20 l), (b4, blk 48 x.cells)] ++ Lu) w0 w := hs
    repeat (first | refine CW.seq ?_ | refine CW.block ?_ | refine CW.skip ?_ | refine CW.label ?_ | refine CW.exit ?_ | refine CW.condT rfl ?_ | refine CW.condF rfl ?_)
    refine CW.reg ?_
    refine WL.val rfl (run_move) ?_
    refine WL.val rfl (run_move) ?_
    refine WL.enter rfl (run_call en15 rfl rfl) (kept_spec _ (hl.step0 hs.clear) (by omega) (Step.hd (L := (b4, blk 48 x.cells) :: Lu) hs)) ?_
    rintro e w ⟨rfl, hq⟩
    refine ⟨_, rfl, ?_⟩
    replace hs : Step [] ((b4, blk 48 x.cells) :: Lu) w0 w := Step.call (L1 := [_]) (L := (b4, blk 48 x.cells) :: Lu) (L' := []) hs hq
    first | refine WL.val rfl (run_notB rfl) ?_ | refine WL.val rfl (run_not rfl) ?_
    refine WL.val rfl (run_move) ?_
    refine WL.yes rfl rfl rfl ?_
    refine WL.val rfl (run_move) ?_
    refine WL.yes rfl rfl rfl ?_
    refine WL.val rfl (run_move) ?_
    refine WL.yes rfl rfl rfl ?_
    refine WL.val rfl (run_move) ?_
    refine WL.yes rfl rfl rfl ?_
    refine WL.enter rfl (run_call en25 rfl rfl) (lessR_spec (l := l) (n := n) _ (hl.step0 hs.clear) (by omega)) ?_
    rintro e w ⟨u2, Lu2, rfl, hu2, hq⟩
    refine ⟨_, rfl, ?_⟩
    replace hs := (hs.call0 hq).append_comm
    refine WL.yes rfl rfl rfl ?_
    refine WL.enter rfl (run_call en22 rfl rfl) (same_true rfl _ (hu.es hro (by omega) (Step.dropL (L1 := [_]) (L2 := Lu ++ Lu2) hs)) (hu2.es hro (by omega) hs.append_comm)) ?_
    rintro e w ⟨rfl, hq⟩
    refine ⟨_, rfl, ?_⟩
    replace hs := hs.callE hq
    refine WL.yes rfl rfl rfl ?_
    first | refine WL.val rfl (run_notB rfl) ?_ | refine WL.val rfl (run_not rfl) ?_
    first | refine WL.val rfl (run_pickT rfl) ?_ | refine WL.val rfl (run_pickF rfl) ?_
    refine WL.nil ?_
    replace hs : Step [] [(b4, blk 48 x.cells)] w0 w := Step.dropR (L1 := [_]) (Step.dropR (L1 := _ :: Lu) hs)
    repeat (first | refine CW.seq ?_ | refine CW.block ?_ | refine CW.skip ?_ | refine CW.label ?_ | refine CW.exit ?_ | refine CW.condT rfl ?_ | refine CW.condF rfl ?_)
    refine CW.reg ?_
    refine WL.val rfl (run_move) ?_
    refine WL.enter rfl (run_call en12 rfl rfl) (lend_spec _ (hl.step0 hs.clear) (by omega)) ?_
    rintro e w ⟨b37, rfl, hq⟩
    refine ⟨_, rfl, ?_⟩
    replace hs := hs.call0 hq
    refine WL.val rfl (run_assign) ?_
    refine WL.nil ?_
    replace hs : Step [] [(b37, LendB b37 l), (b4, blk 48 x.cells)] w0 w := hs
    repeat (first | refine CW.seq ?_ | refine CW.block ?_ | refine CW.skip ?_ | refine CW.label ?_ | refine CW.exit ?_ | refine CW.condT rfl ?_ | refine CW.condF rfl ?_)
    refine CW.reg ?_
    refine WL.val rfl (run_move) ?_
    refine WL.val rfl (run_move) ?_
    refine WL.enter rfl (run_call en26 rfl rfl) (findS_spec (l := l) (n := n) _ (lent_es hs ho hb) hris (by omega)) ?_
    rintro e w ⟨rfl, hq⟩
    refine ⟨_, rfl, ?_⟩
    replace hs := hs.callE hq
    refine WL.val rfl (run_move) ?_
    refine WL.val rfl (run_extract rfl rfl) ?_
    refine WL.val rfl (run_extract rfl rfl) ?_
    refine WL.alloc ty48 rfl hs (fun b9 w hs => ?_)
    first | refine WL.storeAll ty48 rfl rfl ((hfl)) (Ent.cells1 _) hs (by first | rfl | assumption) (fun w hs => ?_) | refine WL.storeAll_1 ty48 rfl rfl ((hfl)) (Ent.cells1 _) hs (by first | rfl | assumption) (fun w hs => ?_) | refine WL.storeAll_2 ty48 rfl rfl ((hfl)) (Ent.cells1 _) hs (by first | rfl | assumption) (fun w hs => ?_) | refine WL.storeAll_3 ty48 rfl rfl ((hfl)) (Ent.cells1 _) hs (by first | rfl | assumption) (fun w hs => ?_) | refine WL.storeAll_4 ty48 rfl rfl ((hfl)) (Ent.cells1 _) hs (by first | rfl | assumption) (fun w hs => ?_) | refine WL.storeAll ty48 rfl rfl ((hfl)) (Ent.cells1 _) hs (by first | rfl | assumption) (fun w hs => ?_)
    refine WL.val rfl (run_assign) ?_
    refine WL.nil ?_
    repeat (first | refine CW.seq ?_ | refine CW.block ?_ | refine CW.skip ?_ | refine CW.label ?_ | refine CW.exit ?_ | refine CW.condT rfl ?_ | refine CW.condF rfl ?_)
    refine CW.reg ?_
    refine WL.val rfl (run_move) ?_
    refine WL.val rfl (run_move) ?_
    refine WL.enter rfl (run_call en27 rfl rfl) (findR_spec (l := l) (n := n) _ (hl.step0 hs.clear)) ?_
    rintro e w ⟨rfl, hq⟩
    refine ⟨_, rfl, ?_⟩
    replace hs := hs.callE hq
    refine WL.val rfl (run_move) ?_
    refine WL.val rfl (run_extract rfl rfl) ?_
    refine WL.val rfl (run_extract rfl rfl) ?_
    refine WL.alloc ty48 rfl hs (fun b11 w hs => ?_)
    first | refine WL.storeAll ty48 rfl rfl ((hfl)) (Ent.cells1 _) hs (by first | rfl | assumption) (fun w hs => ?_) | refine WL.storeAll_1 ty48 rfl rfl ((hfl)) (Ent.cells1 _) hs (by first | rfl | assumption) (fun w hs => ?_) | refine WL.storeAll_2 ty48 rfl rfl ((hfl)) (Ent.cells1 _) hs (by first | rfl | assumption) (fun w hs => ?_) | refine WL.storeAll_3 ty48 rfl rfl ((hfl)) (Ent.cells1 _) hs (by first | rfl | assumption) (fun w hs => ?_) | refine WL.storeAll_4 ty48 rfl rfl ((hfl)) (Ent.cells1 _) hs (by first | rfl | assumption) (fun w hs => ?_) | refine WL.storeAll ty48 rfl rfl ((hfl)) (Ent.cells1 _) hs (by first | rfl | assumption) (fun w hs => ?_)
    refine WL.val rfl (run_assign) ?_
    refine WL.nil ?_
    replace hs : Step [] [(b37, LendB b37 l), (b9, blk 48 (findR n l).1.cells), (b11, blk 48 (findR n l).1.cells), (b4, blk 48 x.cells)] w0 w := (hs.front [_, _]).perm (List.Perm.cons _ (List.Perm.swap _ _ _))
    repeat (first | refine CW.seq ?_ | refine CW.block ?_ | refine CW.skip ?_ | refine CW.label ?_ | refine CW.exit ?_ | refine CW.condT rfl ?_ | refine CW.condF rfl ?_)
    refine CW.reg ?_
    refine WL.val rfl (run_move) ?_
    refine WL.val rfl (run_move) ?_
    refine WL.enter rfl (run_call en15 rfl rfl) (kept_spec _ (hl.step0 hs.clear) (by omega) (Step.hd hs)) ?_
    rintro e w ⟨rfl, hq⟩
    refine ⟨_, rfl, ?_⟩
    replace hs : Step [] [(b9, blk 48 (findR n l).1.cells), (b11, blk 48 (findR n l).1.cells), (b4, blk 48 x.cells)] w0 w := Step.call (L1 := [_]) (L' := []) hs hq
    first | refine WL.val rfl (run_notB rfl) ?_ | refine WL.val rfl (run_not rfl) ?_
    refine WL.val rfl (run_move) ?_
    refine WL.yes rfl rfl rfl ?_
    refine WL.val rfl (run_move) ?_
    refine WL.yes rfl rfl rfl ?_
    refine WL.val rfl (run_move) ?_
    refine WL.yes rfl rfl rfl ?_
    refine WL.val rfl (run_neqBs Try.underlying4 rfl rfl) ?_
    first | refine WL.val rfl (run_pickT rfl) ?_ | refine WL.val rfl (run_pickF rfl) ?_
    refine WL.val rfl (run_move) ?_
    refine WL.yes rfl rfl rfl ?_
    first | refine WL.val rfl (run_loadN ty48 rfl (by first | rfl | assumption | (simp; done)) hs.a0) ?_ | refine WL.val rfl (run_loadN ty48 rfl (by first | rfl | assumption | (simp; done)) hs.a1) ?_ | refine WL.val rfl (run_loadN ty48 rfl (by first | rfl | assumption | (simp; done)) hs.a2) ?_ | refine WL.val rfl (run_loadN ty48 rfl (by first | rfl | assumption | (simp; done)) hs.a3) ?_ | refine WL.val rfl (run_loadN ty48 rfl (by first | rfl | assumption | (simp; done)) hs.a4) ?_ | refine WL.val rfl (run_loadN ty48 rfl (by first | rfl | assumption | (simp; done)) hs.a5) ?_ | refine WL.val rfl (run_loadN ty48 rfl (by first | rfl | assumption | (simp; done)) hs.a0) ?_
    refine WL.yes rfl rfl rfl ?_
    first | refine WL.val rfl (run_loadN ty48 rfl (by first | rfl | assumption | (simp; done)) hs.a0) ?_ | refine WL.val rfl (run_loadN ty48 rfl (by first | rfl | assumption | (simp; done)) hs.a1) ?_ | refine WL.val rfl (run_loadN ty48 rfl (by first | rfl | assumption | (simp; done)) hs.a2) ?_ | refine WL.val rfl (run_loadN ty48 rfl (by first | rfl | assumption | (simp; done)) hs.a3) ?_ | refine WL.val rfl (run_loadN ty48 rfl (by first | rfl | assumption | (simp; done)) hs.a4) ?_ | refine WL.val rfl (run_loadN ty48 rfl (by first | rfl | assumption | (simp; done)) hs.a5) ?_ | refine WL.val rfl (run_loadN ty48 rfl (by first | rfl | assumption | (simp; done)) hs.a0) ?_
    refine WL.yes rfl rfl rfl ?_
    refine WL.val rfl (run_bF (run_neqAgg Ent.lits_iff ent_key (ent_formed hfo) (ent_formed hfo) ent_guard rfl rfl (lits_ent hfo) (lits_ent hfo)) (by simp)) ?_
    first | refine WL.val rfl (run_pickT rfl) ?_ | refine WL.val rfl (run_pickF rfl) ?_
    refine WL.nil ?_
    replace hs : Step [] [(b4, blk 48 x.cells)] w0 w := Step.dropL (L1 := [_, _]) hs
    by_cases hcx : checkE [x] = 0
    · repeat (first | refine CW.seq ?_ | refine CW.block ?_ | refine CW.skip ?_ | refine CW.label ?_ | refine CW.exit ?_ | refine CW.condT rfl ?_ | refine CW.condF rfl ?_)
      refine CW.reg ?_
      refine WL.val rfl (run_loadN ty48 rfl hxl hs.a0) ?_
      refine WL.buildSlice (cs := x.cells) Try.underlying22 ty48 rfl (by decide) rfl (filled1 hxl rfl) rfl hs (fun b65 w hs => ?_)
      refine WL.enter rfl (run_call en14 rfl rfl) (checkR_spec (l := [x]) hcx _ (es_one hs hx) (Nat.le_refl 1)) ?_
      rintro e w ⟨rfl, hq⟩
      refine ⟨_, rfl, ?_⟩
      replace hs := (hs.callE hq).tail
      refine WL.val rfl (run_bF (run_neq rfl rfl) (by decide)) ?_
      refine WL.nil ?_
      repeat (first | refine CW.seq ?_ | refine CW.block ?_ | refine CW.skip ?_ | refine CW.label ?_ | refine CW.exit ?_ | refine CW.condT rfl ?_ | refine CW.condF rfl ?_)
      refine CW.reg ?_
      refine WL.val rfl (run_move) ?_
      refine WL.enter rfl (run_call en12 rfl rfl) (lend_spec _ (hl.step0 hs.clear) (by omega)) ?_
      rintro e w ⟨b69, rfl, hq⟩
      refine ⟨_, rfl, ?_⟩
      replace hs := hs.call0 hq
      refine WL.val rfl (run_assign) ?_
      refine WL.nil ?_
      replace hs : Step [] [(b69, LendB b69 l), (b4, blk 48 x.cells)] w0 w := hs
      repeat (first | refine CW.seq ?_ | refine CW.block ?_ | refine CW.skip ?_ | refine CW.label ?_ | refine CW.exit ?_ | refine CW.condT rfl ?_ | refine CW.condF rfl ?_)
      refine CW.reg ?_
      refine WL.val rfl (run_move) ?_
      refine WL.val rfl (run_loadN ty48 rfl hxl hs.a1) ?_
      refine WL.enter rfl (run_call en28 rfl rfl) (withS_spec (l := l) (x := x) _ (lent_es hs ho hb) hris (by omega) hx) ?_
      rintro e w ⟨u3, Lu3, rfl, hu3, hq⟩
      refine ⟨_, rfl, ?_⟩
      replace hs := (hs.call0 hq).append_comm
      refine WL.val rfl (run_assign) ?_
      refine WL.nil ?_
      replace hs : Step [] ([(b69, LendB b69 l), (b4, blk 48 x.cells)] ++ Lu3) w0 w := hs
      repeat (first | refine CW.seq ?_ | refine CW.block ?_ | refine CW.skip ?_ | refine CW.label ?_ | refine CW.exit ?_ | refine CW.condT rfl ?_ | refine CW.condF rfl ?_)
      refine CW.reg ?_
      refine WL.val rfl (run_move) ?_
      refine WL.val rfl (run_move) ?_
      refine WL.enter rfl (run_call en15 rfl rfl) (kept_spec _ (hl.step0 hs.clear) (by omega) (Step.hd (L := (b4, blk 48 x.cells) :: Lu3) hs)) ?_
      rintro e w ⟨rfl, hq⟩
      refine ⟨_, rfl, ?_⟩
      replace hs : Step [] ((b4, blk 48 x.cells) :: Lu3) w0 w := Step.call (L1 := [_]) (L := (b4, blk 48 x.cells) :: Lu3) (L' := []) hs hq
      refine WL.val rfl (run_move) ?_
      refine WL.yes rfl rfl rfl ?_
      refine WL.val rfl (run_move) ?_
      refine WL.yes rfl rfl rfl ?_
      refine WL.val rfl (run_move) ?_
      refine WL.yes rfl rfl rfl ?_
      refine WL.val rfl (run_loadN ty48 rfl hxl hs.a0) ?_
      refine WL.yes rfl rfl rfl ?_
      refine WL.enter rfl (run_call en29 rfl rfl) (withR_spec (l := l) (x := x) _ (hl.step0 hs.clear) (by omega) hx) ?_
      rintro e w ⟨u4, Lu4, rfl, hu4, hwo4, hq⟩
      refine ⟨_, rfl, ?_⟩
      replace hs := (hs.call0 hq).append_comm
      refine WL.yes rfl rfl rfl ?_
      refine WL.enter rfl (run_call en22 rfl rfl) (same_true rfl _ (hu3.es hwo (by omega) (Step.dropL (L1 := [_]) (L2 := Lu3 ++ Lu4) hs)) (hu4.es hwo (by omega) hs.append_comm)) ?_
      rintro e w ⟨rfl, hq⟩
      refine ⟨_, rfl, ?_⟩
      replace hs := hs.callE hq
      first | refine WL.val rfl (run_pickT rfl) ?_ | refine WL.val rfl (run_pickF rfl) ?_
      refine WL.val rfl (run_assign) ?_
      refine WL.nil ?_
      repeat (first | refine CW.seq ?_ | refine CW.block ?_ | refine CW.skip ?_ | refine CW.label ?_ | refine CW.exit ?_ | refine CW.condT rfl ?_ | refine CW.condF rfl ?_)
      refine CW.ret ?_
      refine fin_ret1 rfl ?_
      exact ⟨rfl, hs.clear⟩
    · repeat (first | refine CW.seq ?_ | refine CW.block ?_ | refine CW.skip ?_ | refine CW.label ?_ | refine CW.exit ?_ | refine CW.condT rfl ?_ | refine CW.condF rfl ?_)
      refine CW.reg ?_
      refine WL.val rfl (run_loadN ty48 rfl hxl hs.a0) ?_
      refine WL.buildSlice (cs := x.cells) Try.underlying22 ty48 rfl (by decide) rfl (filled1 hxl rfl) rfl hs (fun b65 w hs => ?_)
      refine WL.enter rfl (run_call en14 rfl rfl) (checkR_spec (l := [x]) rfl _ (es_one hs hx) (Nat.le_refl 1)) ?_
      rintro e w ⟨rfl, hq⟩
      refine ⟨_, rfl, ?_⟩
      replace hs := (hs.callE hq).tail
      refine WL.val rfl (run_bT (run_neq rfl rfl) (by exact hcx)) ?_
      refine WL.nil ?_
      repeat (first | refine CW.seq ?_ | refine CW.block ?_ | refine CW.skip ?_ | refine CW.label ?_ | refine CW.exit ?_ | refine CW.condT rfl ?_ | refine CW.condF rfl ?_)
      refine CW.reg ?_
      refine WL.val rfl (run_assign) ?_
      refine WL.nil ?_
      repeat (first | refine CW.seq ?_ | refine CW.block ?_ | refine CW.skip ?_ | refine CW.label ?_ | refine CW.exit ?_ | refine CW.condT rfl ?_ | refine CW.condF rfl ?_)
      refine CW.ret ?_
      refine fin_ret1 rfl ?_
      exact ⟨rfl, hs.clear⟩
  · refine calls (n := 83) Try.func7 rfl rfl rfl ?_
    repeat (first | refine CW.seq ?_ | refine CW.block ?_ | refine CW.skip ?_ | refine CW.label ?_ | refine CW.exit ?_ | refine CW.condT rfl ?_ | refine CW.condF rfl ?_)
    refine CW.reg ?_
    refine WL.box (cs := x.cells) rfl rfl rfl hs (fun b4 w hs => ?_)
    refine WL.val rfl (run_assign) ?_
    refine WL.nil ?_
    repeat (first | refine CW.seq ?_ | refine CW.block ?_ | refine CW.skip ?_ | refine CW.label ?_ | refine CW.exit ?_ | refine CW.condT rfl ?_ | refine CW.condF rfl ?_)
    refine CW.reg ?_
    refine WL.enter rfl (run_call en11 rfl rfl) (known_spec _) ?_
    rintro e w ⟨rfl, hq⟩
    refine ⟨_, rfl, ?_⟩
    replace hs := hs.callE hq
    first | refine WL.val rfl (run_notB rfl) ?_ | refine WL.val rfl (run_not rfl) ?_
    refine WL.nil ?_
    repeat (first | refine CW.seq ?_ | refine CW.block ?_ | refine CW.skip ?_ | refine CW.label ?_ | refine CW.exit ?_ | refine CW.condT rfl ?_ | refine CW.condF rfl ?_)
    refine CW.reg ?_
    refine WL.val rfl (run_move) ?_
    refine WL.enter rfl (run_call en14 rfl rfl) (checkR_spec rfl _ (hl.step0 hs.clear) hcap) ?_
    rintro e w ⟨rfl, hq⟩
    refine ⟨_, rfl, ?_⟩
    replace hs := hs.callE hq
    refine WL.val rfl (run_bT (run_neq rfl rfl) (by exact hc)) ?_
    refine WL.nil ?_
    repeat (first | refine CW.seq ?_ | refine CW.block ?_ | refine CW.skip ?_ | refine CW.label ?_ | refine CW.exit ?_ | refine CW.condT rfl ?_ | refine CW.condF rfl ?_)
    refine CW.reg ?_
    refine WL.val rfl (run_assign) ?_
    refine WL.nil ?_
    repeat (first | refine CW.seq ?_ | refine CW.block ?_ | refine CW.skip ?_ | refine CW.label ?_ | refine CW.exit ?_ | refine CW.condT rfl ?_ | refine CW.condF rfl ?_)
    refine CW.ret ?_
    refine fin_ret1 rfl ?_
    exact ⟨rfl, hs.clear⟩
end Go.Gx
