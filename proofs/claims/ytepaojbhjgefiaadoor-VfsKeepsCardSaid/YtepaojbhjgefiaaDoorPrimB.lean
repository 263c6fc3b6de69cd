/- More operations on slices: compared with nil, append in its room, append of zeros, clear, a library function without a Go body. No program in sight. -/
import Derived.Test.YtepaojbhjgefiaaDoorBase
import Derived.Lib.SliceRun
import Derived.Lib.Overlaps
import Derived.Laws.Externs
namespace Go.Gx
set_option linter.unusedVariables false
set_option linter.unusedSimpArgs false

section
variable {P : Program} {f : Slots} {w : World} {d : Option Tmp} {ty : TypeId} {pos : String} {af : Array Edge} {x y : Operand} {T T' E : TypeId}
theorem run_eqSlNil {a : Option Addr} {n c n' c' : Nat} (ht : P.underlying T = some (.slice E)) (hx : ev f x = .slice a n c) :
    (execOp (ev f) ⟨d, .binOp .eql T x (.const (.slice none n' c')) T', ty, pos, af, none⟩).run P w = .ok (.value (.bool a.isNone)) w := by
  have e : ev f (.const (.slice none n' c')) = .slice none n' c' := rfl
  have h := Lib.run_eql_slice_nil w T E a n c n' c' ht
  simp [execOp, hx, e, eqGuard, h]
theorem run_neSlNil {a : Option Addr} {n c n' c' : Nat} (ht : P.underlying T = some (.slice E)) (hx : ev f x = .slice a n c) :
    (execOp (ev f) ⟨d, .binOp .neq T x (.const (.slice none n' c')) T', ty, pos, af, none⟩).run P w = .ok (.value (.bool a.isSome)) w := by
  have e : ev f (.const (.slice none n' c')) = .slice none n' c' := rfl
  have h0 : (Op.equal T (.slice a n c) (.slice none n' c')).run P w = .ok a.isNone w := by simp [Op.equal, Op.maxDepth, Lib.run_equalIn_slice_nil w 9999 T E a n c n' c' ht]
  simp [execOp, hx, e, eqGuard, binOp, h0]

theorem run_callExt {F : FuncId} {fn : Func} {e : Array Value → Sem Value} {fo : Operand} {args : Array Operand} {ats : Array TypeId} {vs : List Value} {v : Value} {w' : World} (hf : P.funcs[F]? = some fn) (hname : (fn.name == "runtime.NumGoroutine") = false)
    (hb : fn.body.isNone = true) (hn : Extern.findNext fn = none) (he : Extern.find fn = some e) (hx : ev f fo = .func (.func F) #[] #[]) (hv : args.toList.map (ev f) = vs) (hr : (e vs.toArray).run P w = .ok v w') :
    (execOp (ev f) ⟨d, .call { callee := .value fo, args, argTypes := ats }, ty, pos, af, none⟩).run P w = .ok (.value v) w' := by
  have e1 : args.map (ev f) = vs.toArray := by rw [← hv]; apply Array.ext'; simp
  have h := run_callFunc_extern hf hname hb hn he vs.toArray w
  rw [hr] at h
  simp [execOp, resolve, hx, Deferred.ofValue, invoke, e1, h]

theorem shape_blk {b : Nat} {cs : List Value} (h : w.heap[b]? = some (blk T cs)) : w.shape? b = some (T, cs.length) := by
  simp [World.shape?, h, blk]

/-- slices.overlaps of slices in two blocks. -/
theorem run_overlaps {agg : Bool} {sz bytes b1 o1 n1 c1 b2 o2 n2 c2 : Nat} {zs cs1 cs2 : List Value} {T1 T2 R : TypeId} (ht : P.underlying T = some (.slice E)) (hE : Ty P E agg sz bytes zs) (hne : b1 ≠ b2)
    (h1 : w.heap[b1]? = some (blk T1 cs1)) (h2 : w.heap[b2]? = some (blk T2 cs2)) (hl : cs2.length ≠ 0) :
    (Extern.SlicesOverlaps.overlaps #[T, T] #[R] #[.slice (some ⟨b1, o1, none⟩) n1 c1, .slice (some ⟨b2, o2, none⟩) n2 c2]).run P w = .ok (.bool false) w :=
  Lib.run_overlaps_apart w T R E ht sz (fun w => run_sizeOf hE w) ⟨b1, o1, none⟩ ⟨b2, o2, none⟩ n1 c1 n2 c2 hne T1 T2 _ _ (shape_blk h1) (shape_blk h2) hl (frozen_blk h1 _) (frozen_blk h1 _)
end

section
variable {P : Program} {ops : Array Oper} {Q : Post} {n : Nat} {rest : List Oper} {f : Slots} {ds : List Deferred} {w w0 : World} {ty : TypeId} {pos : String} {af : Array Edge} {x y : Operand} {T T' E : TypeId} {d : Nat} {S : List Nat} {L : List (Nat × Obj)}

/-- copy(v, u), where we know of what is copied alone that it is cells. -/
theorem WL.copyT {agg : Bool} {sz bytes len cap m b off : Nat} {zs cs ys : List Value} {E T' Tb : TypeId} {u : Value} {dd : Option Nat} (ht : P.underlying T = some (.slice E)) (hE : Ty P E agg sz bytes zs)
    (hx : ev f x = .slice (some ⟨b, off, none⟩) len cap) (hy : ev f y = u) (hs : Step S ((b, blk Tb cs) :: L) w0 w) (hu : Sl w sz u m ys) (hc1 : Cells1 (ys.take (min m len * sz))) (hlen : off + len * sz ≤ cs.length) (hd : ∀ k, dd = some k → Nat.blt k n = true)
    (h : ∀ w', Step S ((b, blk Tb (splice cs off (ys.take (min m len * sz)))) :: L) w0 w' → (∀ k, dd = some k → WL P ops Q n rest (upd f k (.int .i64 (min m len : Nat))) ds w') ∧ (dd = none → WL P ops Q n rest f ds w')) :
    WL P ops Q n (⟨dd, .call { callee := .builtin .copy, args := #[x, y], argTypes := #[T, T'] }, ty, pos, af, none⟩ :: rest) f ds w := by
  have hly := hu.1
  have htl : (ys.take (min m len * sz)).length = min m len * sz := by
    rw [List.length_take, hly]
    exact Nat.min_eq_left (Nat.mul_le_mul_right _ (Nat.min_le_left _ _))
  have hle : min m len * sz ≤ len * sz := Nat.mul_le_mul_right _ (Nat.min_le_right _ _)
  have hf : (Builtin.firstCells sz (min m len) u).run P w = .ok (ys.take (min m len * sz)).toArray w := by
    obtain ⟨_, ⟨a, c, rfl, rfl⟩ | ⟨b', off', c, rfl, hat⟩⟩ := hu
    · have : ys = [] := by simpa using hly
      subst this
      cases a <;> simp [Builtin.firstCells, loadCells] <;> rfl
    · have := run_loadCells_at (P := P) (hat.take (min m len * sz))
      rw [htl] at this
      simpa [Builtin.firstCells] using this
  have hst := run_storeCells (P := P) (ys.take (min m len * sz)) 0 off b Tb cs w hs.hd (by rw [htl]; omega) hc1
  have hrun : (execOp (ev f) ⟨dd, .call { callee := .builtin .copy, args := #[x, y], argTypes := #[T, T'] }, ty, pos, af, none⟩).run P w = .ok (.value (.int .i64 (min m len : Nat))) (setRow w b (off + 0) (ys.take (min m len * sz))) := by
    have hmin : Nat.min m len = min m len := rfl
    simp [execOp, hx, hy, resolve, invoke, builtin, Builtin.copy_, run_underlying ht, run_sizeOf hE, run_lenOf hu, hmin, hf, hst, goInt]
  have hstep := Step.row (ys.take (min m len * sz)) off cs w hs (by rw [htl]; omega)
  have hobt := h _ hstep
  obtain ⟨h1, h2⟩ := hobt
  cases dd with
  | none => exact WL.drop hrun (h2 rfl)
  | some k => exact WL.val (hd k rfl) hrun (h1 k rfl)

/-- append(v, u...) where v has the room. -/
theorem WL.appendIn {agg : Bool} {sz bytes k m cap b : Nat} {zs xs ys more : List Value} {u : Value} (ht : P.underlying T = some (.slice E)) (ht' : P.underlying T' = some (.slice E)) (hE : Ty P E agg sz bytes zs) (hzl : zs.length = sz)
    (hx : ev f x = .slice (some ⟨b, 0, none⟩) k cap) (hy : ev f y = u) (hl : xs.length = k * sz) (hs : Step S ((b, blk E (xs ++ more)) :: L) w0 w) (hcap : (xs ++ more).length = cap * sz) (hu : Sl w sz u m ys) (hc1 : Cells1 ys) (hfit : k + m ≤ cap) (hd : Nat.blt d n = true)
    (h : ∀ w', Step S ((b, blk E (xs ++ ys ++ more.drop ys.length)) :: L) w0 w' → WL P ops Q n rest (upd f d (.slice (some ⟨b, 0, none⟩) (k + m) cap)) ds w') :
    WL P ops Q n (⟨some d, .call { callee := .builtin .append, args := #[x, y], argTypes := #[T, T'] }, ty, pos, af, none⟩ :: rest) f ds w := by
  have hly := hu.1
  have hlm : (xs ++ more).length = xs.length + more.length := by simp
  have hle : ys.length ≤ more.length := by
    have : (k + m) * sz ≤ cap * sz := Nat.mul_le_mul_right _ hfit
    rw [Nat.add_mul] at this
    omega
  have hst := run_storeCells (P := P) ys 0 (k * sz) b E (xs ++ more) w hs.hd (by rw [hlm]; omega) hc1
  have hr := run_append_in (ty := ty) (b := b) ht (.inl ⟨E, ht'⟩) hE (run_lenOf hu) (run_firstCells hu) hfit
  rw [hst] at hr
  have hrow := Step.row ys (k * sz) (xs ++ more) w hs (by rw [hlm]; omega)
  rw [← hl, splice_end xs more ys hle] at hrow
  rw [Nat.add_zero, ← hl] at hr
  refine WL.val hd ?_ (h _ hrow)
  simp [execOp, hx, hy, resolve, invoke, builtin, hr]

/-- append(v, make([]T, m)...) where v has not the room. -/
theorem WL.appendZ {agg : Bool} {sz bytes k m cap : Nat} {zs xs : List Value} {a : Option Addr} {kn : IntKind} (ht : P.underlying T = some (.slice E)) (ht' : P.underlying T' = some (.int kn)) (hE : Ty P E agg sz bytes zs) (hzl : zs.length = sz) (hb0 : 0 < bytes)
    (hx : ev f x = .slice a k cap) (hy : ev f y = .int .i64 m) (hold : Sl w sz (.slice a k cap) k xs) (hs : Step S L w0 w) (hfit : cap < k + m) (hroom : (k + m) * bytes ≤ 140737488355328) (hd : Nat.blt d n = true)
    (h : ∀ v' Lv' w', OwnSl E sz v' (k + m) (xs ++ (List.replicate m zs).flatten) Lv' → Step S (Lv' ++ L) w0 w' → WL P ops Q n rest (upd f d v') ds w') :
    WL P ops Q n (⟨some d, .call { callee := .builtin .append, args := #[x, y], argTypes := #[T, T'] }, ty, pos, af, none⟩ :: rest) f ds w := by
  have hobt := hE.info
  obtain ⟨i, z0, hi, hsz, hby, hz0, hc0, _⟩ := hobt
  have hn : ¬ (k + m ≤ cap) := by omega
  have hkm : (k + m) * 1 ≤ (k + m) * bytes := Nat.mul_le_mul_left _ hb0
  have h63' : ¬ (9223372036854775807 < ((k : Int) + (m : Int))) := by omega
  have h48' : ¬ (281474976710656 < Builtin.nextslicecap (k + m) cap * i.bytes) := by
    rw [hby]
    have := growslice_fits (old := cap) (bytes := bytes) (need := k + m) (by omega) hroom
    omega
  have hwm : IntKind.i64.wrap (m : Int) = m := wrap_i64 (by omega)
  have hm48 : ¬ (281474976710656 < (m : Int) * (i.bytes : Int)) := by
    rw [hby]
    have h1 : m * bytes ≤ (k + m) * bytes := Nat.mul_le_mul_right _ (by omega)
    have h2 : ((m * bytes : Nat) : Int) ≤ ((140737488355328 : Nat) : Int) := Int.ofNat_le.2 (Nat.le_trans h1 hroom)
    rw [Int.natCast_mul] at h2
    omega
  have hmneg : ¬ ((m : Int) < 0) := by omega
  have hzc : ∀ j, Builtin.zeroCells z0.cells j = ((List.replicate j zs).flatten).toArray := fun j => by
    rw [hc0]
    have := zero_row zs j
    simpa [Builtin.zeroCells] using this
  have hblk : ∀ l : List Value, Obj.cells l.toArray E = blk E l := fun l => rfl
  have hod := run_firstCells_drew (P := P) hold
  have hxl := hold.1
  have hle : k + m ≤ grownCap w (k + m) cap E := by unfold grownCap Question.cut; exact Nat.le_add_right _ _
  have hr : (Builtin.append_ #[T, T'] ty #[.slice a k cap, .int .i64 m]).run P w = .ok (.slice (some ⟨w.heap.size, 0, none⟩) (k + m) (grownCap w (k + m) cap E)) (w.drew.alloc (blk E (xs ++ (List.replicate m zs).flatten ++ (List.replicate (grownCap w (k + m) cap E - (k + m)) zs).flatten))) := by
    by_cases h0 : m * sz = 0
    · have hfl : (List.replicate m zs).flatten = [] := by
        apply List.eq_nil_of_length_eq_zero
        simp only [List.length_flatten, List.map_replicate, List.sum_replicate_nat, hzl, h0]
      rw [hfl]
      subst hsz
      simp [Builtin.append_, run_underlying ht, run_underlying ht', sizeOf, typeInfo, zeroValue, hi, hz0, hn, h63', h48', Question.forced, hod, newRow, grownCap, hzc, hblk, asInt, asIntOf, hwm, hm48, hmneg, h0]
    · subst hsz
      simp [Builtin.append_, run_underlying ht, run_underlying ht', sizeOf, typeInfo, zeroValue, hi, hz0, hn, h63', h48', Question.forced, hod, newRow, grownCap, hzc, hblk, asInt, asIntOf, hwm, hm48, hmneg, h0]
  refine WL.val hd (v := .slice (some ⟨w.heap.size, 0, none⟩) (k + m) (grownCap w (k + m) cap E)) (w' := w.drew.alloc (blk E (xs ++ (List.replicate m zs).flatten ++ (List.replicate (grownCap w (k + m) cap E - (k + m)) zs).flatten))) ?_ (h _ [(w.heap.size, _)] _ ⟨?_, .inr ⟨_, _, _, rfl, rfl, ?_⟩⟩ (hs.drew.alloc _))
  · simp [execOp, hx, hy, resolve, invoke, builtin, hr]
  · simp [hxl, hzl, Nat.add_mul]
  · simp only [List.length_append, List.length_flatten, List.map_replicate, List.sum_replicate_nat, hxl, hzl, ← Nat.add_mul]
    congr 1
    omega

/-- clear(v), v some elements of a block of ours. -/
theorem WL.clear {agg : Bool} {sz bytes k cap b off : Nat} {zs cs : List Value} {T2 : TypeId} (ht : P.underlying T = some (.slice E)) (hE : Ty P E agg sz bytes zs) (hzl : zs.length = sz)
    (hx : ev f x = .slice (some ⟨b, off, none⟩) k cap) (hs : Step S ((b, blk T2 cs) :: L) w0 w) (hk : 0 < k) (hlen : off + k * sz ≤ cs.length) (hz1 : (zs.all fun v => v.oneCell') = true)
    (h : ∀ w', Step S ((b, blk T2 (splice cs off (List.replicate k zs).flatten)) :: L) w0 w' → WL P ops Q n rest f ds w') :
    WL P ops Q n (⟨none, .call { callee := .builtin .clear, args := #[x], argTypes := #[T] }, ty, pos, af, none⟩ :: rest) f ds w := by
  have hobt := hE.info
  obtain ⟨i, z0, hi, hsz, hby, hz0, hc0, _⟩ := hobt
  have hzc : Builtin.zeroCells z0.cells k = ((List.replicate k zs).flatten).toArray := by
    rw [hc0]
    have := zero_row zs k
    simpa [Builtin.zeroCells] using this
  have hl : ((List.replicate k zs).flatten).length = k * sz := by
    simp only [List.length_flatten, List.map_replicate, List.sum_replicate_nat, hzl]
  have hc1 : Cells1 (List.replicate k zs).flatten := fun v hv => by
    have hobt := List.mem_flatten.1 hv
    obtain ⟨l, hl1, hl2⟩ := hobt
    rw [List.mem_replicate] at hl1
    rw [hl1.2] at hl2
    exact List.all_eq_true.1 hz1 v hl2
  have hst := run_storeCells (P := P) (List.replicate k zs).flatten 0 off b T2 cs w hs.hd (by rw [hl]; omega) hc1
  have hr : (Builtin.clear_ #[T] ty #[.slice (some ⟨b, off, none⟩) k cap]).run P w = .ok (.tuple #[]) (setRow w b (off + 0) (List.replicate k zs).flatten) := by
    match k, hk with
    | k' + 1, _ =>
      simp only [Builtin.clear_, Sem.run_bind, List.getElem?_toArray, List.getElem?_cons_zero, run_underlying ht, Result.andThen_ok]
      simp [zeroValue, typeInfo, hi, hz0, hzc, hst]
  refine WL.drop (v := .tuple #[]) ?_ (h _ (Step.row _ off cs w hs (by rw [hl]; omega)))
  simp only [execOp, resolve, invoke, builtin, Sem.run_bind, Sem.run_pure, Result.andThen_ok, List.map_toArray, List.map_cons, List.map_nil, hx, hr]
  rfl
end
end Go.Gx
