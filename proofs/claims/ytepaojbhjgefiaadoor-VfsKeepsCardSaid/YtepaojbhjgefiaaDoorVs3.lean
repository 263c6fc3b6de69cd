/- Files in memory: what is asked, nothing changed. -/
import Derived.Test.YtepaojbhjgefiaaDoorVs2
namespace Go.Gx
open Go.Proofs
set_option linter.unusedVariables false
set_option linter.unusedSimpArgs false
set_option maxRecDepth 100000
section
variable {P : Program} {f : Slots} {w : World} {d : Option Tmp} {ty : TypeId} {pos : String} {af : Array Edge} {x y : Operand} {ats : Array TypeId} {k : IntKind} {a b c : Int}
theorem run_max {P : Program} {f : Slots} {w : World} {d : Option Tmp} {ty : TypeId} {pos : String} {af : Array Edge} {x y : Operand} {ats : Array TypeId} {k : IntKind} {a b : Int} (hx : ev f x = .int k a) (hy : ev f y = .int k b) :
    (execOp (ev f) ⟨d, .call { callee := .builtin .max, args := #[x, y], argTypes := ats }, ty, pos, af, none⟩).run P w = .ok (.value (.int k (if b > a then b else a))) w := by
  simp [execOp, resolve, invoke, builtin, hx, hy, Builtin.max_, Builtin.max2]
theorem run_maxE (hx : ev f x = .int k a) (hy : ev f y = .int k b) (h : c = max a b) : (execOp (ev f) ⟨d, .call { callee := .builtin .max, args := #[x, y], argTypes := ats }, ty, pos, af, none⟩).run P w = .ok (.value (.int k c)) w := by
  rw [run_max hx hy, h]
  congr 3
  split <;> omega
theorem run_min (hx : ev f x = .int k a) (hy : ev f y = .int k b) : (execOp (ev f) ⟨d, .call { callee := .builtin .min, args := #[x, y], argTypes := ats }, ty, pos, af, none⟩).run P w = .ok (.value (.int k (if b < a then b else a))) w := by
  by_cases h : b < a <;> simp [execOp, resolve, invoke, builtin, Builtin.min_, Builtin.min2, hx, hy, h]
theorem run_minE (hx : ev f x = .int k a) (hy : ev f y = .int k b) (h : c = min a b) : (execOp (ev f) ⟨d, .call { callee := .builtin .min, args := #[x, y], argTypes := ats }, ty, pos, af, none⟩).run P w = .ok (.value (.int k c)) w := by
  rw [run_min hx hy, h]
  congr 3
  split <;> omega
end
/-- How long a file is. -/
def VS.len (s : VS) (i : Nat) : Nat := ((s.F[i]?).map (·.2.length)).getD 0
def VS.peek (s : VS) (h n : Int) : Int × Int := match s.is h with
  | none => (0, 95)
  | some (i, pl, mo) => if mo ≠ 0 then (0, 94) else if n < 0 then (0, 1) else (min n (max 0 ((s.len i : Int) - pl)), 0)
/-- Where a write of a handle begins. -/
def VS.from_ (s : VS) (i pl mo : Nat) : Nat := if mo = 3 then s.len i else pl
def VS.may (s : VS) (h n : Int) : Int := match s.is h with
  | none => 95
  | some (i, pl, mo) => if mo = 0 then 94 else if n < 0 then 1 else if n = 0 then 0 else if 1048576 - (s.from_ i pl mo : Int) < n then 96 else if s.qb < (s.by_ : Int) + max 0 ((s.from_ i pl mo : Int) + n - s.len i) then 96 else 0
section
variable {bf mf md : Nat} {s : VS} {L Lh : List (Nat × Obj)} {vh : Value} {Fs : List FB} {Ds : List DB} {Hs : List (Option HB)} {w0 : World}
theorem VOpen.len_ (o : VOpen bf s L mf md vh Lh Fs Ds Hs) {i : Nat} {r : FB} (hr : Fs[i]? = some r) : s.len i = r.x.length := by
  unfold VS.len
  rw [← o.F, List.getElem?_map, hr]
  rfl
theorem VOpen.file (o : VOpen bf s L mf md vh Lh Fs Ds Hs) {k : Nat} {hb : HB} (hk : Hs[k]? = some (some hb)) : ∃ r, Fs[hb.i]? = some r ∧ hb.fb = r.b := o.hs hb (List.mem_of_getElem? hk)
theorem VOpen.bnd (o : VOpen bf s L mf md vh Lh Fs Ds Hs) (ok : s.Ok) {k : Nat} {hb : HB} {r : FB} (hk : Hs[k]? = some (some hb)) (hr : Fs[hb.i]? = some r) : hb.pl ≤ 1048576 ∧ hb.mo ≤ 3 ∧ r.x.length ≤ 1048576 := by
  have h1 := ok.at_ hb.i hb.pl hb.mo (by rw [← o.H]; exact List.mem_map.2 ⟨some hb, List.mem_of_getElem? hk, rfl⟩)
  have h2 := ok.x (r.p, r.x) (by rw [← o.F]; exact List.mem_map.2 ⟨r, List.mem_of_getElem? hr, rfl⟩)
  exact ⟨h1.1, h1.2, h2⟩
theorem peek_spec (o : VOpen bf s L mf md vh Lh Fs Ds Hs) (ok : s.Ok) (hw : ∀ p ∈ L, w0.heap[p.1]? = some p.2) {h n : Int} (hn : -9223372036854775808 ≤ n ∧ n ≤ 9223372036854775807) : Calls Tryd.prog 36 #[.pointer (some ⟨bf, 0, none⟩), .int .i64 h, .int .i64 n] w0 (Ret0 (.tuple #[.int .i64 (s.peek h n).1, .int .i64 (s.peek h n).2]) w0) := by
  have hs : Step [] [] w0 w0 := Step.refl w0
  have hlw : ∀ {w : World}, Step [] [] w0 w → ∀ p ∈ L, w.heap[p.1]? = some p.2 := fun hs p hp => hs.old (hw p hp) (by simp)
  rcases o.his h with ⟨hi, _⟩ | ⟨k, hb, rfl, hk, hi⟩
  · rw [show s.peek h n = (0, 95) by unfold VS.peek; rw [hi]]
    refine calls (n := 45) Tryd.func36 rfl rfl rfl ?_
    repeat (first | refine CW.seq ?_ | refine CW.block ?_ | refine CW.skip ?_ | refine CW.label ?_ | refine CW.exit ?_ | refine CW.condT rfl ?_ | refine CW.condF rfl ?_)
    refine CW.reg ?_
    refine WL.val rfl (run_assign) ?_
    refine WL.val rfl (run_assign) ?_
    refine WL.nil ?_
    repeat (first | refine CW.seq ?_ | refine CW.block ?_ | refine CW.skip ?_ | refine CW.label ?_ | refine CW.exit ?_ | refine CW.condT rfl ?_ | refine CW.condF rfl ?_)
    refine CW.reg ?_
    refine WL.val rfl (run_move) ?_
    refine WL.val rfl (run_move) ?_
    refine WL.enter rfl (run_call en33 rfl rfl) (is_none o ok (hlw hs) hi) ?_
    rintro e w ⟨rfl, hq⟩
    refine ⟨_, rfl, ?_⟩
    replace hs := hs.callE hq
    refine WL.val rfl (run_move) ?_
    refine WL.val rfl (run_extract rfl rfl) ?_
    refine WL.val rfl (run_extract rfl rfl) ?_
    refine WL.val rfl (run_assign) ?_
    refine WL.val rfl (run_assign) ?_
    refine WL.nil ?_
    repeat (first | refine CW.seq ?_ | refine CW.block ?_ | refine CW.skip ?_ | refine CW.label ?_ | refine CW.exit ?_ | refine CW.condT rfl ?_ | refine CW.condF rfl ?_)
    refine CW.reg ?_
    refine WL.val rfl (run_move) ?_
    refine WL.val rfl (run_bT (run_neq rfl rfl) (by decide)) ?_
    refine WL.val rfl (run_assign) ?_
    refine WL.nil ?_
    repeat (first | refine CW.seq ?_ | refine CW.block ?_ | refine CW.skip ?_ | refine CW.label ?_ | refine CW.exit ?_)
    first | refine CW.condP rfl (fun h => ?_) (fun h => ?_) | refine CW.cond rfl (fun h => ?_) (fun h => ?_)
    · repeat (first | refine CW.seq ?_ | refine CW.block ?_ | refine CW.skip ?_ | refine CW.label ?_ | refine CW.exit ?_ | refine CW.condT rfl ?_ | refine CW.condF rfl ?_)
      refine CW.reg ?_
      refine WL.val rfl (run_move) ?_
      refine WL.val rfl (run_assign) ?_
      refine WL.val rfl (run_assign) ?_
      refine WL.nil ?_
      repeat (first | refine CW.seq ?_ | refine CW.block ?_ | refine CW.skip ?_ | refine CW.label ?_ | refine CW.exit ?_ | refine CW.condT rfl ?_ | refine CW.condF rfl ?_)
      refine CW.ret ?_
      refine fin_ret2 rfl ?_
      exact ⟨rfl, hs⟩
    · cases h
  · have hobt := o.file hk
    obtain ⟨r, hr, hfb⟩ := hobt
    have hobt := o.bnd ok hk hr
    obtain ⟨b1, b2, b3⟩ := hobt
    have hl := o.len_ hr
    have hat := o.hat hw hk
    have hobt := o.fat hw hr
    obtain ⟨hf, hsl⟩ := hobt
    rw [← hfb] at hf
    have hobt := hsl.form
    obtain ⟨av, cv, hv⟩ := hobt
    by_cases h0 : hb.mo = 0
    · by_cases hneg : n < 0
      · rw [show s.peek (k : Int) n = (0, 1) by unfold VS.peek; rw [hi]; simp only; rw [if_neg (by omega), if_pos hneg]]
        refine calls (n := 45) Tryd.func36 rfl rfl rfl ?_
        repeat (first | refine CW.seq ?_ | refine CW.block ?_ | refine CW.skip ?_ | refine CW.label ?_ | refine CW.exit ?_ | refine CW.condT rfl ?_ | refine CW.condF rfl ?_)
        refine CW.reg ?_
        refine WL.val rfl (run_assign) ?_
        refine WL.val rfl (run_assign) ?_
        refine WL.nil ?_
        repeat (first | refine CW.seq ?_ | refine CW.block ?_ | refine CW.skip ?_ | refine CW.label ?_ | refine CW.exit ?_ | refine CW.condT rfl ?_ | refine CW.condF rfl ?_)
        refine CW.reg ?_
        refine WL.val rfl (run_move) ?_
        refine WL.val rfl (run_move) ?_
        refine WL.enter rfl (run_call en33 rfl rfl) (is_some o ok (hlw hs) hk) ?_
        rintro e w ⟨rfl, hq⟩
        refine ⟨_, rfl, ?_⟩
        replace hs := hs.callE hq
        refine WL.val rfl (run_move) ?_
        refine WL.val rfl (run_extract rfl rfl) ?_
        refine WL.val rfl (run_extract rfl rfl) ?_
        refine WL.val rfl (run_assign) ?_
        refine WL.val rfl (run_assign) ?_
        refine WL.nil ?_
        repeat (first | refine CW.seq ?_ | refine CW.block ?_ | refine CW.skip ?_ | refine CW.label ?_ | refine CW.exit ?_ | refine CW.condT rfl ?_ | refine CW.condF rfl ?_)
        refine CW.reg ?_
        refine WL.val rfl (run_move) ?_
        refine WL.val rfl (run_bF (run_neq rfl rfl) (by decide)) ?_
        refine WL.val rfl (run_assign) ?_
        refine WL.nil ?_
        repeat (first | refine CW.seq ?_ | refine CW.block ?_ | refine CW.skip ?_ | refine CW.label ?_ | refine CW.exit ?_)
        first | refine CW.condP rfl (fun h => ?_) (fun h => ?_) | refine CW.cond rfl (fun h => ?_) (fun h => ?_)
        · cases h
        repeat (first | refine CW.seq ?_ | refine CW.block ?_ | refine CW.skip ?_ | refine CW.label ?_ | refine CW.exit ?_ | refine CW.condT rfl ?_ | refine CW.condF rfl ?_)
        refine CW.reg ?_
        refine WL.val rfl (run_move) ?_
        refine WL.val rfl (run_nilCheck rfl) ?_
        refine WL.val rfl (run_field (o' := 2) Tryd.underlying93 rfl ty3 rfl rfl rfl) ?_
        refine WL.val rfl (run_load1 ty3 rfl ((hat.step hs (by simp)).cell (j := 2) rfl)) ?_
        refine WL.val rfl (run_bF (run_neq rfl rfl) (by omega)) ?_
        refine WL.val rfl (run_assign) ?_
        refine WL.nil ?_
        repeat (first | refine CW.seq ?_ | refine CW.block ?_ | refine CW.skip ?_ | refine CW.label ?_ | refine CW.exit ?_)
        first | refine CW.condP rfl (fun h => ?_) (fun h => ?_) | refine CW.cond rfl (fun h => ?_) (fun h => ?_)
        · cases h
        repeat (first | refine CW.seq ?_ | refine CW.block ?_ | refine CW.skip ?_ | refine CW.label ?_ | refine CW.exit ?_ | refine CW.condT rfl ?_ | refine CW.condF rfl ?_)
        refine CW.reg ?_
        refine WL.val rfl (run_move) ?_
        refine WL.val rfl (run_bT (run_lss rfl rfl) (by omega)) ?_
        refine WL.val rfl (run_assign) ?_
        refine WL.nil ?_
        repeat (first | refine CW.seq ?_ | refine CW.block ?_ | refine CW.skip ?_ | refine CW.label ?_ | refine CW.exit ?_)
        first | refine CW.condP rfl (fun h => ?_) (fun h => ?_) | refine CW.cond rfl (fun h => ?_) (fun h => ?_)
        · repeat (first | refine CW.seq ?_ | refine CW.block ?_ | refine CW.skip ?_ | refine CW.label ?_ | refine CW.exit ?_ | refine CW.condT rfl ?_ | refine CW.condF rfl ?_)
          refine CW.reg ?_
          refine WL.val rfl (run_assign) ?_
          refine WL.val rfl (run_assign) ?_
          refine WL.nil ?_
          repeat (first | refine CW.seq ?_ | refine CW.block ?_ | refine CW.skip ?_ | refine CW.label ?_ | refine CW.exit ?_ | refine CW.condT rfl ?_ | refine CW.condF rfl ?_)
          refine CW.ret ?_
          refine fin_ret2 rfl ?_
          exact ⟨rfl, hs⟩
        · cases h
      · rw [show s.peek (k : Int) n = (min n (max 0 ((r.x.length : Int) - hb.pl)), 0) by unfold VS.peek; rw [hi]; simp only; rw [if_neg (by omega), if_neg hneg, hl]]
        refine calls (n := 45) Tryd.func36 rfl rfl rfl ?_
        repeat (first | refine CW.seq ?_ | refine CW.block ?_ | refine CW.skip ?_ | refine CW.label ?_ | refine CW.exit ?_ | refine CW.condT rfl ?_ | refine CW.condF rfl ?_)
        refine CW.reg ?_
        refine WL.val rfl (run_assign) ?_
        refine WL.val rfl (run_assign) ?_
        refine WL.nil ?_
        repeat (first | refine CW.seq ?_ | refine CW.block ?_ | refine CW.skip ?_ | refine CW.label ?_ | refine CW.exit ?_ | refine CW.condT rfl ?_ | refine CW.condF rfl ?_)
        refine CW.reg ?_
        refine WL.val rfl (run_move) ?_
        refine WL.val rfl (run_move) ?_
        refine WL.enter rfl (run_call en33 rfl rfl) (is_some o ok (hlw hs) hk) ?_
        rintro e w ⟨rfl, hq⟩
        refine ⟨_, rfl, ?_⟩
        replace hs := hs.callE hq
        refine WL.val rfl (run_move) ?_
        refine WL.val rfl (run_extract rfl rfl) ?_
        refine WL.val rfl (run_extract rfl rfl) ?_
        refine WL.val rfl (run_assign) ?_
        refine WL.val rfl (run_assign) ?_
        refine WL.nil ?_
        repeat (first | refine CW.seq ?_ | refine CW.block ?_ | refine CW.skip ?_ | refine CW.label ?_ | refine CW.exit ?_ | refine CW.condT rfl ?_ | refine CW.condF rfl ?_)
        refine CW.reg ?_
        refine WL.val rfl (run_move) ?_
        refine WL.val rfl (run_bF (run_neq rfl rfl) (by decide)) ?_
        refine WL.val rfl (run_assign) ?_
        refine WL.nil ?_
        repeat (first | refine CW.seq ?_ | refine CW.block ?_ | refine CW.skip ?_ | refine CW.label ?_ | refine CW.exit ?_)
        first | refine CW.condP rfl (fun h => ?_) (fun h => ?_) | refine CW.cond rfl (fun h => ?_) (fun h => ?_)
        · cases h
        repeat (first | refine CW.seq ?_ | refine CW.block ?_ | refine CW.skip ?_ | refine CW.label ?_ | refine CW.exit ?_ | refine CW.condT rfl ?_ | refine CW.condF rfl ?_)
        refine CW.reg ?_
        refine WL.val rfl (run_move) ?_
        refine WL.val rfl (run_nilCheck rfl) ?_
        refine WL.val rfl (run_field (o' := 2) Tryd.underlying93 rfl ty3 rfl rfl rfl) ?_
        refine WL.val rfl (run_load1 ty3 rfl ((hat.step hs (by simp)).cell (j := 2) rfl)) ?_
        refine WL.val rfl (run_bF (run_neq rfl rfl) (by omega)) ?_
        refine WL.val rfl (run_assign) ?_
        refine WL.nil ?_
        repeat (first | refine CW.seq ?_ | refine CW.block ?_ | refine CW.skip ?_ | refine CW.label ?_ | refine CW.exit ?_)
        first | refine CW.condP rfl (fun h => ?_) (fun h => ?_) | refine CW.cond rfl (fun h => ?_) (fun h => ?_)
        · cases h
        repeat (first | refine CW.seq ?_ | refine CW.block ?_ | refine CW.skip ?_ | refine CW.label ?_ | refine CW.exit ?_ | refine CW.condT rfl ?_ | refine CW.condF rfl ?_)
        refine CW.reg ?_
        refine WL.val rfl (run_move) ?_
        refine WL.val rfl (run_bF (run_lss rfl rfl) (by omega)) ?_
        refine WL.val rfl (run_assign) ?_
        refine WL.nil ?_
        repeat (first | refine CW.seq ?_ | refine CW.block ?_ | refine CW.skip ?_ | refine CW.label ?_ | refine CW.exit ?_)
        first | refine CW.condP rfl (fun h => ?_) (fun h => ?_) | refine CW.cond rfl (fun h => ?_) (fun h => ?_)
        · cases h
        repeat (first | refine CW.seq ?_ | refine CW.block ?_ | refine CW.skip ?_ | refine CW.label ?_ | refine CW.exit ?_ | refine CW.condT rfl ?_ | refine CW.condF rfl ?_)
        refine CW.quiet mixedP (by kernel_rfl) hs ?_
        refine QL.val rfl (fun w hs => run_move) ?_
        refine QL.val rfl (fun w hs => run_move) ?_
        refine QL.val rfl (fun w hs => run_nilCheck rfl) ?_
        refine QL.val rfl (fun w hs => run_field (o' := 0) Tryd.underlying93 rfl ty86 rfl rfl rfl) ?_
        refine QL.val rfl (fun w hs => run_load1 ty86 rfl ((hat.step hs (by simp)).cell (j := 0) rfl)) ?_
        refine QL.val rfl (fun w hs => run_nilCheck rfl) ?_
        refine QL.val rfl (fun w hs => run_field (o' := 1) Tryd.underlying89 rfl ty34 rfl rfl rfl) ?_
        refine QL.val rfl (fun w hs => run_load1 ty34 rfl ((hf.step hs (by simp)).cell (j := 1) (v := .slice av r.x.length cv) (by rw [← hv]; rfl))) ?_
        refine QL.val rfl (fun w hs => run_lenSl Tryd.underlying34 rfl) ?_
        refine QL.val rfl (fun w hs => run_move) ?_
        refine QL.val rfl (fun w hs => run_nilCheck rfl) ?_
        refine QL.val rfl (fun w hs => run_field (o' := 1) Tryd.underlying93 rfl ty3 rfl rfl rfl) ?_
        refine QL.val rfl (fun w hs => run_load1 ty3 rfl ((hat.step hs (by simp)).cell (j := 1) rfl)) ?_
        refine QL.val rfl (fun w hs => run_sub (c := ((r.x.length : Int) - hb.pl)) rfl rfl (by omega) (by omega)) ?_
        refine QL.val rfl (fun w hs => run_maxE rfl rfl rfl) ?_
        refine QL.val rfl (fun w hs => run_minE rfl rfl rfl) ?_
        refine QL.val rfl (fun w hs => run_assign) ?_
        refine QL.val rfl (fun w hs => run_assign) ?_
        refine QL.nil (fun w hs => ?_)
        repeat (first | refine CW.seq ?_ | refine CW.block ?_ | refine CW.skip ?_ | refine CW.label ?_ | refine CW.exit ?_ | refine CW.condT rfl ?_ | refine CW.condF rfl ?_)
        refine CW.ret ?_
        refine fin_ret2 rfl ?_
        exact ⟨rfl, hs⟩
    · rw [show s.peek (k : Int) n = (0, 94) by unfold VS.peek; rw [hi]; simp only; rw [if_pos h0]]
      refine calls (n := 45) Tryd.func36 rfl rfl rfl ?_
      repeat (first | refine CW.seq ?_ | refine CW.block ?_ | refine CW.skip ?_ | refine CW.label ?_ | refine CW.exit ?_ | refine CW.condT rfl ?_ | refine CW.condF rfl ?_)
      refine CW.reg ?_
      refine WL.val rfl (run_assign) ?_
      refine WL.val rfl (run_assign) ?_
      refine WL.nil ?_
      repeat (first | refine CW.seq ?_ | refine CW.block ?_ | refine CW.skip ?_ | refine CW.label ?_ | refine CW.exit ?_ | refine CW.condT rfl ?_ | refine CW.condF rfl ?_)
      refine CW.reg ?_
      refine WL.val rfl (run_move) ?_
      refine WL.val rfl (run_move) ?_
      refine WL.enter rfl (run_call en33 rfl rfl) (is_some o ok (hlw hs) hk) ?_
      rintro e w ⟨rfl, hq⟩
      refine ⟨_, rfl, ?_⟩
      replace hs := hs.callE hq
      refine WL.val rfl (run_move) ?_
      refine WL.val rfl (run_extract rfl rfl) ?_
      refine WL.val rfl (run_extract rfl rfl) ?_
      refine WL.val rfl (run_assign) ?_
      refine WL.val rfl (run_assign) ?_
      refine WL.nil ?_
      repeat (first | refine CW.seq ?_ | refine CW.block ?_ | refine CW.skip ?_ | refine CW.label ?_ | refine CW.exit ?_ | refine CW.condT rfl ?_ | refine CW.condF rfl ?_)
      refine CW.reg ?_
      refine WL.val rfl (run_move) ?_
      refine WL.val rfl (run_bF (run_neq rfl rfl) (by decide)) ?_
      refine WL.val rfl (run_assign) ?_
      refine WL.nil ?_
      repeat (first | refine CW.seq ?_ | refine CW.block ?_ | refine CW.skip ?_ | refine CW.label ?_ | refine CW.exit ?_)
      first | refine CW.condP rfl (fun h => ?_) (fun h => ?_) | refine CW.cond rfl (fun h => ?_) (fun h => ?_)
      · cases h
      repeat (first | refine CW.seq ?_ | refine CW.block ?_ | refine CW.skip ?_ | refine CW.label ?_ | refine CW.exit ?_ | refine CW.condT rfl ?_ | refine CW.condF rfl ?_)
      refine CW.reg ?_
      refine WL.val rfl (run_move) ?_
      refine WL.val rfl (run_nilCheck rfl) ?_
      refine WL.val rfl (run_field (o' := 2) Tryd.underlying93 rfl ty3 rfl rfl rfl) ?_
      refine WL.val rfl (run_load1 ty3 rfl ((hat.step hs (by simp)).cell (j := 2) rfl)) ?_
      refine WL.val rfl (run_bT (run_neq rfl rfl) (by omega)) ?_
      refine WL.val rfl (run_assign) ?_
      refine WL.nil ?_
      repeat (first | refine CW.seq ?_ | refine CW.block ?_ | refine CW.skip ?_ | refine CW.label ?_ | refine CW.exit ?_)
      first | refine CW.condP rfl (fun h => ?_) (fun h => ?_) | refine CW.cond rfl (fun h => ?_) (fun h => ?_)
      · repeat (first | refine CW.seq ?_ | refine CW.block ?_ | refine CW.skip ?_ | refine CW.label ?_ | refine CW.exit ?_ | refine CW.condT rfl ?_ | refine CW.condF rfl ?_)
        refine CW.reg ?_
        refine WL.val rfl (run_assign) ?_
        refine WL.val rfl (run_assign) ?_
        refine WL.nil ?_
        repeat (first | refine CW.seq ?_ | refine CW.block ?_ | refine CW.skip ?_ | refine CW.label ?_ | refine CW.exit ?_ | refine CW.condT rfl ?_ | refine CW.condF rfl ?_)
        refine CW.ret ?_
        refine fin_ret2 rfl ?_
        exact ⟨rfl, hs⟩
      · cases h
end
end Go.Gx
