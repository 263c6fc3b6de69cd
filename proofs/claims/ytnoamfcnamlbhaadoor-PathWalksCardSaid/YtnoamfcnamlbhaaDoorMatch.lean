/- The program's Match. -/
import Derived.Test.YtnoamfcnamlbhaaDoorPieces
namespace Go.Gx
open Go.Proofs Go.RowKit
set_option linter.unusedVariables false
set_option linter.unusedSimpArgs false
set_option maxRecDepth 100000

/-- A name of a part. -/
def ofPart (p n : List UInt8) : Bool := goesM (fun x => decide (x = [42])) pieceEq (piecesL p) (piecesL n)
def matchM (s t : List UInt8) : Bool := goesM (fun x => decide (x = [42, 42])) ofPart (partsL s) (partsL t)
/-- What Match tells. -/
def matchR (s t : List UInt8) : Bool × Int :=
  if 4096 < s.length ∨ 4096 < t.length then (false, 2) else if (partsL s).all okPat = false then (false, 34) else if isCleanL t = false then (false, 31) else (matchM s t, 0)

theorem named_spec {p q : List UInt8} (w0 : World) (hp : p.length < 4294967281) (hq : q.length < 4294967281) : Calls Tryd.prog 40 #[str p, str q] w0 (Ret0 (.bool (ofPart p q)) w0) := by
  have hpl := piecesL_len p.length p (Nat.le_refl _)
  have hql := piecesL_len q.length q (Nat.le_refl _)
  refine calls (n := 10) Tryd.func40 rfl rfl rfl ?_
  repeat (first | refine CW.seq ?_ | refine CW.block ?_ | refine CW.skip ?_ | refine CW.label ?_ | refine CW.exit ?_ | refine CW.condT rfl ?_ | refine CW.condF rfl ?_)
  refine CW.reg ?_
  refine WL.val rfl (run_assign) ?_
  refine WL.nil ?_
  repeat (first | refine CW.seq ?_ | refine CW.block ?_ | refine CW.skip ?_ | refine CW.label ?_ | refine CW.exit ?_ | refine CW.condT rfl ?_ | refine CW.condF rfl ?_)
  refine CW.reg ?_
  refine WL.val rfl (run_move) ?_
  refine WL.enter rfl (run_call en55 rfl rfl) (pieces_spec _ hp) ?_
  rintro e w ⟨u, Lu, rfl, hu, hqs⟩
  refine ⟨_, rfl, ?_⟩
  have hs := hqs
  refine WL.val rfl (run_move) ?_
  refine WL.enter rfl (run_call en55 rfl rfl) (pieces_spec _ hq) ?_
  rintro e w ⟨u2, Lv, rfl, hv, hq2⟩
  refine ⟨_, rfl, ?_⟩
  have hxx := cellsOf hu hs
  obtain ⟨a, c, hq3, hcl, hcx⟩ := hxx
  subst hq3
  have hyy := cellsOf hv hq2
  obtain ⟨a2, c2, hq4, hcl2, hcy⟩ := hyy
  subst hq4
  have hcx2 := Sl0.keep hcx hq2
  replace hs := hs.dropR (L1 := [])
  replace hs := hs.call0 (hq2.dropR (L1 := []))
  refine WL.enter rfl (run_call en39 rfl rfl) (goes_spec _ en56 hcl hcl2 (by omega) (by omega) hcx2 hcy (fun p _ q _ _ w => named1_spec w)) ?_
  rintro e w ⟨rfl, hq⟩
  refine ⟨_, rfl, ?_⟩
  replace hs := hs.callE hq
  refine WL.val rfl (run_assign) ?_
  refine WL.nil ?_
  repeat (first | refine CW.seq ?_ | refine CW.block ?_ | refine CW.skip ?_ | refine CW.label ?_ | refine CW.exit ?_ | refine CW.condT rfl ?_ | refine CW.condF rfl ?_)
  refine CW.ret ?_
  refine fin_ret1 rfl ?_
  exact ⟨rfl, hs⟩

theorem run_max {P : Program} {f : Slots} {w : World} {d : Option Tmp} {ty : TypeId} {pos : String} {af : Array Edge} {x y : Operand} {ats : Array TypeId} {k : IntKind} {a b : Int} (hx : ev f x = .int k a) (hy : ev f y = .int k b) :
    (execOp (ev f) ⟨d, .call { callee := .builtin .max, args := #[x, y], argTypes := ats }, ty, pos, af, none⟩).run P w = .ok (.value (.int k (if b > a then b else a))) w := by
  simp [execOp, resolve, invoke, builtin, hx, hy, Builtin.max_, Builtin.max2]

set_option maxHeartbeats 2000000 in
theorem match_spec {s t : List UInt8} (w0 : World) (hg : Gl w0) (hs1 : s.length < 4294967281) (ht1 : t.length ≤ 9223372036854775807) : Calls Tryd.prog 18 #[str s, str t] w0 (Ret0 (.tuple #[.bool (matchR s t).1, .int .i64 (matchR s t).2]) w0) := by
  have hpl := partsL_len s
  have hpt := partsL_len t
  refine calls (n := 28) Tryd.func18 rfl rfl rfl ?_
  repeat (first | refine CW.seq ?_ | refine CW.block ?_ | refine CW.skip ?_ | refine CW.label ?_ | refine CW.exit ?_ | refine CW.condT rfl ?_ | refine CW.condF rfl ?_)
  refine CW.reg ?_
  refine WL.val rfl (run_assign) ?_
  refine WL.val rfl (run_assign) ?_
  refine WL.nil ?_
  repeat (first | refine CW.seq ?_ | refine CW.block ?_ | refine CW.skip ?_ | refine CW.label ?_ | refine CW.exit ?_ | refine CW.condT rfl ?_ | refine CW.condF rfl ?_)
  refine CW.reg ?_
  refine WL.val rfl (run_move) ?_
  refine WL.enter rfl (run_call en34 rfl rfl) (parts_spec _ hg hs1) ?_
  rintro e w ⟨u, Lu, rfl, hu, hqs⟩
  refine ⟨_, rfl, ?_⟩
  have hs := hqs
  have hxx := cellsOf hu hs
  obtain ⟨a, c, hq3, hcl, hcx⟩ := hxx
  subst hq3
  refine WL.val rfl (run_assign) ?_
  refine WL.nil ?_
  by_cases hbig : 4096 < s.length ∨ 4096 < t.length
  · have e : matchR s t = (false, 2) := by rw [matchR, if_pos hbig]
    rw [e]
    repeat (first | refine CW.seq ?_ | refine CW.block ?_ | refine CW.skip ?_ | refine CW.label ?_ | refine CW.exit ?_ | refine CW.condT rfl ?_ | refine CW.condF rfl ?_)
    refine CW.reg ?_
    refine WL.val rfl (run_move) ?_
    refine WL.val rfl (run_lenStr Tryd.underlying9 rfl) ?_
    refine WL.val rfl (run_move) ?_
    refine WL.val rfl (run_lenStr Tryd.underlying9 rfl) ?_
    refine WL.val rfl (run_max rfl rfl) ?_
    refine WL.val rfl (run_bT (run_gtr rfl rfl) (by (split <;> omega))) ?_
    refine WL.val rfl (run_assign) ?_
    refine WL.nil ?_
    repeat (first | refine CW.seq ?_ | refine CW.block ?_ | refine CW.skip ?_ | refine CW.label ?_ | refine CW.exit ?_ | refine CW.condT rfl ?_ | refine CW.condF rfl ?_)
    refine CW.reg ?_
    refine WL.val rfl (run_assign) ?_
    refine WL.val rfl (run_assign) ?_
    refine WL.nil ?_
    repeat (first | refine CW.seq ?_ | refine CW.block ?_ | refine CW.skip ?_ | refine CW.label ?_ | refine CW.exit ?_ | refine CW.condT rfl ?_ | refine CW.condF rfl ?_)
    refine CW.ret ?_
    refine fin_ret2 rfl ?_
    exact ⟨rfl, hs.clear⟩
  · have hsl : s.length ≤ 4096 := by omega
    have htl : t.length ≤ 4096 := by omega
    by_cases hpat : (partsL s).all okPat = false
    · have e : matchR s t = (false, 34) := by rw [matchR, if_neg hbig, if_pos hpat]
      rw [e]
      repeat (first | refine CW.seq ?_ | refine CW.block ?_ | refine CW.skip ?_ | refine CW.label ?_ | refine CW.exit ?_ | refine CW.condT rfl ?_ | refine CW.condF rfl ?_)
      refine CW.reg ?_
      refine WL.val rfl (run_move) ?_
      refine WL.val rfl (run_lenStr Tryd.underlying9 rfl) ?_
      refine WL.val rfl (run_move) ?_
      refine WL.val rfl (run_lenStr Tryd.underlying9 rfl) ?_
      refine WL.val rfl (run_max rfl rfl) ?_
      refine WL.val rfl (run_bF (run_gtr rfl rfl) (by (split <;> omega))) ?_
      refine WL.val rfl (run_assign) ?_
      refine WL.nil ?_
      repeat (first | refine CW.seq ?_ | refine CW.block ?_ | refine CW.skip ?_ | refine CW.label ?_ | refine CW.exit ?_ | refine CW.condT rfl ?_ | refine CW.condF rfl ?_)
      refine CW.reg ?_
      refine WL.val rfl (run_move) ?_
      refine WL.enter rfl (run_call en38 rfl rfl) (isPattern_spec _ (hg.step (hs.dropR (L1 := []))) hcl (by omega) (fun p hp => Nat.lt_of_le_of_lt (partsL_le hp) hs1) hcx) ?_
      rintro e w ⟨rfl, hq⟩
      refine ⟨_, rfl, ?_⟩
      rw [hpat]
      replace hs := hs.callE hq
      first | refine WL.val rfl (run_notB rfl) ?_ | refine WL.val rfl (run_not rfl) ?_
      refine WL.val rfl (run_assign) ?_
      refine WL.nil ?_
      repeat (first | refine CW.seq ?_ | refine CW.block ?_ | refine CW.skip ?_ | refine CW.label ?_ | refine CW.exit ?_ | refine CW.condT rfl ?_ | refine CW.condF rfl ?_)
      refine CW.reg ?_
      refine WL.val rfl (run_assign) ?_
      refine WL.val rfl (run_assign) ?_
      refine WL.nil ?_
      repeat (first | refine CW.seq ?_ | refine CW.block ?_ | refine CW.skip ?_ | refine CW.label ?_ | refine CW.exit ?_ | refine CW.condT rfl ?_ | refine CW.condF rfl ?_)
      refine CW.ret ?_
      refine fin_ret2 rfl ?_
      exact ⟨rfl, hs.clear⟩
    · have hpat' : (partsL s).all okPat = true := by simpa using hpat
      by_cases hcln : isCleanL t = false
      · have e : matchR s t = (false, 31) := by rw [matchR, if_neg hbig, if_neg hpat, if_pos hcln]
        rw [e]
        repeat (first | refine CW.seq ?_ | refine CW.block ?_ | refine CW.skip ?_ | refine CW.label ?_ | refine CW.exit ?_ | refine CW.condT rfl ?_ | refine CW.condF rfl ?_)
        refine CW.reg ?_
        refine WL.val rfl (run_move) ?_
        refine WL.val rfl (run_lenStr Tryd.underlying9 rfl) ?_
        refine WL.val rfl (run_move) ?_
        refine WL.val rfl (run_lenStr Tryd.underlying9 rfl) ?_
        refine WL.val rfl (run_max rfl rfl) ?_
        refine WL.val rfl (run_bF (run_gtr rfl rfl) (by (split <;> omega))) ?_
        refine WL.val rfl (run_assign) ?_
        refine WL.nil ?_
        repeat (first | refine CW.seq ?_ | refine CW.block ?_ | refine CW.skip ?_ | refine CW.label ?_ | refine CW.exit ?_ | refine CW.condT rfl ?_ | refine CW.condF rfl ?_)
        refine CW.reg ?_
        refine WL.val rfl (run_move) ?_
        refine WL.enter rfl (run_call en38 rfl rfl) (isPattern_spec _ (hg.step (hs.dropR (L1 := []))) hcl (by omega) (fun p hp => Nat.lt_of_le_of_lt (partsL_le hp) hs1) hcx) ?_
        rintro e w ⟨rfl, hq⟩
        refine ⟨_, rfl, ?_⟩
        rw [hpat']
        replace hs := hs.callE hq
        first | refine WL.val rfl (run_notB rfl) ?_ | refine WL.val rfl (run_not rfl) ?_
        refine WL.val rfl (run_assign) ?_
        refine WL.nil ?_
        repeat (first | refine CW.seq ?_ | refine CW.block ?_ | refine CW.skip ?_ | refine CW.label ?_ | refine CW.exit ?_ | refine CW.condT rfl ?_ | refine CW.condF rfl ?_)
        refine CW.reg ?_
        refine WL.val rfl (run_move) ?_
        refine WL.enter rfl (run_call en16 rfl rfl) (isClean_spec _ (hg.step (hs.dropR (L1 := []))) ht1) ?_
        rintro e w ⟨rfl, hq⟩
        refine ⟨_, rfl, ?_⟩
        rw [hcln]
        replace hs := hs.callE hq
        first | refine WL.val rfl (run_notB rfl) ?_ | refine WL.val rfl (run_not rfl) ?_
        refine WL.val rfl (run_assign) ?_
        refine WL.nil ?_
        repeat (first | refine CW.seq ?_ | refine CW.block ?_ | refine CW.skip ?_ | refine CW.label ?_ | refine CW.exit ?_ | refine CW.condT rfl ?_ | refine CW.condF rfl ?_)
        refine CW.reg ?_
        refine WL.val rfl (run_assign) ?_
        refine WL.val rfl (run_assign) ?_
        refine WL.nil ?_
        repeat (first | refine CW.seq ?_ | refine CW.block ?_ | refine CW.skip ?_ | refine CW.label ?_ | refine CW.exit ?_ | refine CW.condT rfl ?_ | refine CW.condF rfl ?_)
        refine CW.ret ?_
        refine fin_ret2 rfl ?_
        exact ⟨rfl, hs.clear⟩
      · have hcln' : isCleanL t = true := by simpa using hcln
        have e : matchR s t = (matchM s t, 0) := by rw [matchR, if_neg hbig, if_neg hpat, if_neg hcln]
        rw [e]
        repeat (first | refine CW.seq ?_ | refine CW.block ?_ | refine CW.skip ?_ | refine CW.label ?_ | refine CW.exit ?_ | refine CW.condT rfl ?_ | refine CW.condF rfl ?_)
        refine CW.reg ?_
        refine WL.val rfl (run_move) ?_
        refine WL.val rfl (run_lenStr Tryd.underlying9 rfl) ?_
        refine WL.val rfl (run_move) ?_
        refine WL.val rfl (run_lenStr Tryd.underlying9 rfl) ?_
        refine WL.val rfl (run_max rfl rfl) ?_
        refine WL.val rfl (run_bF (run_gtr rfl rfl) (by (split <;> omega))) ?_
        refine WL.val rfl (run_assign) ?_
        refine WL.nil ?_
        repeat (first | refine CW.seq ?_ | refine CW.block ?_ | refine CW.skip ?_ | refine CW.label ?_ | refine CW.exit ?_ | refine CW.condT rfl ?_ | refine CW.condF rfl ?_)
        refine CW.reg ?_
        refine WL.val rfl (run_move) ?_
        refine WL.enter rfl (run_call en38 rfl rfl) (isPattern_spec _ (hg.step (hs.dropR (L1 := []))) hcl (by omega) (fun p hp => Nat.lt_of_le_of_lt (partsL_le hp) hs1) hcx) ?_
        rintro e w ⟨rfl, hq⟩
        refine ⟨_, rfl, ?_⟩
        rw [hpat']
        have hcx := Sl0.keep hcx hq
        replace hs := hs.callE hq
        first | refine WL.val rfl (run_notB rfl) ?_ | refine WL.val rfl (run_not rfl) ?_
        refine WL.val rfl (run_assign) ?_
        refine WL.nil ?_
        repeat (first | refine CW.seq ?_ | refine CW.block ?_ | refine CW.skip ?_ | refine CW.label ?_ | refine CW.exit ?_ | refine CW.condT rfl ?_ | refine CW.condF rfl ?_)
        refine CW.reg ?_
        refine WL.val rfl (run_move) ?_
        refine WL.enter rfl (run_call en16 rfl rfl) (isClean_spec _ (hg.step (hs.dropR (L1 := []))) ht1) ?_
        rintro e w ⟨rfl, hq⟩
        refine ⟨_, rfl, ?_⟩
        rw [hcln']
        have hcx := Sl0.keep hcx hq
        replace hs := hs.callE hq
        first | refine WL.val rfl (run_notB rfl) ?_ | refine WL.val rfl (run_not rfl) ?_
        refine WL.val rfl (run_assign) ?_
        refine WL.nil ?_
        replace hs := hs.dropR (L1 := [])
        repeat (first | refine CW.seq ?_ | refine CW.block ?_ | refine CW.skip ?_ | refine CW.label ?_ | refine CW.exit ?_ | refine CW.condT rfl ?_ | refine CW.condF rfl ?_)
        refine CW.reg ?_
        refine WL.val rfl (run_move) ?_
        refine WL.val rfl (run_move) ?_
        refine WL.enter rfl (run_call en34 rfl rfl) (parts_spec _ (hg.step hs) (by omega)) ?_
        rintro e w ⟨u2, Lv, rfl, hv, hq2⟩
        refine ⟨_, rfl, ?_⟩
        have hyy := cellsOf hv hq2
        obtain ⟨a2, c2, hq4, hcl2, hcy⟩ := hyy
        subst hq4
        have hcx2 := Sl0.keep hcx hq2
        replace hs := hs.call0 (hq2.dropR (L1 := []))
        refine WL.enter rfl (run_call en39 rfl rfl) (goes_spec _ en40 hcl hcl2 (by omega) (by omega) hcx2 hcy (fun p hp q hq _ w => named_spec w (Nat.lt_of_le_of_lt (partsL_le hp) hs1) (Nat.lt_of_le_of_lt (partsL_le hq) (by omega)))) ?_
        rintro e w ⟨rfl, hq⟩
        refine ⟨_, rfl, ?_⟩
        replace hs := hs.callE hq
        refine WL.val rfl (run_assign) ?_
        refine WL.val rfl (run_assign) ?_
        refine WL.nil ?_
        repeat (first | refine CW.seq ?_ | refine CW.block ?_ | refine CW.skip ?_ | refine CW.label ?_ | refine CW.exit ?_ | refine CW.condT rfl ?_ | refine CW.condF rfl ?_)
        refine CW.ret ?_
        refine fin_ret2 rfl ?_
        exact ⟨rfl, hs⟩
end Go.Gx
