/- Files in memory: a free place among the handles; bits of a mode. -/
import Derived.Test.YtepaojbhjgefiaaDoorVs13
namespace Go.Gx
open Go.Proofs
set_option linter.unusedVariables false
set_option linter.unusedSimpArgs false
set_option maxRecDepth 100000
section
variable {P : Program} {f : Slots} {w : World} {d : Option Tmp} {ty : TypeId} {pos : String} {af : Array Edge} {x y : Operand} {T T' E : TypeId} {a : Addr}
theorem run_and4 {m : Nat} (hm : m < 8) (hx : ev f x = .int .i64 (m : Nat)) (hy : ev f y = .int .i64 4) : (execOp (ev f) ⟨d, .binOp .and T x y T', ty, pos, af, none⟩).run P w = .ok (.value (.int .i64 ((if 4 ≤ m then 4 else 0 : Nat) : Int))) w := by
  match m, hm with
  | 0, _ | 1, _ | 2, _ | 3, _ | 4, _ | 5, _ | 6, _ | 7, _ =>
    simp [execOp, hx, hy, go_sem, Op.intBits]
    first | done | decide
theorem run_and3 {m : Nat} (hm : m < 8) (hx : ev f x = .int .i64 (m : Nat)) (hy : ev f y = .int .i64 3) : (execOp (ev f) ⟨d, .binOp .and T x y T', ty, pos, af, none⟩).run P w = .ok (.value (.int .i64 ((m % 4 : Nat) : Int))) w := by
  match m, hm with
  | 0, _ | 1, _ | 2, _ | 3, _ | 4, _ | 5, _ | 6, _ | 7, _ =>
    simp [execOp, hx, hy, go_sem, Op.intBits]
    first | done | decide
theorem run_nilPtr (hT : P.underlying T = some (.pointer E)) (hx : ev f x = .pointer none) (hy : ev f y = .pointer (some a)) : (execOp (ev f) ⟨d, .binOp .eql T x y T', ty, pos, af, none⟩).run P w = .ok (.value (.bool false)) w := by
  have h0 : ∀ d, (Op.equalIn (d + 1) T (.pointer none) (.pointer (some a))).run P w = .ok false w := fun d => by simp [Op.equalIn, run_underlying hT, sameAddr]
  have h : (Op.equal T (.pointer none) (.pointer (some a))).run P w = .ok false w := h0 9999
  simp [execOp, hx, hy, eqGuard, binOp, h]
end
/-- The first place that is free, or -1. -/
def freeI (Hs : List (Option HB)) : Int := match Hs.findIdx? Option.isNone with
  | some k => (k : Nat)
  | none => -1
theorem free_none {Hs : List (Option HB)} (h : ∀ k, k < Hs.length → Hs[k]? ≠ some none) : freeI Hs = -1 := by
  unfold freeI
  rw [List.findIdx?_eq_none_iff.2 fun x hx => by
    have hobt := List.mem_iff_getElem.1 hx
    obtain ⟨k, hk, e⟩ := hobt
    cases x with
    | some b => rfl
    | none => exact absurd (by rw [List.getElem?_eq_getElem hk, e]) (h k hk)]
theorem free_some {Hs : List (Option HB)} {i : Nat} (h : ∀ k, k < i → Hs[k]? ≠ some none) (hi : Hs[i]? = some none) : freeI Hs = (i : Nat) := by
  have hobt := List.getElem?_eq_some_iff.1 hi
  obtain ⟨hl, he⟩ := hobt
  have : Hs.findIdx? Option.isNone = some i := by
    rw [List.findIdx?_eq_some_iff_getElem]
    refine ⟨hl, by rw [he]; rfl, fun j hj => ?_⟩
    have h2 := h j hj
    rw [List.getElem?_eq_getElem (by omega)] at h2
    cases hx : Hs[j] with
    | some b => simp
    | none => rw [hx] at h2; exact absurd rfl h2
  unfold freeI
  rw [this]
theorem idx_spec {Hs : List (Option HB)} {vh : Value} (w0 : World) (hsl : Sl w0 1 vh Hs.length (Hs.map HB.val)) (hl : Hs.length ≤ 1000) : Calls Tryd.prog 32 #[vh, .pointer none] w0 (Ret0 (.int .i64 (freeI Hs)) w0) := by
  have hs : Step [] [] w0 w0 := Step.refl w0
  have hobt := hsl.form
  obtain ⟨ah, ch, rfl⟩ := hobt
  refine calls (n := 19) Tryd.func32 rfl rfl rfl ?_
  repeat (first | refine CW.seq ?_ | refine CW.block ?_ | refine CW.skip ?_ | refine CW.label ?_ | refine CW.exit ?_ | refine CW.condT rfl ?_ | refine CW.condF rfl ?_)
  refine CW.reg ?_
  refine WL.val rfl (run_assign) ?_
  refine WL.nil ?_
  repeat (first | refine CW.seq ?_ | refine CW.block ?_ | refine CW.skip ?_ | refine CW.label ?_ | refine CW.exit ?_ | refine CW.condT rfl ?_ | refine CW.condF rfl ?_)
  refine CW.reg ?_
  refine WL.val rfl (run_move) ?_
  refine WL.val rfl (run_lenSl Tryd.underlying79 rfl) ?_
  refine WL.val rfl (run_move) ?_
  refine WL.nil ?_
  repeat (first | refine CW.seq ?_ | refine CW.block ?_ | refine CW.skip ?_ | refine CW.label ?_ | refine CW.exit ?_ | refine CW.condT rfl ?_ | refine CW.condF rfl ?_)
  refine CW.loop (fun m f w' => ∃ i, i ≤ Hs.length ∧ m = Hs.length - i ∧ (∀ k, k < i → Hs[k]? ≠ some none) ∧ Step [] [] w0 w' ∧ Holds f [(0, .slice ah Hs.length ch), (1, .pointer none), (7, .int .i64 Hs.length), (8, .int .i64 i)]) (m := Hs.length) ?_ ?_
  · exact ⟨0, by omega, by omega, fun k hk => by omega, hs, rfl, rfl, rfl, rfl, trivial⟩
  · clear hs
    rintro m f w ⟨i, hi, rfl, hno, hs, hf⟩
    have hobt := hf.chain
    obtain ⟨g, rfl⟩ := hobt
    by_cases hlt : i < Hs.length
    · have hobt := (hsl.step0 hs).based (by omega)
      obtain ⟨b, off, c, hc, hsat⟩ := hobt
      have hcell : ∀ {v}, Hs[i]? = some v → w.cell? ⟨b, off + i * 1, none⟩ = some (HB.val v) := fun {v} h => by
        rw [Nat.mul_one]
        exact hsat.cell (by rw [List.getElem?_map, h]; rfl)
      injection hc with hc1 hc2 hc3
      subst hc1
      cases hx : Hs[i] with
      | none =>
        have hxi : Hs[i]? = some none := by rw [List.getElem?_eq_getElem hlt, hx]
        have hres := free_some hno hxi
        rw [hres]
        repeat (first | refine CW.seq ?_ | refine CW.block ?_ | refine CW.skip ?_ | refine CW.label ?_ | refine CW.exit ?_ | refine CW.condT rfl ?_ | refine CW.condF rfl ?_)
        refine CW.reg ?_
        refine WL.val rfl (run_bT (run_lss rfl rfl) (by omega)) ?_
        refine WL.nil ?_
        repeat (first | refine CW.seq ?_ | refine CW.block ?_ | refine CW.skip ?_ | refine CW.label ?_ | refine CW.exit ?_ | refine CW.condT rfl ?_ | refine CW.condF rfl ?_)
        refine CW.reg ?_
        refine WL.val rfl (run_move) ?_
        refine WL.val rfl (run_assign) ?_
        refine WL.nil ?_
        repeat (first | refine CW.seq ?_ | refine CW.block ?_ | refine CW.skip ?_ | refine CW.label ?_ | refine CW.exit ?_ | refine CW.condT rfl ?_ | refine CW.condF rfl ?_)
        refine CW.reg ?_
        refine WL.val rfl (run_move) ?_
        refine WL.val rfl (run_move) ?_
        refine WL.val rfl (run_move) ?_
        first | refine WL.val rfl (run_ixSlN Tryd.underlying79 ty91 rfl rfl (by omega)) ?_ | refine WL.val rfl (run_ixSl Tryd.underlying79 ty91 rfl rfl (by omega)) ?_
        refine WL.val rfl (run_load1 ty91 rfl ((hcell hxi))) ?_
        refine WL.val rfl (run_nilNil Tryd.underlying91 rfl rfl) ?_
        refine WL.nil ?_
        repeat (first | refine CW.seq ?_ | refine CW.block ?_ | refine CW.skip ?_ | refine CW.label ?_ | refine CW.exit ?_)
        first | refine CW.condP rfl (fun h => ?_) (fun h => ?_) | refine CW.cond rfl (fun h => ?_) (fun h => ?_)
        · repeat (first | refine CW.seq ?_ | refine CW.block ?_ | refine CW.skip ?_ | refine CW.label ?_ | refine CW.exit ?_ | refine CW.condT rfl ?_ | refine CW.condF rfl ?_)
          refine CW.reg ?_
          refine WL.val rfl (run_move) ?_
          refine WL.val rfl (run_assign) ?_
          refine WL.nil ?_
          repeat (first | refine CW.seq ?_ | refine CW.block ?_ | refine CW.skip ?_ | refine CW.label ?_ | refine CW.exit ?_ | refine CW.condT rfl ?_ | refine CW.condF rfl ?_)
          refine CW.ret ?_
          refine fin_ret1 rfl ?_
          exact ⟨rfl, hs⟩
        · cases h
      | some hb =>
        have hxi : Hs[i]? = some (some hb) := by rw [List.getElem?_eq_getElem hlt, hx]
        repeat (first | refine CW.seq ?_ | refine CW.block ?_ | refine CW.skip ?_ | refine CW.label ?_ | refine CW.exit ?_ | refine CW.condT rfl ?_ | refine CW.condF rfl ?_)
        refine CW.reg ?_
        refine WL.val rfl (run_bT (run_lss rfl rfl) (by omega)) ?_
        refine WL.nil ?_
        repeat (first | refine CW.seq ?_ | refine CW.block ?_ | refine CW.skip ?_ | refine CW.label ?_ | refine CW.exit ?_ | refine CW.condT rfl ?_ | refine CW.condF rfl ?_)
        refine CW.reg ?_
        refine WL.val rfl (run_move) ?_
        refine WL.val rfl (run_assign) ?_
        refine WL.nil ?_
        repeat (first | refine CW.seq ?_ | refine CW.block ?_ | refine CW.skip ?_ | refine CW.label ?_ | refine CW.exit ?_ | refine CW.condT rfl ?_ | refine CW.condF rfl ?_)
        refine CW.reg ?_
        refine WL.val rfl (run_move) ?_
        refine WL.val rfl (run_move) ?_
        refine WL.val rfl (run_move) ?_
        first | refine WL.val rfl (run_ixSlN Tryd.underlying79 ty91 rfl rfl (by omega)) ?_ | refine WL.val rfl (run_ixSl Tryd.underlying79 ty91 rfl rfl (by omega)) ?_
        refine WL.val rfl (run_load1 ty91 rfl ((hcell hxi))) ?_
        refine WL.val rfl (run_nilPtr Tryd.underlying91 rfl rfl) ?_
        refine WL.nil ?_
        repeat (first | refine CW.seq ?_ | refine CW.block ?_ | refine CW.skip ?_ | refine CW.label ?_ | refine CW.exit ?_)
        first | refine CW.condP rfl (fun h => ?_) (fun h => ?_) | refine CW.cond rfl (fun h => ?_) (fun h => ?_)
        · cases h
        repeat (first | refine CW.seq ?_ | refine CW.block ?_ | refine CW.skip ?_ | refine CW.label ?_ | refine CW.exit ?_ | refine CW.condT rfl ?_ | refine CW.condF rfl ?_)
        refine CW.reg ?_
        refine WL.val rfl (run_add (c := ((i + 1 : Nat) : Int)) rfl rfl (by omega) (by omega)) ?_
        refine WL.val rfl (run_move) ?_
        refine WL.nil ?_
        repeat (first | refine CW.seq ?_ | refine CW.block ?_ | refine CW.skip ?_ | refine CW.label ?_ | refine CW.exit ?_)
        refine (show _ ∧ _ from ⟨rfl, _, ?_, i + 1, by omega, rfl, ?_, hs, rfl, rfl, rfl, rfl, trivial⟩)
        · omega
        · intro k hk
          by_cases hki : k = i
          · rw [hki, hxi]
            simp
          · exact hno k (by omega)
    · have hres := free_none (fun k hk => hno k (by omega))
      rw [hres]
      repeat (first | refine CW.seq ?_ | refine CW.block ?_ | refine CW.skip ?_ | refine CW.label ?_ | refine CW.exit ?_ | refine CW.condT rfl ?_ | refine CW.condF rfl ?_)
      refine CW.reg ?_
      refine WL.val rfl (run_bF (run_lss rfl rfl) (by omega)) ?_
      refine WL.nil ?_
      repeat (first | refine CW.seq ?_ | refine CW.block ?_ | refine CW.skip ?_ | refine CW.label ?_ | refine CW.exit ?_ | refine CW.condT rfl ?_ | refine CW.condF rfl ?_)
      refine CW.reg ?_
      refine WL.val rfl (run_assign) ?_
      refine WL.nil ?_
      repeat (first | refine CW.seq ?_ | refine CW.block ?_ | refine CW.skip ?_ | refine CW.label ?_ | refine CW.exit ?_ | refine CW.condT rfl ?_ | refine CW.condF rfl ?_)
      refine CW.ret ?_
      refine fin_ret1 rfl ?_
      exact ⟨rfl, hs⟩
end Go.Gx
