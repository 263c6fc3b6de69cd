/- Files in memory: small methods. -/
import Derived.Test.YtepaojbhjgefiaaDoorVs1
import Derived.Test.YtepaojbhjgefiaaDoorBase
namespace Go.Gx
open Go.Proofs
set_option linter.unusedVariables false
set_option linter.unusedSimpArgs false
set_option maxRecDepth 100000
section
variable {P : Program} {f : Slots} {w : World} {d : Option Tmp} {ty : TypeId} {pos : String} {af : Array Edge} {x y : Operand} {T T' E : TypeId} {a : Addr}
theorem run_ptrNil (hT : P.underlying T = some (.pointer E)) (hx : ev f x = .pointer (some a)) (hy : ev f y = .pointer none) : (execOp (ev f) ⟨d, .binOp .eql T x y T', ty, pos, af, none⟩).run P w = .ok (.value (.bool false)) w := by
  have h0 : ∀ d, (Op.equalIn (d + 1) T (.pointer (some a)) (.pointer none)).run P w = .ok false w := fun d => by simp [Op.equalIn, run_underlying hT, sameAddr]
  have h : (Op.equal T (.pointer (some a)) (.pointer none)).run P w = .ok false w := h0 9999
  simp [execOp, hx, hy, eqGuard, binOp, h]
theorem run_ptrNilNe (hT : P.underlying T = some (.pointer E)) (hx : ev f x = .pointer (some a)) (hy : ev f y = .pointer none) : (execOp (ev f) ⟨d, .binOp .neq T x y T', ty, pos, af, none⟩).run P w = .ok (.value (.bool true)) w := by
  have h0 : ∀ d, (Op.equalIn (d + 1) T (.pointer (some a)) (.pointer none)).run P w = .ok false w := fun d => by simp [Op.equalIn, run_underlying hT, sameAddr]
  have h : (Op.equal T (.pointer (some a)) (.pointer none)).run P w = .ok false w := h0 9999
  simp [execOp, hx, hy, eqGuard, binOp, h]
theorem run_nilNil (hT : P.underlying T = some (.pointer E)) (hx : ev f x = .pointer none) (hy : ev f y = .pointer none) : (execOp (ev f) ⟨d, .binOp .eql T x y T', ty, pos, af, none⟩).run P w = .ok (.value (.bool true)) w := by
  have h0 : ∀ d, (Op.equalIn (d + 1) T (.pointer none) (.pointer none)).run P w = .ok true w := fun d => by simp [Op.equalIn, run_underlying hT, sameAddr]
  have h : (Op.equal T (.pointer none) (.pointer none)).run P w = .ok true w := h0 9999
  simp [execOp, hx, hy, eqGuard, binOp, h]
theorem run_nilNe (hT : P.underlying T = some (.pointer E)) (hx : ev f x = .pointer none) (hy : ev f y = .pointer none) : (execOp (ev f) ⟨d, .binOp .neq T x y T', ty, pos, af, none⟩).run P w = .ok (.value (.bool false)) w := by
  have h0 : ∀ d, (Op.equalIn (d + 1) T (.pointer none) (.pointer none)).run P w = .ok true w := fun d => by simp [Op.equalIn, run_underlying hT, sameAddr]
  have h : (Op.equal T (.pointer none) (.pointer none)).run P w = .ok true w := h0 9999
  simp [execOp, hx, hy, eqGuard, binOp, h]
end
theorem Sl.based {w : World} {v : Value} {n : Nat} {cs : List Value} (h : Sl w 1 v n cs) (h0 : 0 < n) : ∃ b off c, v = .slice (some ⟨b, off, none⟩) n c ∧ At w b off cs := by
  obtain ⟨hl, ⟨a, c, hc, h1⟩ | ⟨b, off, c, hc, hat⟩⟩ := h
  · omega
  · exact ⟨b, off, c, hc, hat⟩
section
variable {bf mf md : Nat} {s : VS} {L Lh : List (Nat × Obj)} {vh : Value} {Fs : List FB} {Ds : List DB} {Hs : List (Option HB)} {w0 : World}
theorem VOpen.his (o : VOpen bf s L mf md vh Lh Fs Ds Hs) (h : Int) : (s.is h = none ∧ (h < 0 ∨ (Hs.length : Int) ≤ h ∨ ∃ k : Nat, h = k ∧ Hs[k]? = some none)) ∨ ∃ (k : Nat) (hb : HB), h = k ∧ Hs[k]? = some (some hb) ∧ s.is h = some (hb.i, hb.pl, hb.mo) := by
  have hH := o.H
  by_cases h0 : 0 ≤ h
  · have hobt : ∃ k : Nat, h = k := ⟨h.toNat, by omega⟩
    obtain ⟨k, rfl⟩ := hobt
    have e : s.is (k : Int) = (s.H[k]?).join := by unfold VS.is; rw [if_pos h0, Int.toNat_natCast]
    rw [e, ← hH, List.getElem?_map]
    cases hk : Hs[k]? with
    | none =>
      refine .inl ⟨rfl, .inr (.inl ?_)⟩
      have := List.getElem?_eq_none_iff.1 hk
      omega
    | some x =>
      cases x with
      | none => exact .inl ⟨rfl, .inr (.inr ⟨k, rfl, hk⟩)⟩
      | some hb => exact .inr ⟨k, hb, rfl, hk, rfl⟩
  · refine .inl ⟨?_, .inl (by omega)⟩
    unfold VS.is
    rw [if_neg h0]
theorem is_none (o : VOpen bf s L mf md vh Lh Fs Ds Hs) (ok : s.Ok) (hw : ∀ p ∈ L, w0.heap[p.1]? = some p.2) {h : Int} (hn : s.is h = none) : Calls Tryd.prog 33 #[.pointer (some ⟨bf, 0, none⟩), .int .i64 h] w0 (Ret0 (.tuple #[.pointer none, .int .i64 95]) w0) := by
  have hs : Step [] [] w0 w0 := Step.refl w0
  have hat := o.at hw
  have hsl := o.hsl hw
  have hobt := hsl.form
  obtain ⟨ah, ch, rfl⟩ := hobt
  have hlen : Hs.length ≤ 1000 := by have := ok.h; rw [← o.H, List.length_map] at this; exact this
  rcases o.his h with ⟨_, hc⟩ | ⟨k, hb, rfl, h1, h2⟩
  · rcases hc with hc | hc | ⟨k, rfl, hk⟩
    · refine calls (n := 34) Tryd.func33 rfl rfl rfl ?_
      repeat (first | refine CW.seq ?_ | refine CW.block ?_ | refine CW.skip ?_ | refine CW.label ?_ | refine CW.exit ?_ | refine CW.condT rfl ?_ | refine CW.condF rfl ?_)
      refine CW.reg ?_
      refine WL.val rfl (run_assign) ?_
      refine WL.val rfl (run_assign) ?_
      refine WL.nil ?_
      repeat (first | refine CW.seq ?_ | refine CW.block ?_ | refine CW.skip ?_ | refine CW.label ?_ | refine CW.exit ?_ | refine CW.condT rfl ?_ | refine CW.condF rfl ?_)
      refine CW.reg ?_
      refine WL.val rfl (run_move) ?_
      refine WL.val rfl (run_bT (run_lss rfl rfl) (by omega)) ?_
      refine WL.val rfl (run_move) ?_
      first | (refine WL.yes rfl rfl rfl ?_; refine WL.val rfl (run_move) ?_) | refine WL.no rfl rfl rfl (.inl rfl) ?_ | refine WL.no rfl rfl rfl (.inr rfl) ?_
      first | (refine WL.yes rfl rfl rfl ?_; refine WL.val rfl (run_move) ?_) | refine WL.no rfl rfl rfl (.inl rfl) ?_ | refine WL.no rfl rfl rfl (.inr rfl) ?_
      first | (refine WL.yes rfl rfl rfl ?_; refine WL.val rfl (run_nilCheck rfl) ?_) | refine WL.no rfl rfl rfl (.inl rfl) ?_ | refine WL.no rfl rfl rfl (.inr rfl) ?_
      first | (refine WL.yes rfl rfl rfl ?_; refine WL.val rfl (run_field (o' := 2) Tryd.underlying81 rfl ty79 rfl rfl rfl) ?_) | refine WL.no rfl rfl rfl (.inl rfl) ?_ | refine WL.no rfl rfl rfl (.inr rfl) ?_
      first | (refine WL.yes rfl rfl rfl ?_; (first | refine WL.val rfl (run_load1 ty79 rfl (hs.c0 rfl)) ?_ | refine WL.val rfl (run_load1 ty79 rfl (hs.c1 rfl)) ?_ | refine WL.val rfl (run_load1 ty79 rfl (hs.c2 rfl)) ?_ | refine WL.val rfl (run_load1 ty79 rfl (hs.c3 rfl)) ?_ | refine WL.val rfl (run_load1 ty79 rfl (hs.c4 rfl)) ?_ | refine WL.val rfl (run_load1 ty79 rfl (hs.c5 rfl)) ?_ | refine WL.val rfl (run_load1 ty79 rfl (hs.c0 rfl)) ?_)) | refine WL.no rfl rfl rfl (.inl rfl) ?_ | refine WL.no rfl rfl rfl (.inr rfl) ?_
      first | (refine WL.yes rfl rfl rfl ?_; refine WL.val rfl (run_lenSl Tryd.underlying79 rfl) ?_) | refine WL.no rfl rfl rfl (.inl rfl) ?_ | refine WL.no rfl rfl rfl (.inr rfl) ?_
      first | (refine WL.yes rfl rfl rfl ?_; refine WL.val rfl (run_geq rfl rfl) ?_) | refine WL.no rfl rfl rfl (.inl rfl) ?_ | refine WL.no rfl rfl rfl (.inr rfl) ?_
      first | refine WL.val rfl (run_pickT rfl) ?_ | refine WL.val rfl (run_pickF rfl) ?_
      refine WL.val rfl (run_move) ?_
      first | (refine WL.yes rfl rfl rfl ?_; refine WL.val rfl (run_move) ?_) | refine WL.no rfl rfl rfl (.inl rfl) ?_ | refine WL.no rfl rfl rfl (.inr rfl) ?_
      first | (refine WL.yes rfl rfl rfl ?_; refine WL.val rfl (run_nilCheck rfl) ?_) | refine WL.no rfl rfl rfl (.inl rfl) ?_ | refine WL.no rfl rfl rfl (.inr rfl) ?_
      first | (refine WL.yes rfl rfl rfl ?_; refine WL.val rfl (run_field (o' := 2) Tryd.underlying81 rfl ty79 rfl rfl rfl) ?_) | refine WL.no rfl rfl rfl (.inl rfl) ?_ | refine WL.no rfl rfl rfl (.inr rfl) ?_
      first | (refine WL.yes rfl rfl rfl ?_; (first | refine WL.val rfl (run_load1 ty79 rfl (hs.c0 rfl)) ?_ | refine WL.val rfl (run_load1 ty79 rfl (hs.c1 rfl)) ?_ | refine WL.val rfl (run_load1 ty79 rfl (hs.c2 rfl)) ?_ | refine WL.val rfl (run_load1 ty79 rfl (hs.c3 rfl)) ?_ | refine WL.val rfl (run_load1 ty79 rfl (hs.c4 rfl)) ?_ | refine WL.val rfl (run_load1 ty79 rfl (hs.c5 rfl)) ?_ | refine WL.val rfl (run_load1 ty79 rfl (hs.c0 rfl)) ?_)) | refine WL.no rfl rfl rfl (.inl rfl) ?_ | refine WL.no rfl rfl rfl (.inr rfl) ?_
      first | (refine WL.yes rfl rfl rfl ?_; refine WL.val rfl (run_move) ?_) | refine WL.no rfl rfl rfl (.inl rfl) ?_ | refine WL.no rfl rfl rfl (.inr rfl) ?_
      first | (refine WL.yes rfl rfl rfl ?_; (first | refine WL.val rfl (run_ixSlN Tryd.underlying79 ty91 rfl rfl (by omega)) ?_ | refine WL.val rfl (run_ixSl Tryd.underlying79 ty91 rfl rfl (by omega)) ?_)) | refine WL.no rfl rfl rfl (.inl rfl) ?_ | refine WL.no rfl rfl rfl (.inr rfl) ?_
      first | (refine WL.yes rfl rfl rfl ?_; (first | refine WL.val rfl (run_load1 ty91 rfl (hs.c0 rfl)) ?_ | refine WL.val rfl (run_load1 ty91 rfl (hs.c1 rfl)) ?_ | refine WL.val rfl (run_load1 ty91 rfl (hs.c2 rfl)) ?_ | refine WL.val rfl (run_load1 ty91 rfl (hs.c3 rfl)) ?_ | refine WL.val rfl (run_load1 ty91 rfl (hs.c4 rfl)) ?_ | refine WL.val rfl (run_load1 ty91 rfl (hs.c5 rfl)) ?_ | refine WL.val rfl (run_load1 ty91 rfl (hs.c0 rfl)) ?_)) | refine WL.no rfl rfl rfl (.inl rfl) ?_ | refine WL.no rfl rfl rfl (.inr rfl) ?_
      first | refine WL.no rfl rfl rfl (.inl rfl) ?_ | refine WL.no rfl rfl rfl (.inr rfl) ?_
      first | refine WL.val rfl (run_pickT rfl) ?_ | refine WL.val rfl (run_pickF rfl) ?_
      refine WL.nil ?_
      repeat (first | refine CW.seq ?_ | refine CW.block ?_ | refine CW.skip ?_ | refine CW.label ?_ | refine CW.exit ?_)
      first | refine CW.condP rfl (fun h => ?_) (fun h => ?_) | refine CW.cond rfl (fun h => ?_) (fun h => ?_)
      · repeat (first | refine CW.seq ?_ | refine CW.block ?_ | refine CW.skip ?_ | refine CW.label ?_ | refine CW.exit ?_ | refine CW.condT rfl ?_ | refine CW.condF rfl ?_)
        refine CW.reg ?_
        refine WL.val rfl (run_assign) ?_
        refine WL.val rfl (run_assign) ?_
        refine WL.nil ?_
        repeat (first | refine CW.seq ?_ | refine CW.block ?_ | refine CW.skip ?_ | refine CW.label ?_ | refine CW.exit ?_ | refine CW.condT rfl ?_ | refine CW.condF rfl ?_)
        refine CW.ret ?_
        refine fin_ret2 rfl ?_
        exact ⟨rfl, hs⟩
      · cases h
    · by_cases hneg : h < 0
      · refine calls (n := 34) Tryd.func33 rfl rfl rfl ?_
        repeat (first | refine CW.seq ?_ | refine CW.block ?_ | refine CW.skip ?_ | refine CW.label ?_ | refine CW.exit ?_ | refine CW.condT rfl ?_ | refine CW.condF rfl ?_)
        refine CW.reg ?_
        refine WL.val rfl (run_assign) ?_
        refine WL.val rfl (run_assign) ?_
        refine WL.nil ?_
        repeat (first | refine CW.seq ?_ | refine CW.block ?_ | refine CW.skip ?_ | refine CW.label ?_ | refine CW.exit ?_ | refine CW.condT rfl ?_ | refine CW.condF rfl ?_)
        refine CW.reg ?_
        refine WL.val rfl (run_move) ?_
        refine WL.val rfl (run_bT (run_lss rfl rfl) (by omega)) ?_
        refine WL.val rfl (run_move) ?_
        first | (refine WL.yes rfl rfl rfl ?_; refine WL.val rfl (run_move) ?_) | refine WL.no rfl rfl rfl (.inl rfl) ?_ | refine WL.no rfl rfl rfl (.inr rfl) ?_
        first | (refine WL.yes rfl rfl rfl ?_; refine WL.val rfl (run_move) ?_) | refine WL.no rfl rfl rfl (.inl rfl) ?_ | refine WL.no rfl rfl rfl (.inr rfl) ?_
        first | (refine WL.yes rfl rfl rfl ?_; refine WL.val rfl (run_nilCheck rfl) ?_) | refine WL.no rfl rfl rfl (.inl rfl) ?_ | refine WL.no rfl rfl rfl (.inr rfl) ?_
        first | (refine WL.yes rfl rfl rfl ?_; refine WL.val rfl (run_field (o' := 2) Tryd.underlying81 rfl ty79 rfl rfl rfl) ?_) | refine WL.no rfl rfl rfl (.inl rfl) ?_ | refine WL.no rfl rfl rfl (.inr rfl) ?_
        first | (refine WL.yes rfl rfl rfl ?_; (first | refine WL.val rfl (run_load1 ty79 rfl (hs.c0 rfl)) ?_ | refine WL.val rfl (run_load1 ty79 rfl (hs.c1 rfl)) ?_ | refine WL.val rfl (run_load1 ty79 rfl (hs.c2 rfl)) ?_ | refine WL.val rfl (run_load1 ty79 rfl (hs.c3 rfl)) ?_ | refine WL.val rfl (run_load1 ty79 rfl (hs.c4 rfl)) ?_ | refine WL.val rfl (run_load1 ty79 rfl (hs.c5 rfl)) ?_ | refine WL.val rfl (run_load1 ty79 rfl (hs.c0 rfl)) ?_)) | refine WL.no rfl rfl rfl (.inl rfl) ?_ | refine WL.no rfl rfl rfl (.inr rfl) ?_
        first | (refine WL.yes rfl rfl rfl ?_; refine WL.val rfl (run_lenSl Tryd.underlying79 rfl) ?_) | refine WL.no rfl rfl rfl (.inl rfl) ?_ | refine WL.no rfl rfl rfl (.inr rfl) ?_
        first | (refine WL.yes rfl rfl rfl ?_; refine WL.val rfl (run_geq rfl rfl) ?_) | refine WL.no rfl rfl rfl (.inl rfl) ?_ | refine WL.no rfl rfl rfl (.inr rfl) ?_
        first | refine WL.val rfl (run_pickT rfl) ?_ | refine WL.val rfl (run_pickF rfl) ?_
        refine WL.val rfl (run_move) ?_
        first | (refine WL.yes rfl rfl rfl ?_; refine WL.val rfl (run_move) ?_) | refine WL.no rfl rfl rfl (.inl rfl) ?_ | refine WL.no rfl rfl rfl (.inr rfl) ?_
        first | (refine WL.yes rfl rfl rfl ?_; refine WL.val rfl (run_nilCheck rfl) ?_) | refine WL.no rfl rfl rfl (.inl rfl) ?_ | refine WL.no rfl rfl rfl (.inr rfl) ?_
        first | (refine WL.yes rfl rfl rfl ?_; refine WL.val rfl (run_field (o' := 2) Tryd.underlying81 rfl ty79 rfl rfl rfl) ?_) | refine WL.no rfl rfl rfl (.inl rfl) ?_ | refine WL.no rfl rfl rfl (.inr rfl) ?_
        first | (refine WL.yes rfl rfl rfl ?_; (first | refine WL.val rfl (run_load1 ty79 rfl (hs.c0 rfl)) ?_ | refine WL.val rfl (run_load1 ty79 rfl (hs.c1 rfl)) ?_ | refine WL.val rfl (run_load1 ty79 rfl (hs.c2 rfl)) ?_ | refine WL.val rfl (run_load1 ty79 rfl (hs.c3 rfl)) ?_ | refine WL.val rfl (run_load1 ty79 rfl (hs.c4 rfl)) ?_ | refine WL.val rfl (run_load1 ty79 rfl (hs.c5 rfl)) ?_ | refine WL.val rfl (run_load1 ty79 rfl (hs.c0 rfl)) ?_)) | refine WL.no rfl rfl rfl (.inl rfl) ?_ | refine WL.no rfl rfl rfl (.inr rfl) ?_
        first | (refine WL.yes rfl rfl rfl ?_; refine WL.val rfl (run_move) ?_) | refine WL.no rfl rfl rfl (.inl rfl) ?_ | refine WL.no rfl rfl rfl (.inr rfl) ?_
        first | (refine WL.yes rfl rfl rfl ?_; (first | refine WL.val rfl (run_ixSlN Tryd.underlying79 ty91 rfl rfl (by omega)) ?_ | refine WL.val rfl (run_ixSl Tryd.underlying79 ty91 rfl rfl (by omega)) ?_)) | refine WL.no rfl rfl rfl (.inl rfl) ?_ | refine WL.no rfl rfl rfl (.inr rfl) ?_
        first | (refine WL.yes rfl rfl rfl ?_; (first | refine WL.val rfl (run_load1 ty91 rfl (hs.c0 rfl)) ?_ | refine WL.val rfl (run_load1 ty91 rfl (hs.c1 rfl)) ?_ | refine WL.val rfl (run_load1 ty91 rfl (hs.c2 rfl)) ?_ | refine WL.val rfl (run_load1 ty91 rfl (hs.c3 rfl)) ?_ | refine WL.val rfl (run_load1 ty91 rfl (hs.c4 rfl)) ?_ | refine WL.val rfl (run_load1 ty91 rfl (hs.c5 rfl)) ?_ | refine WL.val rfl (run_load1 ty91 rfl (hs.c0 rfl)) ?_)) | refine WL.no rfl rfl rfl (.inl rfl) ?_ | refine WL.no rfl rfl rfl (.inr rfl) ?_
        first | refine WL.no rfl rfl rfl (.inl rfl) ?_ | refine WL.no rfl rfl rfl (.inr rfl) ?_
        first | refine WL.val rfl (run_pickT rfl) ?_ | refine WL.val rfl (run_pickF rfl) ?_
        refine WL.nil ?_
        repeat (first | refine CW.seq ?_ | refine CW.block ?_ | refine CW.skip ?_ | refine CW.label ?_ | refine CW.exit ?_)
        first | refine CW.condP rfl (fun h => ?_) (fun h => ?_) | refine CW.cond rfl (fun h => ?_) (fun h => ?_)
        · repeat (first | refine CW.seq ?_ | refine CW.block ?_ | refine CW.skip ?_ | refine CW.label ?_ | refine CW.exit ?_ | refine CW.condT rfl ?_ | refine CW.condF rfl ?_)
          refine CW.reg ?_
          refine WL.val rfl (run_assign) ?_
          refine WL.val rfl (run_assign) ?_
          refine WL.nil ?_
          repeat (first | refine CW.seq ?_ | refine CW.block ?_ | refine CW.skip ?_ | refine CW.label ?_ | refine CW.exit ?_ | refine CW.condT rfl ?_ | refine CW.condF rfl ?_)
          refine CW.ret ?_
          refine fin_ret2 rfl ?_
          exact ⟨rfl, hs⟩
        · cases h
      · refine calls (n := 34) Tryd.func33 rfl rfl rfl ?_
        repeat (first | refine CW.seq ?_ | refine CW.block ?_ | refine CW.skip ?_ | refine CW.label ?_ | refine CW.exit ?_ | refine CW.condT rfl ?_ | refine CW.condF rfl ?_)
        refine CW.reg ?_
        refine WL.val rfl (run_assign) ?_
        refine WL.val rfl (run_assign) ?_
        refine WL.nil ?_
        repeat (first | refine CW.seq ?_ | refine CW.block ?_ | refine CW.skip ?_ | refine CW.label ?_ | refine CW.exit ?_ | refine CW.condT rfl ?_ | refine CW.condF rfl ?_)
        refine CW.reg ?_
        refine WL.val rfl (run_move) ?_
        refine WL.val rfl (run_bF (run_lss rfl rfl) (by omega)) ?_
        refine WL.val rfl (run_move) ?_
        first | (refine WL.yes rfl rfl rfl ?_; refine WL.val rfl (run_move) ?_) | refine WL.no rfl rfl rfl (.inl rfl) ?_ | refine WL.no rfl rfl rfl (.inr rfl) ?_
        first | (refine WL.yes rfl rfl rfl ?_; refine WL.val rfl (run_move) ?_) | refine WL.no rfl rfl rfl (.inl rfl) ?_ | refine WL.no rfl rfl rfl (.inr rfl) ?_
        first | (refine WL.yes rfl rfl rfl ?_; refine WL.val rfl (run_nilCheck rfl) ?_) | refine WL.no rfl rfl rfl (.inl rfl) ?_ | refine WL.no rfl rfl rfl (.inr rfl) ?_
        first | (refine WL.yes rfl rfl rfl ?_; refine WL.val rfl (run_field (o' := 2) Tryd.underlying81 rfl ty79 rfl rfl rfl) ?_) | refine WL.no rfl rfl rfl (.inl rfl) ?_ | refine WL.no rfl rfl rfl (.inr rfl) ?_
        refine WL.yes rfl rfl rfl ?_
        refine WL.val rfl (run_load1 ty79 rfl ((hat.step hs (by simp)).cell (j := 2) rfl)) ?_
        first | (refine WL.yes rfl rfl rfl ?_; refine WL.val rfl (run_lenSl Tryd.underlying79 rfl) ?_) | refine WL.no rfl rfl rfl (.inl rfl) ?_ | refine WL.no rfl rfl rfl (.inr rfl) ?_
        refine WL.yes rfl rfl rfl ?_
        refine WL.val rfl (run_bT (run_geq rfl rfl) (by omega)) ?_
        first | refine WL.val rfl (run_pickT rfl) ?_ | refine WL.val rfl (run_pickF rfl) ?_
        refine WL.val rfl (run_move) ?_
        first | (refine WL.yes rfl rfl rfl ?_; refine WL.val rfl (run_move) ?_) | refine WL.no rfl rfl rfl (.inl rfl) ?_ | refine WL.no rfl rfl rfl (.inr rfl) ?_
        first | (refine WL.yes rfl rfl rfl ?_; refine WL.val rfl (run_nilCheck rfl) ?_) | refine WL.no rfl rfl rfl (.inl rfl) ?_ | refine WL.no rfl rfl rfl (.inr rfl) ?_
        first | (refine WL.yes rfl rfl rfl ?_; refine WL.val rfl (run_field (o' := 2) Tryd.underlying81 rfl ty79 rfl rfl rfl) ?_) | refine WL.no rfl rfl rfl (.inl rfl) ?_ | refine WL.no rfl rfl rfl (.inr rfl) ?_
        first | (refine WL.yes rfl rfl rfl ?_; (first | refine WL.val rfl (run_load1 ty79 rfl (hs.c0 rfl)) ?_ | refine WL.val rfl (run_load1 ty79 rfl (hs.c1 rfl)) ?_ | refine WL.val rfl (run_load1 ty79 rfl (hs.c2 rfl)) ?_ | refine WL.val rfl (run_load1 ty79 rfl (hs.c3 rfl)) ?_ | refine WL.val rfl (run_load1 ty79 rfl (hs.c4 rfl)) ?_ | refine WL.val rfl (run_load1 ty79 rfl (hs.c5 rfl)) ?_ | refine WL.val rfl (run_load1 ty79 rfl (hs.c0 rfl)) ?_)) | refine WL.no rfl rfl rfl (.inl rfl) ?_ | refine WL.no rfl rfl rfl (.inr rfl) ?_
        first | (refine WL.yes rfl rfl rfl ?_; refine WL.val rfl (run_move) ?_) | refine WL.no rfl rfl rfl (.inl rfl) ?_ | refine WL.no rfl rfl rfl (.inr rfl) ?_
        first | (refine WL.yes rfl rfl rfl ?_; (first | refine WL.val rfl (run_ixSlN Tryd.underlying79 ty91 rfl rfl (by omega)) ?_ | refine WL.val rfl (run_ixSl Tryd.underlying79 ty91 rfl rfl (by omega)) ?_)) | refine WL.no rfl rfl rfl (.inl rfl) ?_ | refine WL.no rfl rfl rfl (.inr rfl) ?_
        first | (refine WL.yes rfl rfl rfl ?_; (first | refine WL.val rfl (run_load1 ty91 rfl (hs.c0 rfl)) ?_ | refine WL.val rfl (run_load1 ty91 rfl (hs.c1 rfl)) ?_ | refine WL.val rfl (run_load1 ty91 rfl (hs.c2 rfl)) ?_ | refine WL.val rfl (run_load1 ty91 rfl (hs.c3 rfl)) ?_ | refine WL.val rfl (run_load1 ty91 rfl (hs.c4 rfl)) ?_ | refine WL.val rfl (run_load1 ty91 rfl (hs.c5 rfl)) ?_ | refine WL.val rfl (run_load1 ty91 rfl (hs.c0 rfl)) ?_)) | refine WL.no rfl rfl rfl (.inl rfl) ?_ | refine WL.no rfl rfl rfl (.inr rfl) ?_
        first | refine WL.no rfl rfl rfl (.inl rfl) ?_ | refine WL.no rfl rfl rfl (.inr rfl) ?_
        first | refine WL.val rfl (run_pickT rfl) ?_ | refine WL.val rfl (run_pickF rfl) ?_
        refine WL.nil ?_
        repeat (first | refine CW.seq ?_ | refine CW.block ?_ | refine CW.skip ?_ | refine CW.label ?_ | refine CW.exit ?_)
        first | refine CW.condP rfl (fun h => ?_) (fun h => ?_) | refine CW.cond rfl (fun h => ?_) (fun h => ?_)
        · repeat (first | refine CW.seq ?_ | refine CW.block ?_ | refine CW.skip ?_ | refine CW.label ?_ | refine CW.exit ?_ | refine CW.condT rfl ?_ | refine CW.condF rfl ?_)
          refine CW.reg ?_
          refine WL.val rfl (run_assign) ?_
          refine WL.val rfl (run_assign) ?_
          refine WL.nil ?_
          repeat (first | refine CW.seq ?_ | refine CW.block ?_ | refine CW.skip ?_ | refine CW.label ?_ | refine CW.exit ?_ | refine CW.condT rfl ?_ | refine CW.condF rfl ?_)
          refine CW.ret ?_
          refine fin_ret2 rfl ?_
          exact ⟨rfl, hs⟩
        · cases h
    · have hlt := (List.getElem?_eq_some_iff.1 hk).1
      have hobt := hsl.based (by omega)
      obtain ⟨b, off, c, hc, hsat⟩ := hobt
      cases hc
      refine calls (n := 34) Tryd.func33 rfl rfl rfl ?_
      repeat (first | refine CW.seq ?_ | refine CW.block ?_ | refine CW.skip ?_ | refine CW.label ?_ | refine CW.exit ?_ | refine CW.condT rfl ?_ | refine CW.condF rfl ?_)
      refine CW.reg ?_
      refine WL.val rfl (run_assign) ?_
      refine WL.val rfl (run_assign) ?_
      refine WL.nil ?_
      repeat (first | refine CW.seq ?_ | refine CW.block ?_ | refine CW.skip ?_ | refine CW.label ?_ | refine CW.exit ?_ | refine CW.condT rfl ?_ | refine CW.condF rfl ?_)
      refine CW.reg ?_
      refine WL.val rfl (run_move) ?_
      refine WL.val rfl (run_bF (run_lss rfl rfl) (by omega)) ?_
      refine WL.val rfl (run_move) ?_
      first | (refine WL.yes rfl rfl rfl ?_; refine WL.val rfl (run_move) ?_) | refine WL.no rfl rfl rfl (.inl rfl) ?_ | refine WL.no rfl rfl rfl (.inr rfl) ?_
      first | (refine WL.yes rfl rfl rfl ?_; refine WL.val rfl (run_move) ?_) | refine WL.no rfl rfl rfl (.inl rfl) ?_ | refine WL.no rfl rfl rfl (.inr rfl) ?_
      first | (refine WL.yes rfl rfl rfl ?_; refine WL.val rfl (run_nilCheck rfl) ?_) | refine WL.no rfl rfl rfl (.inl rfl) ?_ | refine WL.no rfl rfl rfl (.inr rfl) ?_
      first | (refine WL.yes rfl rfl rfl ?_; refine WL.val rfl (run_field (o' := 2) Tryd.underlying81 rfl ty79 rfl rfl rfl) ?_) | refine WL.no rfl rfl rfl (.inl rfl) ?_ | refine WL.no rfl rfl rfl (.inr rfl) ?_
      refine WL.yes rfl rfl rfl ?_
      refine WL.val rfl (run_load1 ty79 rfl ((hat.step hs (by simp)).cell (j := 2) rfl)) ?_
      first | (refine WL.yes rfl rfl rfl ?_; refine WL.val rfl (run_lenSl Tryd.underlying79 rfl) ?_) | refine WL.no rfl rfl rfl (.inl rfl) ?_ | refine WL.no rfl rfl rfl (.inr rfl) ?_
      refine WL.yes rfl rfl rfl ?_
      refine WL.val rfl (run_bF (run_geq rfl rfl) (by omega)) ?_
      first | refine WL.val rfl (run_pickT rfl) ?_ | refine WL.val rfl (run_pickF rfl) ?_
      refine WL.val rfl (run_move) ?_
      first | (refine WL.yes rfl rfl rfl ?_; refine WL.val rfl (run_move) ?_) | refine WL.no rfl rfl rfl (.inl rfl) ?_ | refine WL.no rfl rfl rfl (.inr rfl) ?_
      first | (refine WL.yes rfl rfl rfl ?_; refine WL.val rfl (run_nilCheck rfl) ?_) | refine WL.no rfl rfl rfl (.inl rfl) ?_ | refine WL.no rfl rfl rfl (.inr rfl) ?_
      first | (refine WL.yes rfl rfl rfl ?_; refine WL.val rfl (run_field (o' := 2) Tryd.underlying81 rfl ty79 rfl rfl rfl) ?_) | refine WL.no rfl rfl rfl (.inl rfl) ?_ | refine WL.no rfl rfl rfl (.inr rfl) ?_
      refine WL.yes rfl rfl rfl ?_
      refine WL.val rfl (run_load1 ty79 rfl ((hat.step hs (by simp)).cell (j := 2) rfl)) ?_
      first | (refine WL.yes rfl rfl rfl ?_; refine WL.val rfl (run_move) ?_) | refine WL.no rfl rfl rfl (.inl rfl) ?_ | refine WL.no rfl rfl rfl (.inr rfl) ?_
      first | (refine WL.yes rfl rfl rfl ?_; (first | refine WL.val rfl (run_ixSlN Tryd.underlying79 ty91 rfl rfl (by omega)) ?_ | refine WL.val rfl (run_ixSl Tryd.underlying79 ty91 rfl rfl (by omega)) ?_)) | refine WL.no rfl rfl rfl (.inl rfl) ?_ | refine WL.no rfl rfl rfl (.inr rfl) ?_
      refine WL.yes rfl rfl rfl ?_
      refine WL.val rfl (run_load1 ty91 rfl ((hsat.step hs (by simp)).cell (j := k * 1) (v := .pointer none) (by rw [Nat.mul_one, List.getElem?_map, hk]; rfl))) ?_
      refine WL.yes rfl rfl rfl ?_
      refine WL.val rfl (run_nilNil Tryd.underlying91 rfl rfl) ?_
      first | refine WL.val rfl (run_pickT rfl) ?_ | refine WL.val rfl (run_pickF rfl) ?_
      refine WL.nil ?_
      repeat (first | refine CW.seq ?_ | refine CW.block ?_ | refine CW.skip ?_ | refine CW.label ?_ | refine CW.exit ?_)
      first | refine CW.condP rfl (fun h => ?_) (fun h => ?_) | refine CW.cond rfl (fun h => ?_) (fun h => ?_)
      · repeat (first | refine CW.seq ?_ | refine CW.block ?_ | refine CW.skip ?_ | refine CW.label ?_ | refine CW.exit ?_ | refine CW.condT rfl ?_ | refine CW.condF rfl ?_)
        refine CW.reg ?_
        refine WL.val rfl (run_assign) ?_
        refine WL.val rfl (run_assign) ?_
        refine WL.nil ?_
        repeat (first | refine CW.seq ?_ | refine CW.block ?_ | refine CW.skip ?_ | refine CW.label ?_ | refine CW.exit ?_ | refine CW.condT rfl ?_ | refine CW.condF rfl ?_)
        refine CW.ret ?_
        refine fin_ret2 rfl ?_
        exact ⟨rfl, hs⟩
      · cases h
  · rw [h2] at hn
    cases hn
theorem is_some (o : VOpen bf s L mf md vh Lh Fs Ds Hs) (ok : s.Ok) (hw : ∀ p ∈ L, w0.heap[p.1]? = some p.2) {k : Nat} {hb : HB} (hk : Hs[k]? = some (some hb)) : Calls Tryd.prog 33 #[.pointer (some ⟨bf, 0, none⟩), .int .i64 (k : Nat)] w0 (Ret0 (.tuple #[.pointer (some ⟨hb.b, 0, none⟩), .int .i64 0]) w0) := by
  have hs : Step [] [] w0 w0 := Step.refl w0
  have hat := o.at hw
  have hsl := o.hsl hw
  have hobt := hsl.form
  obtain ⟨ah, ch, rfl⟩ := hobt
  have hlen : Hs.length ≤ 1000 := by have := ok.h; rw [← o.H, List.length_map] at this; exact this
  have hlt := (List.getElem?_eq_some_iff.1 hk).1
  have hobt := hsl.based (by omega)
  obtain ⟨b, off, c, hc, hsat⟩ := hobt
  cases hc
  have hcell : ∀ {w : World}, Step [] [] w0 w → w.cell? ⟨b, off + k * 1, none⟩ = some (.pointer (some ⟨hb.b, 0, none⟩)) := fun hs => by
    rw [Nat.mul_one]
    exact (hsat.step hs (by simp)).cell (by rw [List.getElem?_map, hk]; rfl)
  refine calls (n := 34) Tryd.func33 rfl rfl rfl ?_
  repeat (first | refine CW.seq ?_ | refine CW.block ?_ | refine CW.skip ?_ | refine CW.label ?_ | refine CW.exit ?_ | refine CW.condT rfl ?_ | refine CW.condF rfl ?_)
  refine CW.reg ?_
  refine WL.val rfl (run_assign) ?_
  refine WL.val rfl (run_assign) ?_
  refine WL.nil ?_
  repeat (first | refine CW.seq ?_ | refine CW.block ?_ | refine CW.skip ?_ | refine CW.label ?_ | refine CW.exit ?_ | refine CW.condT rfl ?_ | refine CW.condF rfl ?_)
  refine CW.reg ?_
  refine WL.val rfl (run_move) ?_
  refine WL.val rfl (run_bF (run_lss rfl rfl) (by omega)) ?_
  refine WL.val rfl (run_move) ?_
  first | (refine WL.yes rfl rfl rfl ?_; refine WL.val rfl (run_move) ?_) | refine WL.no rfl rfl rfl (.inl rfl) ?_ | refine WL.no rfl rfl rfl (.inr rfl) ?_
  first | (refine WL.yes rfl rfl rfl ?_; refine WL.val rfl (run_move) ?_) | refine WL.no rfl rfl rfl (.inl rfl) ?_ | refine WL.no rfl rfl rfl (.inr rfl) ?_
  first | (refine WL.yes rfl rfl rfl ?_; refine WL.val rfl (run_nilCheck rfl) ?_) | refine WL.no rfl rfl rfl (.inl rfl) ?_ | refine WL.no rfl rfl rfl (.inr rfl) ?_
  first | (refine WL.yes rfl rfl rfl ?_; refine WL.val rfl (run_field (o' := 2) Tryd.underlying81 rfl ty79 rfl rfl rfl) ?_) | refine WL.no rfl rfl rfl (.inl rfl) ?_ | refine WL.no rfl rfl rfl (.inr rfl) ?_
  refine WL.yes rfl rfl rfl ?_
  refine WL.val rfl (run_load1 ty79 rfl ((hat.step hs (by simp)).cell (j := 2) rfl)) ?_
  first | (refine WL.yes rfl rfl rfl ?_; refine WL.val rfl (run_lenSl Tryd.underlying79 rfl) ?_) | refine WL.no rfl rfl rfl (.inl rfl) ?_ | refine WL.no rfl rfl rfl (.inr rfl) ?_
  refine WL.yes rfl rfl rfl ?_
  refine WL.val rfl (run_bF (run_geq rfl rfl) (by omega)) ?_
  first | refine WL.val rfl (run_pickT rfl) ?_ | refine WL.val rfl (run_pickF rfl) ?_
  refine WL.val rfl (run_move) ?_
  first | (refine WL.yes rfl rfl rfl ?_; refine WL.val rfl (run_move) ?_) | refine WL.no rfl rfl rfl (.inl rfl) ?_ | refine WL.no rfl rfl rfl (.inr rfl) ?_
  first | (refine WL.yes rfl rfl rfl ?_; refine WL.val rfl (run_nilCheck rfl) ?_) | refine WL.no rfl rfl rfl (.inl rfl) ?_ | refine WL.no rfl rfl rfl (.inr rfl) ?_
  first | (refine WL.yes rfl rfl rfl ?_; refine WL.val rfl (run_field (o' := 2) Tryd.underlying81 rfl ty79 rfl rfl rfl) ?_) | refine WL.no rfl rfl rfl (.inl rfl) ?_ | refine WL.no rfl rfl rfl (.inr rfl) ?_
  refine WL.yes rfl rfl rfl ?_
  refine WL.val rfl (run_load1 ty79 rfl ((hat.step hs (by simp)).cell (j := 2) rfl)) ?_
  first | (refine WL.yes rfl rfl rfl ?_; refine WL.val rfl (run_move) ?_) | refine WL.no rfl rfl rfl (.inl rfl) ?_ | refine WL.no rfl rfl rfl (.inr rfl) ?_
  first | (refine WL.yes rfl rfl rfl ?_; (first | refine WL.val rfl (run_ixSlN Tryd.underlying79 ty91 rfl rfl (by omega)) ?_ | refine WL.val rfl (run_ixSl Tryd.underlying79 ty91 rfl rfl (by omega)) ?_)) | refine WL.no rfl rfl rfl (.inl rfl) ?_ | refine WL.no rfl rfl rfl (.inr rfl) ?_
  refine WL.yes rfl rfl rfl ?_
  refine WL.val rfl (run_load1 ty91 rfl ((hcell hs))) ?_
  refine WL.yes rfl rfl rfl ?_
  refine WL.val rfl (run_ptrNil Tryd.underlying91 rfl rfl) ?_
  first | refine WL.val rfl (run_pickT rfl) ?_ | refine WL.val rfl (run_pickF rfl) ?_
  refine WL.nil ?_
  repeat (first | refine CW.seq ?_ | refine CW.block ?_ | refine CW.skip ?_ | refine CW.label ?_ | refine CW.exit ?_)
  first | refine CW.condP rfl (fun h => ?_) (fun h => ?_) | refine CW.cond rfl (fun h => ?_) (fun h => ?_)
  · cases h
  repeat (first | refine CW.seq ?_ | refine CW.block ?_ | refine CW.skip ?_ | refine CW.label ?_ | refine CW.exit ?_ | refine CW.condT rfl ?_ | refine CW.condF rfl ?_)
  refine CW.reg ?_
  refine WL.val rfl (run_move) ?_
  refine WL.val rfl (run_nilCheck rfl) ?_
  refine WL.val rfl (run_field (o' := 2) Tryd.underlying81 rfl ty79 rfl rfl rfl) ?_
  refine WL.val rfl (run_load1 ty79 rfl ((hat.step hs (by simp)).cell (j := 2) rfl)) ?_
  refine WL.val rfl (run_move) ?_
  first | refine WL.val rfl (run_ixSlN Tryd.underlying79 ty91 rfl rfl (by omega)) ?_ | refine WL.val rfl (run_ixSl Tryd.underlying79 ty91 rfl rfl (by omega)) ?_
  refine WL.val rfl (run_load1 ty91 rfl ((hcell hs))) ?_
  refine WL.val rfl (run_assign) ?_
  refine WL.val rfl (run_assign) ?_
  refine WL.nil ?_
  repeat (first | refine CW.seq ?_ | refine CW.block ?_ | refine CW.skip ?_ | refine CW.label ?_ | refine CW.exit ?_ | refine CW.condT rfl ?_ | refine CW.condF rfl ?_)
  refine CW.ret ?_
  refine fin_ret2 rfl ?_
  exact ⟨rfl, hs⟩
theorem from_spec (o : VOpen bf s L mf md vh Lh Fs Ds Hs) (hw : ∀ p ∈ L, w0.heap[p.1]? = some p.2) {k : Nat} {hb : HB} {r : FB} (hk : Hs[k]? = some (some hb)) (hr : Fs[hb.i]? = some r) (hfb : hb.fb = r.b) : Calls Tryd.prog 35 #[.pointer (some ⟨hb.b, 0, none⟩)] w0 (Ret0 (.int .i64 ((if hb.mo = 3 then r.x.length else hb.pl : Nat) : Int)) w0) := by
  have hs : Step [] [] w0 w0 := Step.refl w0
  have hat := o.hat hw hk
  have hobt := o.fat hw hr
  obtain ⟨hf, hsl⟩ := hobt
  rw [← hfb] at hf
  have hobt := hsl.form
  obtain ⟨av, cv, hv⟩ := hobt
  by_cases h3 : hb.mo = 3
  · rw [if_pos h3]
    refine calls (n := 20) Tryd.func35 rfl rfl rfl ?_
    repeat (first | refine CW.seq ?_ | refine CW.block ?_ | refine CW.skip ?_ | refine CW.label ?_ | refine CW.exit ?_ | refine CW.condT rfl ?_ | refine CW.condF rfl ?_)
    refine CW.reg ?_
    refine WL.val rfl (run_assign) ?_
    refine WL.nil ?_
    repeat (first | refine CW.seq ?_ | refine CW.block ?_ | refine CW.skip ?_ | refine CW.label ?_ | refine CW.exit ?_ | refine CW.condT rfl ?_ | refine CW.condF rfl ?_)
    refine CW.reg ?_
    refine WL.val rfl (run_move) ?_
    refine WL.val rfl (run_nilCheck rfl) ?_
    refine WL.val rfl (run_field (o' := 2) Tryd.underlying93 rfl ty3 rfl rfl rfl) ?_
    refine WL.val rfl (run_load1 ty3 rfl ((hat.step hs (by simp)).cell (j := 2) rfl)) ?_
    refine WL.val rfl (run_bT (run_eql rfl rfl) (by omega)) ?_
    refine WL.nil ?_
    repeat (first | refine CW.seq ?_ | refine CW.block ?_ | refine CW.skip ?_ | refine CW.label ?_ | refine CW.exit ?_)
    first | refine CW.condP rfl (fun h => ?_) (fun h => ?_) | refine CW.cond rfl (fun h => ?_) (fun h => ?_)
    · repeat (first | refine CW.seq ?_ | refine CW.block ?_ | refine CW.skip ?_ | refine CW.label ?_ | refine CW.exit ?_ | refine CW.condT rfl ?_ | refine CW.condF rfl ?_)
      refine CW.reg ?_
      refine WL.val rfl (run_move) ?_
      refine WL.val rfl (run_nilCheck rfl) ?_
      refine WL.val rfl (run_field (o' := 0) Tryd.underlying93 rfl ty86 rfl rfl rfl) ?_
      refine WL.val rfl (run_load1 ty86 rfl ((hat.step hs (by simp)).cell (j := 0) rfl)) ?_
      refine WL.val rfl (run_nilCheck rfl) ?_
      refine WL.val rfl (run_field (o' := 1) Tryd.underlying89 rfl ty34 rfl rfl rfl) ?_
      refine WL.val rfl (run_load1 ty34 rfl ((hf.step hs (by simp)).cell (j := 1) (v := .slice av r.x.length cv) (by rw [← hv]; rfl))) ?_
      refine WL.val rfl (run_lenSl Tryd.underlying34 rfl) ?_
      refine WL.val rfl (run_assign) ?_
      refine WL.nil ?_
      repeat (first | refine CW.seq ?_ | refine CW.block ?_ | refine CW.skip ?_ | refine CW.label ?_ | refine CW.exit ?_ | refine CW.condT rfl ?_ | refine CW.condF rfl ?_)
      refine CW.ret ?_
      refine fin_ret1 rfl ?_
      exact ⟨rfl, hs⟩
    · cases h
  · rw [if_neg h3]
    refine calls (n := 20) Tryd.func35 rfl rfl rfl ?_
    repeat (first | refine CW.seq ?_ | refine CW.block ?_ | refine CW.skip ?_ | refine CW.label ?_ | refine CW.exit ?_ | refine CW.condT rfl ?_ | refine CW.condF rfl ?_)
    refine CW.reg ?_
    refine WL.val rfl (run_assign) ?_
    refine WL.nil ?_
    repeat (first | refine CW.seq ?_ | refine CW.block ?_ | refine CW.skip ?_ | refine CW.label ?_ | refine CW.exit ?_ | refine CW.condT rfl ?_ | refine CW.condF rfl ?_)
    refine CW.reg ?_
    refine WL.val rfl (run_move) ?_
    refine WL.val rfl (run_nilCheck rfl) ?_
    refine WL.val rfl (run_field (o' := 2) Tryd.underlying93 rfl ty3 rfl rfl rfl) ?_
    refine WL.val rfl (run_load1 ty3 rfl ((hat.step hs (by simp)).cell (j := 2) rfl)) ?_
    refine WL.val rfl (run_bF (run_eql rfl rfl) (by omega)) ?_
    refine WL.nil ?_
    repeat (first | refine CW.seq ?_ | refine CW.block ?_ | refine CW.skip ?_ | refine CW.label ?_ | refine CW.exit ?_)
    first | refine CW.condP rfl (fun h => ?_) (fun h => ?_) | refine CW.cond rfl (fun h => ?_) (fun h => ?_)
    · cases h
    repeat (first | refine CW.seq ?_ | refine CW.block ?_ | refine CW.skip ?_ | refine CW.label ?_ | refine CW.exit ?_ | refine CW.condT rfl ?_ | refine CW.condF rfl ?_)
    refine CW.reg ?_
    refine WL.val rfl (run_move) ?_
    refine WL.val rfl (run_nilCheck rfl) ?_
    refine WL.val rfl (run_field (o' := 1) Tryd.underlying93 rfl ty3 rfl rfl rfl) ?_
    refine WL.val rfl (run_load1 ty3 rfl ((hat.step hs (by simp)).cell (j := 1) rfl)) ?_
    refine WL.val rfl (run_assign) ?_
    refine WL.nil ?_
    repeat (first | refine CW.seq ?_ | refine CW.block ?_ | refine CW.skip ?_ | refine CW.label ?_ | refine CW.exit ?_ | refine CW.condT rfl ?_ | refine CW.condF rfl ?_)
    refine CW.ret ?_
    refine fin_ret1 rfl ?_
    exact ⟨rfl, hs⟩
end
end Go.Gx
