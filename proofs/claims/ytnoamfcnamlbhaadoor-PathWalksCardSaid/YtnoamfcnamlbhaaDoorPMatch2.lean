/- isPattern of the program. -/
import Derived.Test.YtnoamfcnamlbhaaDoorPMatch1
namespace Go.Gx
open Go.Proofs Go.RowKit
set_option linter.unusedVariables false
set_option linter.unusedSimpArgs false
set_option maxRecDepth 100000

theorem contains_spec {s t : List UInt8} (w0 : World) (hg : Gl w0) (hs1 : s.length < 4294967281) : Calls Tryd.prog 54 #[str s, str t] w0 (Ret0 (.bool (Lib.contains s t)) w0) := by
  obtain ⟨m, hm⟩ := hg
  refine (Tryd.strings_Contains ⟨⟨s⟩⟩ ⟨⟨t⟩⟩ m w0 hs1 hm).mono fun e w' ⟨h1, h2⟩ => ?_
  subst h2
  exact ⟨h1, Step.refl _⟩
def okPat (p : List UInt8) : Bool := !(decide (p = []) || (!decide (p = [42, 42]) && Lib.contains p [42, 42]))

set_option maxHeartbeats 2000000 in
theorem isPattern_spec {a : Option Addr} {c : Nat} {x : List (List UInt8)} (w0 : World) (hg : Gl w0) (hxl : x.length ≤ c) (hbx : x.length ≤ 9223372036854775800) (hlen : ∀ p ∈ x, p.length < 4294967281)
    (hx : x = [] ∨ ∃ bp, a = some ⟨bp, 0, none⟩ ∧ ∀ i p, x[i]? = some p → w0.cell? ⟨bp, 0 + i * 1, none⟩ = some (str p)) :
    Calls Tryd.prog 38 #[.slice a x.length c] w0 (Ret0 (.bool (x.all okPat)) w0) := by
  have hs : Step [] [] w0 w0 := Step.refl w0
  refine calls (n := 22) Tryd.func38 rfl rfl rfl ?_
  repeat (first | refine CW.seq ?_ | refine CW.block ?_ | refine CW.skip ?_ | refine CW.label ?_ | refine CW.exit ?_ | refine CW.condT rfl ?_ | refine CW.condF rfl ?_)
  refine CW.reg ?_
  refine WL.val rfl (run_assign) ?_
  refine WL.nil ?_
  repeat (first | refine CW.seq ?_ | refine CW.block ?_ | refine CW.skip ?_ | refine CW.label ?_ | refine CW.exit ?_ | refine CW.condT rfl ?_ | refine CW.condF rfl ?_)
  refine CW.reg ?_
  refine WL.val rfl (run_move) ?_
  refine WL.val rfl (run_lenSl Tryd.underlying34 rfl) ?_
  refine WL.val rfl (run_move) ?_
  refine WL.nil ?_
  repeat (first | refine CW.seq ?_ | refine CW.block ?_ | refine CW.skip ?_ | refine CW.label ?_ | refine CW.exit ?_ | refine CW.condT rfl ?_ | refine CW.condF rfl ?_)
  refine CW.loop (fun m f w' => ∃ i, i ≤ x.length ∧ m = x.length - i ∧ x.all okPat = (x.drop i).all okPat ∧ Step [] [] w0 w' ∧ Holds f [(5, .slice a x.length c), (6, .int .i64 x.length), (7, .int .i64 i)]) (m := x.length) ?_ ?_
  · exact ⟨0, by omega, by omega, rfl, hs, rfl, rfl, rfl, trivial⟩
  · clear hs
    rintro m f w ⟨i, hi, rfl, hgo, hs, hf⟩
    have hobt := hf.chain
    obtain ⟨g, rfl⟩ := hobt
    by_cases hlt : i < x.length
    · rcases hx with h | ⟨bx, rfl, hcx⟩
      · rw [h] at hlt; cases hlt
      have hobt : ∃ p, x[i] = p := ⟨_, rfl⟩
      obtain ⟨p, hp⟩ := hobt
      have hpi : x[i]? = some p := by rw [List.getElem?_eq_getElem hlt, hp]
      have hc1 := keepCell (hcx i p hpi) hs
      have hpl := hlen p (List.mem_of_getElem? hpi)
      rw [List.drop_eq_getElem_cons hlt, hp, List.all_cons] at hgo
      repeat (first | refine CW.seq ?_ | refine CW.block ?_ | refine CW.skip ?_ | refine CW.label ?_ | refine CW.exit ?_ | refine CW.condT rfl ?_ | refine CW.condF rfl ?_)
      refine CW.reg ?_
      refine WL.val rfl (run_bT (run_lss rfl rfl) (by omega)) ?_
      refine WL.nil ?_
      repeat (first | refine CW.seq ?_ | refine CW.block ?_ | refine CW.skip ?_ | refine CW.label ?_ | refine CW.exit ?_ | refine CW.condT rfl ?_ | refine CW.condF rfl ?_)
      refine CW.reg ?_
      first | refine WL.val rfl (run_ixSlN Tryd.underlying34 ty9 rfl rfl (by omega)) ?_ | refine WL.val rfl (run_ixSl Tryd.underlying34 ty9 rfl rfl (by omega)) ?_
      refine WL.val rfl (run_load1 ty9 rfl (hc1)) ?_
      refine WL.val rfl (run_assign) ?_
      refine WL.nil ?_
      by_cases h1 : p = []
      · have hk : okPat p = false := by simp [okPat, h1]
        rw [hk, Bool.false_and] at hgo
        repeat (first | refine CW.seq ?_ | refine CW.block ?_ | refine CW.skip ?_ | refine CW.label ?_ | refine CW.exit ?_ | refine CW.condT rfl ?_ | refine CW.condF rfl ?_)
        refine CW.reg ?_
        refine WL.val rfl (run_move) ?_
        refine WL.val rfl (run_bT (run_strEq rfl rfl) (by exact h1)) ?_
        refine WL.val rfl (run_move) ?_
        first | refine WL.no rfl rfl rfl (.inl rfl) ?_ | refine WL.no rfl rfl rfl (.inr rfl) ?_
        first | refine WL.no rfl rfl rfl (.inl rfl) ?_ | refine WL.no rfl rfl rfl (.inr rfl) ?_
        first | refine WL.no rfl rfl rfl (.inl rfl) ?_ | refine WL.no rfl rfl rfl (.inr rfl) ?_
        first | refine WL.no rfl rfl rfl (.inl rfl) ?_ | refine WL.no rfl rfl rfl (.inr rfl) ?_
        first | refine WL.no rfl rfl rfl (.inl rfl) ?_ | refine WL.no rfl rfl rfl (.inr rfl) ?_
        first | refine WL.no rfl rfl rfl (.inl rfl) ?_ | refine WL.no rfl rfl rfl (.inr rfl) ?_
        first | refine WL.val rfl (run_pickT rfl) ?_ | refine WL.val rfl (run_pickF rfl) ?_
        refine WL.nil ?_
        repeat (first | refine CW.seq ?_ | refine CW.block ?_ | refine CW.skip ?_ | refine CW.label ?_ | refine CW.exit ?_ | refine CW.condT rfl ?_ | refine CW.condF rfl ?_)
        refine CW.reg ?_
        refine WL.val rfl (run_assign) ?_
        refine WL.nil ?_
        repeat (first | refine CW.seq ?_ | refine CW.block ?_ | refine CW.skip ?_ | refine CW.label ?_ | refine CW.exit ?_ | refine CW.condT rfl ?_ | refine CW.condF rfl ?_)
        refine CW.ret ?_
        refine fin_ret1 rfl ?_
        exact ⟨by rw [hgo]; rfl, hs⟩
      · by_cases h2 : p = [42, 42]
        · have hk : okPat p = true := by simp [okPat, h2]
          rw [hk, Bool.true_and] at hgo
          repeat (first | refine CW.seq ?_ | refine CW.block ?_ | refine CW.skip ?_ | refine CW.label ?_ | refine CW.exit ?_ | refine CW.condT rfl ?_ | refine CW.condF rfl ?_)
          refine CW.reg ?_
          refine WL.val rfl (run_move) ?_
          refine WL.val rfl (run_bF (run_strEq rfl rfl) (by exact h1)) ?_
          refine WL.val rfl (run_move) ?_
          refine WL.yes rfl rfl rfl ?_
          refine WL.val rfl (run_move) ?_
          refine WL.yes rfl rfl rfl ?_
          refine WL.val rfl (run_bF (run_strNe rfl rfl) (by (exact fun h => h h2))) ?_
          refine WL.yes rfl rfl rfl ?_
          refine WL.val rfl (run_move) ?_
          first | refine WL.no rfl rfl rfl (.inl rfl) ?_ | refine WL.no rfl rfl rfl (.inr rfl) ?_
          first | refine WL.no rfl rfl rfl (.inl rfl) ?_ | refine WL.no rfl rfl rfl (.inr rfl) ?_
          refine WL.yes rfl rfl rfl ?_
          first | refine WL.val rfl (run_pickT rfl) ?_ | refine WL.val rfl (run_pickF rfl) ?_
          first | refine WL.val rfl (run_pickT rfl) ?_ | refine WL.val rfl (run_pickF rfl) ?_
          refine WL.nil ?_
          repeat (first | refine CW.seq ?_ | refine CW.block ?_ | refine CW.skip ?_ | refine CW.label ?_ | refine CW.exit ?_ | refine CW.condT rfl ?_ | refine CW.condF rfl ?_)
          refine CW.reg ?_
          refine WL.val rfl (run_add (c := ((i + 1 : Nat) : Int)) rfl rfl (by omega) (by omega)) ?_
          refine WL.val rfl (run_move) ?_
          refine WL.nil ?_
          repeat (first | refine CW.seq ?_ | refine CW.block ?_ | refine CW.skip ?_ | refine CW.label ?_ | refine CW.exit ?_)
          refine (show _ ∧ _ from ⟨rfl, _, ?_, i + 1, by omega, rfl, hgo, hs, rfl, rfl, rfl, trivial⟩)
          omega
        · have hobt : ∃ b, Lib.contains p [42, 42] = b := ⟨_, rfl⟩
          obtain ⟨b, hb⟩ := hobt
          have hcs := contains_spec (t := [42, 42]) w (hg.step hs) hpl
          rw [hb] at hcs
          have hk : okPat p = !b := by simp [okPat, h1, h2, hb]
          rw [hk] at hgo
          cases b with
          | true =>
            repeat (first | refine CW.seq ?_ | refine CW.block ?_ | refine CW.skip ?_ | refine CW.label ?_ | refine CW.exit ?_ | refine CW.condT rfl ?_ | refine CW.condF rfl ?_)
            refine CW.reg ?_
            refine WL.val rfl (run_move) ?_
            refine WL.val rfl (run_bF (run_strEq rfl rfl) (by exact h1)) ?_
            refine WL.val rfl (run_move) ?_
            refine WL.yes rfl rfl rfl ?_
            refine WL.val rfl (run_move) ?_
            refine WL.yes rfl rfl rfl ?_
            refine WL.val rfl (run_bT (run_strNe rfl rfl) (by exact h2)) ?_
            refine WL.yes rfl rfl rfl ?_
            refine WL.val rfl (run_move) ?_
            refine WL.yes rfl rfl rfl ?_
            refine WL.val rfl (run_move) ?_
            refine WL.yes rfl rfl rfl ?_
            refine WL.enter rfl (run_call en54 rfl rfl) (hcs) ?_
            rintro e w ⟨rfl, hq⟩
            refine ⟨_, rfl, ?_⟩
            replace hs := hs.callE hq
            refine WL.yes rfl rfl rfl ?_
            first | refine WL.val rfl (run_pickT rfl) ?_ | refine WL.val rfl (run_pickF rfl) ?_
            first | refine WL.val rfl (run_pickT rfl) ?_ | refine WL.val rfl (run_pickF rfl) ?_
            refine WL.nil ?_
            repeat (first | refine CW.seq ?_ | refine CW.block ?_ | refine CW.skip ?_ | refine CW.label ?_ | refine CW.exit ?_ | refine CW.condT rfl ?_ | refine CW.condF rfl ?_)
            refine CW.reg ?_
            refine WL.val rfl (run_assign) ?_
            refine WL.nil ?_
            repeat (first | refine CW.seq ?_ | refine CW.block ?_ | refine CW.skip ?_ | refine CW.label ?_ | refine CW.exit ?_ | refine CW.condT rfl ?_ | refine CW.condF rfl ?_)
            refine CW.ret ?_
            refine fin_ret1 rfl ?_
            exact ⟨by rw [hgo]; rfl, hs⟩
          | false =>
            rw [Bool.not_false, Bool.true_and] at hgo
            repeat (first | refine CW.seq ?_ | refine CW.block ?_ | refine CW.skip ?_ | refine CW.label ?_ | refine CW.exit ?_ | refine CW.condT rfl ?_ | refine CW.condF rfl ?_)
            refine CW.reg ?_
            refine WL.val rfl (run_move) ?_
            refine WL.val rfl (run_bF (run_strEq rfl rfl) (by exact h1)) ?_
            refine WL.val rfl (run_move) ?_
            refine WL.yes rfl rfl rfl ?_
            refine WL.val rfl (run_move) ?_
            refine WL.yes rfl rfl rfl ?_
            refine WL.val rfl (run_bT (run_strNe rfl rfl) (by exact h2)) ?_
            refine WL.yes rfl rfl rfl ?_
            refine WL.val rfl (run_move) ?_
            refine WL.yes rfl rfl rfl ?_
            refine WL.val rfl (run_move) ?_
            refine WL.yes rfl rfl rfl ?_
            refine WL.enter rfl (run_call en54 rfl rfl) (hcs) ?_
            rintro e w ⟨rfl, hq⟩
            refine ⟨_, rfl, ?_⟩
            replace hs := hs.callE hq
            refine WL.yes rfl rfl rfl ?_
            first | refine WL.val rfl (run_pickT rfl) ?_ | refine WL.val rfl (run_pickF rfl) ?_
            first | refine WL.val rfl (run_pickT rfl) ?_ | refine WL.val rfl (run_pickF rfl) ?_
            refine WL.nil ?_
            repeat (first | refine CW.seq ?_ | refine CW.block ?_ | refine CW.skip ?_ | refine CW.label ?_ | refine CW.exit ?_ | refine CW.condT rfl ?_ | refine CW.condF rfl ?_)
            refine CW.reg ?_
            refine WL.val rfl (run_add (c := ((i + 1 : Nat) : Int)) rfl rfl (by omega) (by omega)) ?_
            refine WL.val rfl (run_move) ?_
            refine WL.nil ?_
            repeat (first | refine CW.seq ?_ | refine CW.block ?_ | refine CW.skip ?_ | refine CW.label ?_ | refine CW.exit ?_)
            refine (show _ ∧ _ from ⟨rfl, _, ?_, i + 1, by omega, rfl, hgo, hs, rfl, rfl, rfl, trivial⟩)
            omega
    · rw [List.drop_eq_nil_of_le (by omega : x.length ≤ i), List.all_nil] at hgo
      repeat (first | refine CW.seq ?_ | refine CW.block ?_ | refine CW.skip ?_ | refine CW.label ?_ | refine CW.exit ?_ | refine CW.condT rfl ?_ | refine CW.condF rfl ?_)
      refine CW.reg ?_
      refine WL.val rfl (run_bF (run_lss rfl rfl) (by omega)) ?_
      refine WL.nil ?_
      repeat (first | refine CW.seq ?_ | refine CW.block ?_ | refine CW.skip ?_ | refine CW.label ?_ | refine CW.exit ?_ | refine CW.condT rfl ?_ | refine CW.condF rfl ?_)
      refine CW.reg ?_
      refine WL.val rfl (run_assign) ?_
      refine WL.nil ?_
      repeat (first | refine CW.seq ?_ | refine CW.block ?_ | refine CW.skip ?_ | refine CW.label ?_ | refine CW.exit ?_ | refine CW.condT rfl ?_ | refine CW.condF rfl ?_)
      refine CW.ret ?_
      refine fin_ret1 rfl ?_
      exact ⟨by rw [hgo]; rfl, hs⟩
end Go.Gx
