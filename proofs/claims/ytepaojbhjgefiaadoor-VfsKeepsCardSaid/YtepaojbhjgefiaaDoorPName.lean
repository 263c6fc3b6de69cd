/- Names: the program's IsName and the document's. -/
import Derived.Test.YtepaojbhjgefiaaDoorRune3
import Derived.Test.YtepaojbhjgefiaaDoorBase
import Derived.Test.YtepaojbhjgefiaaDoorAny
namespace Go.Gx
open Go.Proofs
set_option linter.unusedVariables false
set_option linter.unusedSimpArgs false
set_option maxRecDepth 100000

theorem isName_spec {s : List UInt8} {b : Bool} (hb : isName s = b) (w : World) (hlen : s.length ≤ 9223372036854775807) : Calls Tryd.prog 51 #[str s] w (Ret0 (.bool b) w) := by
  have hs : Step [] [] w w := Step.refl w
  by_cases h1 : 1 ≤ s.length
  · by_cases h2 : s.length ≤ 64
    · by_cases h3 : s = [46]
      · obtain rfl : b = false := by rw [← hb]; simp [isName, h3]
        refine calls (n := 24) Tryd.func51 rfl rfl rfl ?_
        repeat (first | refine CW.seq ?_ | refine CW.block ?_ | refine CW.skip ?_ | refine CW.label ?_ | refine CW.exit ?_ | refine CW.condT rfl ?_ | refine CW.condF rfl ?_)
        refine CW.reg ?_
        refine WL.val rfl (run_assign) ?_
        refine WL.nil ?_
        repeat (first | refine CW.seq ?_ | refine CW.block ?_ | refine CW.skip ?_ | refine CW.label ?_ | refine CW.exit ?_ | refine CW.condT rfl ?_ | refine CW.condF rfl ?_)
        refine CW.reg ?_
        refine WL.val rfl (run_move) ?_
        refine WL.val rfl (run_lenStr Tryd.underlying9 rfl) ?_
        refine WL.val rfl (run_bT (run_geq rfl rfl) (by omega)) ?_
        refine WL.val rfl (run_move) ?_
        refine WL.yes rfl rfl rfl ?_
        refine WL.val rfl (run_move) ?_
        refine WL.yes rfl rfl rfl ?_
        refine WL.val rfl (run_lenStr Tryd.underlying9 rfl) ?_
        refine WL.yes rfl rfl rfl ?_
        refine WL.val rfl (run_bT (run_leq rfl rfl) (by omega)) ?_
        first | refine WL.val rfl (run_pickT rfl) ?_ | refine WL.val rfl (run_pickF rfl) ?_
        refine WL.val rfl (run_move) ?_
        refine WL.yes rfl rfl rfl ?_
        refine WL.val rfl (run_move) ?_
        refine WL.yes rfl rfl rfl ?_
        refine WL.val rfl (run_bF (run_strNe rfl rfl) (by simp [h3])) ?_
        first | refine WL.val rfl (run_pickT rfl) ?_ | refine WL.val rfl (run_pickF rfl) ?_
        refine WL.val rfl (run_move) ?_
        first | refine WL.no rfl rfl rfl (.inl rfl) ?_ | refine WL.no rfl rfl rfl (.inr rfl) ?_
        first | refine WL.no rfl rfl rfl (.inl rfl) ?_ | refine WL.no rfl rfl rfl (.inr rfl) ?_
        first | refine WL.val rfl (run_pickT rfl) ?_ | refine WL.val rfl (run_pickF rfl) ?_
        refine WL.val rfl (run_move) ?_
        first | refine WL.no rfl rfl rfl (.inl rfl) ?_ | refine WL.no rfl rfl rfl (.inr rfl) ?_
        first | refine WL.no rfl rfl rfl (.inl rfl) ?_ | refine WL.no rfl rfl rfl (.inr rfl) ?_
        first | refine WL.no rfl rfl rfl (.inl rfl) ?_ | refine WL.no rfl rfl rfl (.inr rfl) ?_
        first | refine WL.val rfl (run_pickT rfl) ?_ | refine WL.val rfl (run_pickF rfl) ?_
        refine WL.val rfl (run_assign) ?_
        refine WL.nil ?_
        repeat (first | refine CW.seq ?_ | refine CW.block ?_ | refine CW.skip ?_ | refine CW.label ?_ | refine CW.exit ?_ | refine CW.condT rfl ?_ | refine CW.condF rfl ?_)
        refine CW.ret ?_
        refine fin_ret1 rfl ?_
        exact ⟨rfl, hs⟩
      · by_cases h4 : s = [46, 46]
        · obtain rfl : b = false := by rw [← hb]; simp [isName, h4]
          refine calls (n := 24) Tryd.func51 rfl rfl rfl ?_
          repeat (first | refine CW.seq ?_ | refine CW.block ?_ | refine CW.skip ?_ | refine CW.label ?_ | refine CW.exit ?_ | refine CW.condT rfl ?_ | refine CW.condF rfl ?_)
          refine CW.reg ?_
          refine WL.val rfl (run_assign) ?_
          refine WL.nil ?_
          repeat (first | refine CW.seq ?_ | refine CW.block ?_ | refine CW.skip ?_ | refine CW.label ?_ | refine CW.exit ?_ | refine CW.condT rfl ?_ | refine CW.condF rfl ?_)
          refine CW.reg ?_
          refine WL.val rfl (run_move) ?_
          refine WL.val rfl (run_lenStr Tryd.underlying9 rfl) ?_
          refine WL.val rfl (run_bT (run_geq rfl rfl) (by omega)) ?_
          refine WL.val rfl (run_move) ?_
          refine WL.yes rfl rfl rfl ?_
          refine WL.val rfl (run_move) ?_
          refine WL.yes rfl rfl rfl ?_
          refine WL.val rfl (run_lenStr Tryd.underlying9 rfl) ?_
          refine WL.yes rfl rfl rfl ?_
          refine WL.val rfl (run_bT (run_leq rfl rfl) (by omega)) ?_
          first | refine WL.val rfl (run_pickT rfl) ?_ | refine WL.val rfl (run_pickF rfl) ?_
          refine WL.val rfl (run_move) ?_
          refine WL.yes rfl rfl rfl ?_
          refine WL.val rfl (run_move) ?_
          refine WL.yes rfl rfl rfl ?_
          refine WL.val rfl (run_bT (run_strNe rfl rfl) (by exact h3)) ?_
          first | refine WL.val rfl (run_pickT rfl) ?_ | refine WL.val rfl (run_pickF rfl) ?_
          refine WL.val rfl (run_move) ?_
          refine WL.yes rfl rfl rfl ?_
          refine WL.val rfl (run_move) ?_
          refine WL.yes rfl rfl rfl ?_
          refine WL.val rfl (run_bF (run_strNe rfl rfl) (by simp [h4])) ?_
          first | refine WL.val rfl (run_pickT rfl) ?_ | refine WL.val rfl (run_pickF rfl) ?_
          refine WL.val rfl (run_move) ?_
          first | refine WL.no rfl rfl rfl (.inl rfl) ?_ | refine WL.no rfl rfl rfl (.inr rfl) ?_
          first | refine WL.no rfl rfl rfl (.inl rfl) ?_ | refine WL.no rfl rfl rfl (.inr rfl) ?_
          first | refine WL.no rfl rfl rfl (.inl rfl) ?_ | refine WL.no rfl rfl rfl (.inr rfl) ?_
          first | refine WL.val rfl (run_pickT rfl) ?_ | refine WL.val rfl (run_pickF rfl) ?_
          refine WL.val rfl (run_assign) ?_
          refine WL.nil ?_
          repeat (first | refine CW.seq ?_ | refine CW.block ?_ | refine CW.skip ?_ | refine CW.label ?_ | refine CW.exit ?_ | refine CW.condT rfl ?_ | refine CW.condF rfl ?_)
          refine CW.ret ?_
          refine fin_ret1 rfl ?_
          exact ⟨rfl, hs⟩
        · obtain rfl : b = !s.any badCh := by rw [← hb]; simp [isName, h1, h2, h3, h4]
          refine calls (n := 24) Tryd.func51 rfl rfl rfl ?_
          repeat (first | refine CW.seq ?_ | refine CW.block ?_ | refine CW.skip ?_ | refine CW.label ?_ | refine CW.exit ?_ | refine CW.condT rfl ?_ | refine CW.condF rfl ?_)
          refine CW.reg ?_
          refine WL.val rfl (run_assign) ?_
          refine WL.nil ?_
          repeat (first | refine CW.seq ?_ | refine CW.block ?_ | refine CW.skip ?_ | refine CW.label ?_ | refine CW.exit ?_ | refine CW.condT rfl ?_ | refine CW.condF rfl ?_)
          refine CW.reg ?_
          refine WL.val rfl (run_move) ?_
          refine WL.val rfl (run_lenStr Tryd.underlying9 rfl) ?_
          refine WL.val rfl (run_bT (run_geq rfl rfl) (by omega)) ?_
          refine WL.val rfl (run_move) ?_
          refine WL.yes rfl rfl rfl ?_
          refine WL.val rfl (run_move) ?_
          refine WL.yes rfl rfl rfl ?_
          refine WL.val rfl (run_lenStr Tryd.underlying9 rfl) ?_
          refine WL.yes rfl rfl rfl ?_
          refine WL.val rfl (run_bT (run_leq rfl rfl) (by omega)) ?_
          first | refine WL.val rfl (run_pickT rfl) ?_ | refine WL.val rfl (run_pickF rfl) ?_
          refine WL.val rfl (run_move) ?_
          refine WL.yes rfl rfl rfl ?_
          refine WL.val rfl (run_move) ?_
          refine WL.yes rfl rfl rfl ?_
          refine WL.val rfl (run_bT (run_strNe rfl rfl) (by exact h3)) ?_
          first | refine WL.val rfl (run_pickT rfl) ?_ | refine WL.val rfl (run_pickF rfl) ?_
          refine WL.val rfl (run_move) ?_
          refine WL.yes rfl rfl rfl ?_
          refine WL.val rfl (run_move) ?_
          refine WL.yes rfl rfl rfl ?_
          refine WL.val rfl (run_bT (run_strNe rfl rfl) (by exact h4)) ?_
          first | refine WL.val rfl (run_pickT rfl) ?_ | refine WL.val rfl (run_pickF rfl) ?_
          refine WL.val rfl (run_move) ?_
          refine WL.yes rfl rfl rfl ?_
          refine WL.val rfl (run_move) ?_
          refine WL.yes rfl rfl rfl ?_
          refine WL.enter rfl (run_call en63 rfl rfl) (containsAny_spec h2 rfl _) ?_
          rintro e w ⟨rfl, hq⟩
          refine ⟨_, rfl, ?_⟩
          refine WL.yes rfl rfl rfl ?_
          first | refine WL.val rfl (run_notB rfl) ?_ | refine WL.val rfl (run_not rfl) ?_
          first | refine WL.val rfl (run_pickT rfl) ?_ | refine WL.val rfl (run_pickF rfl) ?_
          refine WL.val rfl (run_assign) ?_
          refine WL.nil ?_
          repeat (first | refine CW.seq ?_ | refine CW.block ?_ | refine CW.skip ?_ | refine CW.label ?_ | refine CW.exit ?_ | refine CW.condT rfl ?_ | refine CW.condF rfl ?_)
          refine CW.ret ?_
          refine fin_ret1 rfl ?_
          exact ⟨rfl, hs.callE hq⟩
    · obtain rfl : b = false := by rw [← hb]; simp [isName, h2]
      refine calls (n := 24) Tryd.func51 rfl rfl rfl ?_
      repeat (first | refine CW.seq ?_ | refine CW.block ?_ | refine CW.skip ?_ | refine CW.label ?_ | refine CW.exit ?_ | refine CW.condT rfl ?_ | refine CW.condF rfl ?_)
      refine CW.reg ?_
      refine WL.val rfl (run_assign) ?_
      refine WL.nil ?_
      repeat (first | refine CW.seq ?_ | refine CW.block ?_ | refine CW.skip ?_ | refine CW.label ?_ | refine CW.exit ?_ | refine CW.condT rfl ?_ | refine CW.condF rfl ?_)
      refine CW.reg ?_
      refine WL.val rfl (run_move) ?_
      refine WL.val rfl (run_lenStr Tryd.underlying9 rfl) ?_
      refine WL.val rfl (run_bT (run_geq rfl rfl) (by omega)) ?_
      refine WL.val rfl (run_move) ?_
      refine WL.yes rfl rfl rfl ?_
      refine WL.val rfl (run_move) ?_
      refine WL.yes rfl rfl rfl ?_
      refine WL.val rfl (run_lenStr Tryd.underlying9 rfl) ?_
      refine WL.yes rfl rfl rfl ?_
      refine WL.val rfl (run_bF (run_leq rfl rfl) (by omega)) ?_
      first | refine WL.val rfl (run_pickT rfl) ?_ | refine WL.val rfl (run_pickF rfl) ?_
      refine WL.val rfl (run_move) ?_
      first | refine WL.no rfl rfl rfl (.inl rfl) ?_ | refine WL.no rfl rfl rfl (.inr rfl) ?_
      first | refine WL.no rfl rfl rfl (.inl rfl) ?_ | refine WL.no rfl rfl rfl (.inr rfl) ?_
      first | refine WL.val rfl (run_pickT rfl) ?_ | refine WL.val rfl (run_pickF rfl) ?_
      refine WL.val rfl (run_move) ?_
      first | refine WL.no rfl rfl rfl (.inl rfl) ?_ | refine WL.no rfl rfl rfl (.inr rfl) ?_
      first | refine WL.no rfl rfl rfl (.inl rfl) ?_ | refine WL.no rfl rfl rfl (.inr rfl) ?_
      first | refine WL.val rfl (run_pickT rfl) ?_ | refine WL.val rfl (run_pickF rfl) ?_
      refine WL.val rfl (run_move) ?_
      first | refine WL.no rfl rfl rfl (.inl rfl) ?_ | refine WL.no rfl rfl rfl (.inr rfl) ?_
      first | refine WL.no rfl rfl rfl (.inl rfl) ?_ | refine WL.no rfl rfl rfl (.inr rfl) ?_
      first | refine WL.no rfl rfl rfl (.inl rfl) ?_ | refine WL.no rfl rfl rfl (.inr rfl) ?_
      first | refine WL.val rfl (run_pickT rfl) ?_ | refine WL.val rfl (run_pickF rfl) ?_
      refine WL.val rfl (run_assign) ?_
      refine WL.nil ?_
      repeat (first | refine CW.seq ?_ | refine CW.block ?_ | refine CW.skip ?_ | refine CW.label ?_ | refine CW.exit ?_ | refine CW.condT rfl ?_ | refine CW.condF rfl ?_)
      refine CW.ret ?_
      refine fin_ret1 rfl ?_
      exact ⟨rfl, hs⟩
  · obtain rfl : b = false := by rw [← hb]; simp [isName, h1]
    refine calls (n := 24) Tryd.func51 rfl rfl rfl ?_
    repeat (first | refine CW.seq ?_ | refine CW.block ?_ | refine CW.skip ?_ | refine CW.label ?_ | refine CW.exit ?_ | refine CW.condT rfl ?_ | refine CW.condF rfl ?_)
    refine CW.reg ?_
    refine WL.val rfl (run_assign) ?_
    refine WL.nil ?_
    repeat (first | refine CW.seq ?_ | refine CW.block ?_ | refine CW.skip ?_ | refine CW.label ?_ | refine CW.exit ?_ | refine CW.condT rfl ?_ | refine CW.condF rfl ?_)
    refine CW.reg ?_
    refine WL.val rfl (run_move) ?_
    refine WL.val rfl (run_lenStr Tryd.underlying9 rfl) ?_
    refine WL.val rfl (run_bF (run_geq rfl rfl) (by omega)) ?_
    refine WL.val rfl (run_move) ?_
    first | refine WL.no rfl rfl rfl (.inl rfl) ?_ | refine WL.no rfl rfl rfl (.inr rfl) ?_
    first | refine WL.no rfl rfl rfl (.inl rfl) ?_ | refine WL.no rfl rfl rfl (.inr rfl) ?_
    first | refine WL.no rfl rfl rfl (.inl rfl) ?_ | refine WL.no rfl rfl rfl (.inr rfl) ?_
    first | refine WL.val rfl (run_pickT rfl) ?_ | refine WL.val rfl (run_pickF rfl) ?_
    refine WL.val rfl (run_move) ?_
    first | refine WL.no rfl rfl rfl (.inl rfl) ?_ | refine WL.no rfl rfl rfl (.inr rfl) ?_
    first | refine WL.no rfl rfl rfl (.inl rfl) ?_ | refine WL.no rfl rfl rfl (.inr rfl) ?_
    first | refine WL.val rfl (run_pickT rfl) ?_ | refine WL.val rfl (run_pickF rfl) ?_
    refine WL.val rfl (run_move) ?_
    first | refine WL.no rfl rfl rfl (.inl rfl) ?_ | refine WL.no rfl rfl rfl (.inr rfl) ?_
    first | refine WL.no rfl rfl rfl (.inl rfl) ?_ | refine WL.no rfl rfl rfl (.inr rfl) ?_
    first | refine WL.val rfl (run_pickT rfl) ?_ | refine WL.val rfl (run_pickF rfl) ?_
    refine WL.val rfl (run_move) ?_
    first | refine WL.no rfl rfl rfl (.inl rfl) ?_ | refine WL.no rfl rfl rfl (.inr rfl) ?_
    first | refine WL.no rfl rfl rfl (.inl rfl) ?_ | refine WL.no rfl rfl rfl (.inr rfl) ?_
    first | refine WL.no rfl rfl rfl (.inl rfl) ?_ | refine WL.no rfl rfl rfl (.inr rfl) ?_
    first | refine WL.val rfl (run_pickT rfl) ?_ | refine WL.val rfl (run_pickF rfl) ?_
    refine WL.val rfl (run_assign) ?_
    refine WL.nil ?_
    repeat (first | refine CW.seq ?_ | refine CW.block ?_ | refine CW.skip ?_ | refine CW.label ?_ | refine CW.exit ?_ | refine CW.condT rfl ?_ | refine CW.condF rfl ?_)
    refine CW.ret ?_
    refine fin_ret1 rfl ?_
    exact ⟨rfl, hs⟩
theorem u8_eq0 {c : UInt8} {k : Nat} (hk : k < 256) : ((c.toNat : Int) = k) ↔ c = UInt8.ofNat k := by
  constructor
  · intro h
    apply UInt8.toNat_inj.1
    rw [UInt8.toNat_ofNat_of_lt' hk]
    omega
  · rintro rfl
    rw [UInt8.toNat_ofNat_of_lt' hk]
theorem refIsName_spec {s : List UInt8} {b : Bool} (hb : isName s = b) (w : World) (hlen : s.length ≤ 9223372036854775807) : Calls Tryd.prog 59 #[str s] w (Ret0 (.bool b) w) := by
  have hs : Step [] [] w w := Step.refl w
  by_cases h1 : 1 ≤ s.length
  · by_cases h2 : s.length ≤ 64
    · by_cases h3 : s = [46]
      · obtain rfl : b = false := by rw [← hb]; simp [isName, h3]
        refine calls (n := 36) Tryd.func59 rfl rfl rfl ?_
        repeat (first | refine CW.seq ?_ | refine CW.block ?_ | refine CW.skip ?_ | refine CW.label ?_ | refine CW.exit ?_ | refine CW.condT rfl ?_ | refine CW.condF rfl ?_)
        refine CW.reg ?_
        refine WL.val rfl (run_assign) ?_
        refine WL.nil ?_
        repeat (first | refine CW.seq ?_ | refine CW.block ?_ | refine CW.skip ?_ | refine CW.label ?_ | refine CW.exit ?_ | refine CW.condT rfl ?_ | refine CW.condF rfl ?_)
        refine CW.reg ?_
        refine WL.val rfl (run_move) ?_
        refine WL.val rfl (run_lenStr Tryd.underlying9 rfl) ?_
        refine WL.val rfl (run_bF (run_lss rfl rfl) (by omega)) ?_
        refine WL.val rfl (run_move) ?_
        refine WL.yes rfl rfl rfl ?_
        refine WL.val rfl (run_move) ?_
        refine WL.yes rfl rfl rfl ?_
        refine WL.val rfl (run_lenStr Tryd.underlying9 rfl) ?_
        refine WL.yes rfl rfl rfl ?_
        refine WL.val rfl (run_bF (run_gtr rfl rfl) (by omega)) ?_
        first | refine WL.val rfl (run_pickT rfl) ?_ | refine WL.val rfl (run_pickF rfl) ?_
        refine WL.val rfl (run_move) ?_
        refine WL.yes rfl rfl rfl ?_
        refine WL.val rfl (run_move) ?_
        refine WL.yes rfl rfl rfl ?_
        refine WL.val rfl (run_bT (run_strEq rfl rfl) (by exact h3)) ?_
        first | refine WL.val rfl (run_pickT rfl) ?_ | refine WL.val rfl (run_pickF rfl) ?_
        refine WL.val rfl (run_move) ?_
        first | refine WL.no rfl rfl rfl (.inl rfl) ?_ | refine WL.no rfl rfl rfl (.inr rfl) ?_
        first | refine WL.no rfl rfl rfl (.inl rfl) ?_ | refine WL.no rfl rfl rfl (.inr rfl) ?_
        first | refine WL.val rfl (run_pickT rfl) ?_ | refine WL.val rfl (run_pickF rfl) ?_
        refine WL.nil ?_
        repeat (first | refine CW.seq ?_ | refine CW.block ?_ | refine CW.skip ?_ | refine CW.label ?_ | refine CW.exit ?_ | refine CW.condT rfl ?_ | refine CW.condF rfl ?_)
        refine CW.reg ?_
        refine WL.val rfl (run_assign) ?_
        refine WL.nil ?_
        repeat (first | refine CW.seq ?_ | refine CW.block ?_ | refine CW.skip ?_ | refine CW.label ?_ | refine CW.exit ?_ | refine CW.condT rfl ?_ | refine CW.condF rfl ?_)
        refine CW.ret ?_
        refine fin_ret1 rfl ?_
        exact ⟨rfl, hs⟩
      · by_cases h4 : s = [46, 46]
        · obtain rfl : b = false := by rw [← hb]; simp [isName, h4]
          refine calls (n := 36) Tryd.func59 rfl rfl rfl ?_
          repeat (first | refine CW.seq ?_ | refine CW.block ?_ | refine CW.skip ?_ | refine CW.label ?_ | refine CW.exit ?_ | refine CW.condT rfl ?_ | refine CW.condF rfl ?_)
          refine CW.reg ?_
          refine WL.val rfl (run_assign) ?_
          refine WL.nil ?_
          repeat (first | refine CW.seq ?_ | refine CW.block ?_ | refine CW.skip ?_ | refine CW.label ?_ | refine CW.exit ?_ | refine CW.condT rfl ?_ | refine CW.condF rfl ?_)
          refine CW.reg ?_
          refine WL.val rfl (run_move) ?_
          refine WL.val rfl (run_lenStr Tryd.underlying9 rfl) ?_
          refine WL.val rfl (run_bF (run_lss rfl rfl) (by omega)) ?_
          refine WL.val rfl (run_move) ?_
          refine WL.yes rfl rfl rfl ?_
          refine WL.val rfl (run_move) ?_
          refine WL.yes rfl rfl rfl ?_
          refine WL.val rfl (run_lenStr Tryd.underlying9 rfl) ?_
          refine WL.yes rfl rfl rfl ?_
          refine WL.val rfl (run_bF (run_gtr rfl rfl) (by omega)) ?_
          first | refine WL.val rfl (run_pickT rfl) ?_ | refine WL.val rfl (run_pickF rfl) ?_
          refine WL.val rfl (run_move) ?_
          refine WL.yes rfl rfl rfl ?_
          refine WL.val rfl (run_move) ?_
          refine WL.yes rfl rfl rfl ?_
          refine WL.val rfl (run_bF (run_strEq rfl rfl) (by exact h3)) ?_
          first | refine WL.val rfl (run_pickT rfl) ?_ | refine WL.val rfl (run_pickF rfl) ?_
          refine WL.val rfl (run_move) ?_
          refine WL.yes rfl rfl rfl ?_
          refine WL.val rfl (run_move) ?_
          refine WL.yes rfl rfl rfl ?_
          refine WL.val rfl (run_bT (run_strEq rfl rfl) (by exact h4)) ?_
          first | refine WL.val rfl (run_pickT rfl) ?_ | refine WL.val rfl (run_pickF rfl) ?_
          refine WL.nil ?_
          repeat (first | refine CW.seq ?_ | refine CW.block ?_ | refine CW.skip ?_ | refine CW.label ?_ | refine CW.exit ?_ | refine CW.condT rfl ?_ | refine CW.condF rfl ?_)
          refine CW.reg ?_
          refine WL.val rfl (run_assign) ?_
          refine WL.nil ?_
          repeat (first | refine CW.seq ?_ | refine CW.block ?_ | refine CW.skip ?_ | refine CW.label ?_ | refine CW.exit ?_ | refine CW.condT rfl ?_ | refine CW.condF rfl ?_)
          refine CW.ret ?_
          refine fin_ret1 rfl ?_
          exact ⟨rfl, hs⟩
        · have e : isName s = !s.any badCh := by simp [isName, h1, h2, h3, h4]
          refine calls (n := 36) Tryd.func59 rfl rfl rfl ?_
          repeat (first | refine CW.seq ?_ | refine CW.block ?_ | refine CW.skip ?_ | refine CW.label ?_ | refine CW.exit ?_ | refine CW.condT rfl ?_ | refine CW.condF rfl ?_)
          refine CW.reg ?_
          refine WL.val rfl (run_assign) ?_
          refine WL.nil ?_
          repeat (first | refine CW.seq ?_ | refine CW.block ?_ | refine CW.skip ?_ | refine CW.label ?_ | refine CW.exit ?_ | refine CW.condT rfl ?_ | refine CW.condF rfl ?_)
          refine CW.reg ?_
          refine WL.val rfl (run_move) ?_
          refine WL.val rfl (run_lenStr Tryd.underlying9 rfl) ?_
          refine WL.val rfl (run_bF (run_lss rfl rfl) (by omega)) ?_
          refine WL.val rfl (run_move) ?_
          refine WL.yes rfl rfl rfl ?_
          refine WL.val rfl (run_move) ?_
          refine WL.yes rfl rfl rfl ?_
          refine WL.val rfl (run_lenStr Tryd.underlying9 rfl) ?_
          refine WL.yes rfl rfl rfl ?_
          refine WL.val rfl (run_bF (run_gtr rfl rfl) (by omega)) ?_
          first | refine WL.val rfl (run_pickT rfl) ?_ | refine WL.val rfl (run_pickF rfl) ?_
          refine WL.val rfl (run_move) ?_
          refine WL.yes rfl rfl rfl ?_
          refine WL.val rfl (run_move) ?_
          refine WL.yes rfl rfl rfl ?_
          refine WL.val rfl (run_bF (run_strEq rfl rfl) (by exact h3)) ?_
          first | refine WL.val rfl (run_pickT rfl) ?_ | refine WL.val rfl (run_pickF rfl) ?_
          refine WL.val rfl (run_move) ?_
          refine WL.yes rfl rfl rfl ?_
          refine WL.val rfl (run_move) ?_
          refine WL.yes rfl rfl rfl ?_
          refine WL.val rfl (run_bF (run_strEq rfl rfl) (by exact h4)) ?_
          first | refine WL.val rfl (run_pickT rfl) ?_ | refine WL.val rfl (run_pickF rfl) ?_
          refine WL.nil ?_
          repeat (first | refine CW.seq ?_ | refine CW.block ?_ | refine CW.skip ?_ | refine CW.label ?_ | refine CW.exit ?_ | refine CW.condT rfl ?_ | refine CW.condF rfl ?_)
          refine CW.reg ?_
          refine WL.val rfl (run_assign) ?_
          refine WL.nil ?_
          repeat (first | refine CW.seq ?_ | refine CW.block ?_ | refine CW.skip ?_ | refine CW.label ?_ | refine CW.exit ?_ | refine CW.condT rfl ?_ | refine CW.condF rfl ?_)
          refine CW.loop (fun m f w' => ∃ i, i ≤ s.length ∧ m = s.length - i ∧ Step [] [] w w' ∧ (s.take i).any badCh = false ∧ Holds f [(0, str s), (3, .int .i64 i)]) (m := s.length) ?_ ?_
          · exact ⟨0, by omega, by omega, hs, rfl, rfl, rfl, trivial⟩
          · rintro m f w ⟨i, hi, rfl, hs, hn, hf⟩
            have hobt := hf.chain
            obtain ⟨g, rfl⟩ := hobt
            repeat (first | refine CW.seq ?_ | refine CW.block ?_ | refine CW.skip ?_ | refine CW.label ?_ | refine CW.exit ?_ | refine CW.condT rfl ?_ | refine CW.condF rfl ?_)
            refine CW.reg ?_
            refine WL.val rfl (run_move) ?_
            refine WL.val rfl (run_move) ?_
            refine WL.val rfl (run_lenStr Tryd.underlying9 rfl) ?_
            refine WL.val rfl (run_lss rfl rfl) ?_
            refine WL.nil ?_
            repeat (first | refine CW.seq ?_ | refine CW.block ?_ | refine CW.skip ?_ | refine CW.label ?_ | refine CW.exit ?_)
            first | refine CW.condP rfl (fun h => ?_) (fun h => ?_) | refine CW.cond rfl (fun h => ?_) (fun h => ?_)
            · have hlt : i < s.length := by omega
              have hc : s[i]? = some s[i] := List.getElem?_eq_getElem hlt
              have hany : badCh s[i] = true → s.any badCh = true := fun h => List.any_eq_true.2 ⟨_, List.getElem_mem hlt, h⟩
              by_cases hc0 : s[i] = 0
              · repeat (first | refine CW.seq ?_ | refine CW.block ?_ | refine CW.skip ?_ | refine CW.label ?_ | refine CW.exit ?_ | refine CW.condT rfl ?_ | refine CW.condF rfl ?_)
                refine CW.reg ?_
                refine WL.val rfl (run_move) ?_
                refine WL.val rfl (run_move) ?_
                refine WL.val rfl (run_strIdx Tryd.underlying9 rfl rfl (hc)) ?_
                refine WL.val rfl (run_bT (run_eql rfl rfl) (by rw [hc0]; rfl)) ?_
                refine WL.val rfl (run_move) ?_
                first | refine WL.no rfl rfl rfl (.inl rfl) ?_ | refine WL.no rfl rfl rfl (.inr rfl) ?_
                first | refine WL.no rfl rfl rfl (.inl rfl) ?_ | refine WL.no rfl rfl rfl (.inr rfl) ?_
                first | refine WL.no rfl rfl rfl (.inl rfl) ?_ | refine WL.no rfl rfl rfl (.inr rfl) ?_
                first | refine WL.no rfl rfl rfl (.inl rfl) ?_ | refine WL.no rfl rfl rfl (.inr rfl) ?_
                first | refine WL.val rfl (run_pickT rfl) ?_ | refine WL.val rfl (run_pickF rfl) ?_
                refine WL.nil ?_
                repeat (first | refine CW.seq ?_ | refine CW.block ?_ | refine CW.skip ?_ | refine CW.label ?_ | refine CW.exit ?_ | refine CW.condT rfl ?_ | refine CW.condF rfl ?_)
                refine CW.reg ?_
                refine WL.val rfl (run_assign) ?_
                refine WL.nil ?_
                repeat (first | refine CW.seq ?_ | refine CW.block ?_ | refine CW.skip ?_ | refine CW.label ?_ | refine CW.exit ?_ | refine CW.condT rfl ?_ | refine CW.condF rfl ?_)
                refine CW.ret ?_
                refine fin_ret1 rfl ?_
                obtain rfl : b = false := by rw [← hb, e, hany (by simp [badCh, hc0])]; rfl
                exact ⟨rfl, hs⟩
              · have hz : ¬ ((s[i].toNat : Int) = 0) := fun h => hc0 (UInt8.toNat_inj.1 (by simpa using h))
                by_cases hc1 : s[i] = 47
                · repeat (first | refine CW.seq ?_ | refine CW.block ?_ | refine CW.skip ?_ | refine CW.label ?_ | refine CW.exit ?_ | refine CW.condT rfl ?_ | refine CW.condF rfl ?_)
                  refine CW.reg ?_
                  refine WL.val rfl (run_move) ?_
                  refine WL.val rfl (run_move) ?_
                  refine WL.val rfl (run_strIdx Tryd.underlying9 rfl rfl (hc)) ?_
                  refine WL.val rfl (run_bF (run_eql rfl rfl) (by exact hz)) ?_
                  refine WL.val rfl (run_move) ?_
                  refine WL.yes rfl rfl rfl ?_
                  refine WL.val rfl (run_move) ?_
                  refine WL.yes rfl rfl rfl ?_
                  refine WL.val rfl (run_move) ?_
                  refine WL.yes rfl rfl rfl ?_
                  refine WL.val rfl (run_strIdx Tryd.underlying9 rfl rfl (hc)) ?_
                  refine WL.yes rfl rfl rfl ?_
                  refine WL.val rfl (run_bT (run_eql rfl rfl) (by rw [hc1]; rfl)) ?_
                  first | refine WL.val rfl (run_pickT rfl) ?_ | refine WL.val rfl (run_pickF rfl) ?_
                  refine WL.nil ?_
                  repeat (first | refine CW.seq ?_ | refine CW.block ?_ | refine CW.skip ?_ | refine CW.label ?_ | refine CW.exit ?_ | refine CW.condT rfl ?_ | refine CW.condF rfl ?_)
                  refine CW.reg ?_
                  refine WL.val rfl (run_assign) ?_
                  refine WL.nil ?_
                  repeat (first | refine CW.seq ?_ | refine CW.block ?_ | refine CW.skip ?_ | refine CW.label ?_ | refine CW.exit ?_ | refine CW.condT rfl ?_ | refine CW.condF rfl ?_)
                  refine CW.ret ?_
                  refine fin_ret1 rfl ?_
                  obtain rfl : b = false := by rw [← hb, e, hany (by simp [badCh, hc1])]; rfl
                  exact ⟨rfl, hs⟩
                · have hz1 : ¬ ((s[i].toNat : Int) = 47) := fun h => hc1 (UInt8.toNat_inj.1 (by simpa using (show s[i].toNat = 47 by omega)))
                  repeat (first | refine CW.seq ?_ | refine CW.block ?_ | refine CW.skip ?_ | refine CW.label ?_ | refine CW.exit ?_ | refine CW.condT rfl ?_ | refine CW.condF rfl ?_)
                  refine CW.reg ?_
                  refine WL.val rfl (run_move) ?_
                  refine WL.val rfl (run_move) ?_
                  refine WL.val rfl (run_strIdx Tryd.underlying9 rfl rfl (hc)) ?_
                  refine WL.val rfl (run_bF (run_eql rfl rfl) (by exact hz)) ?_
                  refine WL.val rfl (run_move) ?_
                  refine WL.yes rfl rfl rfl ?_
                  refine WL.val rfl (run_move) ?_
                  refine WL.yes rfl rfl rfl ?_
                  refine WL.val rfl (run_move) ?_
                  refine WL.yes rfl rfl rfl ?_
                  refine WL.val rfl (run_strIdx Tryd.underlying9 rfl rfl (hc)) ?_
                  refine WL.yes rfl rfl rfl ?_
                  refine WL.val rfl (run_bF (run_eql rfl rfl) (by exact hz1)) ?_
                  first | refine WL.val rfl (run_pickT rfl) ?_ | refine WL.val rfl (run_pickF rfl) ?_
                  refine WL.nil ?_
                  repeat (first | refine CW.seq ?_ | refine CW.block ?_ | refine CW.skip ?_ | refine CW.label ?_ | refine CW.exit ?_ | refine CW.condT rfl ?_ | refine CW.condF rfl ?_)
                  refine CW.reg ?_
                  refine WL.val rfl (run_move) ?_
                  refine WL.val rfl (run_add (c := ((i + 1 : Nat) : Int)) rfl rfl (by omega) (by omega)) ?_
                  refine WL.val rfl (run_assign) ?_
                  refine WL.nil ?_
                  repeat (first | refine CW.seq ?_ | refine CW.block ?_ | refine CW.skip ?_ | refine CW.label ?_ | refine CW.exit ?_)
                  refine (show _ ∧ _ from ⟨rfl, _, ?_, i + 1, by omega, rfl, hs, ?_, rfl, rfl, trivial⟩)
                  · omega
                  · rw [List.take_succ_eq_append_getElem hlt, List.any_append, hn]
                    simp [badCh, hc0, hc1]
            · repeat (first | refine CW.seq ?_ | refine CW.block ?_ | refine CW.skip ?_ | refine CW.label ?_ | refine CW.exit ?_ | refine CW.condT rfl ?_ | refine CW.condF rfl ?_)
              refine CW.reg ?_
              refine WL.val rfl (run_assign) ?_
              refine WL.nil ?_
              repeat (first | refine CW.seq ?_ | refine CW.block ?_ | refine CW.skip ?_ | refine CW.label ?_ | refine CW.exit ?_ | refine CW.condT rfl ?_ | refine CW.condF rfl ?_)
              refine CW.ret ?_
              refine fin_ret1 rfl ?_
              obtain rfl : i = s.length := by omega
              rw [List.take_length] at hn
              obtain rfl : b = true := by rw [← hb, e, hn]; rfl
              exact ⟨rfl, hs⟩
    · obtain rfl : b = false := by rw [← hb]; simp [isName, h2]
      refine calls (n := 36) Tryd.func59 rfl rfl rfl ?_
      repeat (first | refine CW.seq ?_ | refine CW.block ?_ | refine CW.skip ?_ | refine CW.label ?_ | refine CW.exit ?_ | refine CW.condT rfl ?_ | refine CW.condF rfl ?_)
      refine CW.reg ?_
      refine WL.val rfl (run_assign) ?_
      refine WL.nil ?_
      repeat (first | refine CW.seq ?_ | refine CW.block ?_ | refine CW.skip ?_ | refine CW.label ?_ | refine CW.exit ?_ | refine CW.condT rfl ?_ | refine CW.condF rfl ?_)
      refine CW.reg ?_
      refine WL.val rfl (run_move) ?_
      refine WL.val rfl (run_lenStr Tryd.underlying9 rfl) ?_
      refine WL.val rfl (run_bF (run_lss rfl rfl) (by omega)) ?_
      refine WL.val rfl (run_move) ?_
      refine WL.yes rfl rfl rfl ?_
      refine WL.val rfl (run_move) ?_
      refine WL.yes rfl rfl rfl ?_
      refine WL.val rfl (run_lenStr Tryd.underlying9 rfl) ?_
      refine WL.yes rfl rfl rfl ?_
      refine WL.val rfl (run_bT (run_gtr rfl rfl) (by omega)) ?_
      first | refine WL.val rfl (run_pickT rfl) ?_ | refine WL.val rfl (run_pickF rfl) ?_
      refine WL.val rfl (run_move) ?_
      first | refine WL.no rfl rfl rfl (.inl rfl) ?_ | refine WL.no rfl rfl rfl (.inr rfl) ?_
      first | refine WL.no rfl rfl rfl (.inl rfl) ?_ | refine WL.no rfl rfl rfl (.inr rfl) ?_
      first | refine WL.val rfl (run_pickT rfl) ?_ | refine WL.val rfl (run_pickF rfl) ?_
      refine WL.val rfl (run_move) ?_
      first | refine WL.no rfl rfl rfl (.inl rfl) ?_ | refine WL.no rfl rfl rfl (.inr rfl) ?_
      first | refine WL.no rfl rfl rfl (.inl rfl) ?_ | refine WL.no rfl rfl rfl (.inr rfl) ?_
      first | refine WL.val rfl (run_pickT rfl) ?_ | refine WL.val rfl (run_pickF rfl) ?_
      refine WL.nil ?_
      repeat (first | refine CW.seq ?_ | refine CW.block ?_ | refine CW.skip ?_ | refine CW.label ?_ | refine CW.exit ?_ | refine CW.condT rfl ?_ | refine CW.condF rfl ?_)
      refine CW.reg ?_
      refine WL.val rfl (run_assign) ?_
      refine WL.nil ?_
      repeat (first | refine CW.seq ?_ | refine CW.block ?_ | refine CW.skip ?_ | refine CW.label ?_ | refine CW.exit ?_ | refine CW.condT rfl ?_ | refine CW.condF rfl ?_)
      refine CW.ret ?_
      refine fin_ret1 rfl ?_
      exact ⟨rfl, hs⟩
  · obtain rfl : b = false := by rw [← hb]; simp [isName, h1]
    refine calls (n := 36) Tryd.func59 rfl rfl rfl ?_
    repeat (first | refine CW.seq ?_ | refine CW.block ?_ | refine CW.skip ?_ | refine CW.label ?_ | refine CW.exit ?_ | refine CW.condT rfl ?_ | refine CW.condF rfl ?_)
    refine CW.reg ?_
    refine WL.val rfl (run_assign) ?_
    refine WL.nil ?_
    repeat (first | refine CW.seq ?_ | refine CW.block ?_ | refine CW.skip ?_ | refine CW.label ?_ | refine CW.exit ?_ | refine CW.condT rfl ?_ | refine CW.condF rfl ?_)
    refine CW.reg ?_
    refine WL.val rfl (run_move) ?_
    refine WL.val rfl (run_lenStr Tryd.underlying9 rfl) ?_
    refine WL.val rfl (run_bT (run_lss rfl rfl) (by omega)) ?_
    refine WL.val rfl (run_move) ?_
    first | refine WL.no rfl rfl rfl (.inl rfl) ?_ | refine WL.no rfl rfl rfl (.inr rfl) ?_
    first | refine WL.no rfl rfl rfl (.inl rfl) ?_ | refine WL.no rfl rfl rfl (.inr rfl) ?_
    first | refine WL.no rfl rfl rfl (.inl rfl) ?_ | refine WL.no rfl rfl rfl (.inr rfl) ?_
    first | refine WL.val rfl (run_pickT rfl) ?_ | refine WL.val rfl (run_pickF rfl) ?_
    refine WL.val rfl (run_move) ?_
    first | refine WL.no rfl rfl rfl (.inl rfl) ?_ | refine WL.no rfl rfl rfl (.inr rfl) ?_
    first | refine WL.no rfl rfl rfl (.inl rfl) ?_ | refine WL.no rfl rfl rfl (.inr rfl) ?_
    first | refine WL.val rfl (run_pickT rfl) ?_ | refine WL.val rfl (run_pickF rfl) ?_
    refine WL.val rfl (run_move) ?_
    first | refine WL.no rfl rfl rfl (.inl rfl) ?_ | refine WL.no rfl rfl rfl (.inr rfl) ?_
    first | refine WL.no rfl rfl rfl (.inl rfl) ?_ | refine WL.no rfl rfl rfl (.inr rfl) ?_
    first | refine WL.val rfl (run_pickT rfl) ?_ | refine WL.val rfl (run_pickF rfl) ?_
    refine WL.nil ?_
    repeat (first | refine CW.seq ?_ | refine CW.block ?_ | refine CW.skip ?_ | refine CW.label ?_ | refine CW.exit ?_ | refine CW.condT rfl ?_ | refine CW.condF rfl ?_)
    refine CW.reg ?_
    refine WL.val rfl (run_assign) ?_
    refine WL.nil ?_
    repeat (first | refine CW.seq ?_ | refine CW.block ?_ | refine CW.skip ?_ | refine CW.label ?_ | refine CW.exit ?_ | refine CW.condT rfl ?_ | refine CW.condF rfl ?_)
    refine CW.ret ?_
    refine fin_ret1 rfl ?_
    exact ⟨rfl, hs⟩
theorem cmp_lt : ∀ a b : List UInt8, Lib.compareBytes a b < 0 ↔ Op.bytesLess a b = true
  | [], [] => by simp [Lib.compareBytes, Op.bytesLess]
  | [], _ :: _ => by simp [Lib.compareBytes, Op.bytesLess]
  | _ :: _, [] => by simp [Lib.compareBytes, Op.bytesLess]
  | a :: x, b :: y => by
    have ih := cmp_lt x y
    unfold Lib.compareBytes
    by_cases h : a < b
    · simp [h, Op.bytesLess]
    · by_cases h2 : b < a
      · have hne : ¬ a = b := fun e => by subst e; exact UInt8.lt_irrefl _ h2
        simp [h, h2, Op.bytesLess, hne]
      · have : a = b := UInt8.toNat_inj.1 (by have h3 := UInt8.not_lt.1 h; have h4 := UInt8.not_lt.1 h2; exact Nat.le_antisymm (UInt8.le_iff_toNat_le.1 h4) (UInt8.le_iff_toNat_le.1 h3))
        subst this
        simp [Op.bytesLess, UInt8.lt_irrefl, ih]
theorem cmp_eq0 : ∀ a b : List UInt8, Lib.compareBytes a b = 0 ↔ a = b
  | [], [] => by simp [Lib.compareBytes]
  | [], _ :: _ => by simp [Lib.compareBytes]
  | _ :: _, [] => by simp [Lib.compareBytes]
  | a :: x, b :: y => by
    have ih := cmp_eq0 x y
    unfold Lib.compareBytes
    by_cases h : a < b
    · have hne : ¬ a = b := fun e => by subst e; exact UInt8.lt_irrefl _ h
      simp [h, hne]
    · by_cases h2 : b < a
      · have hne : ¬ a = b := fun e => by subst e; exact UInt8.lt_irrefl _ h2
        simp [h, h2, hne]
      · have : a = b := UInt8.toNat_inj.1 (by have h3 := UInt8.not_lt.1 h; have h4 := UInt8.not_lt.1 h2; exact Nat.le_antisymm (UInt8.le_iff_toNat_le.1 h4) (UInt8.le_iff_toNat_le.1 h3))
        subst this
        simp [UInt8.lt_irrefl, ih]
end Go.Gx
