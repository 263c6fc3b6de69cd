/- Under: both sides. -/
import Derived.Test.YtnoamfcnamlbhaaDoorKnows
namespace Go.Gx
open Go.Proofs Go.RowKit
set_option linter.unusedVariables false
set_option linter.unusedSimpArgs false
set_option maxRecDepth 100000

def underL (x y : List (List UInt8)) : Bool := decide (x = y.take x.length)
def bas (x : List (List UInt8)) : List ByteArray := x.map fun l => ByteArray.mk ⟨l⟩
theorem bas_len (x : List (List UInt8)) : (bas x).length = x.length := by simp [bas]
theorem bas_inj {x y : List (List UInt8)} (h : bas x = bas y) : x = y := by
  have e : ∀ z : List (List UInt8), (bas z).map (·.data.toList) = z := fun z => by
    rw [bas, List.map_map]
    exact (List.map_congr_left (g := id) fun l _ => rfl).trans (List.map_id z)
  rw [← e x, ← e y, h]
theorem bas_at {x : List (List UInt8)} {w : World} {bp : Nat} (h : ∀ i p, x[i]? = some p → w.cell? ⟨bp, 0 + i * 1, none⟩ = some (str p)) (j : Nat) (hj : j < (bas x).length) : w.cell? ⟨bp, 0 + j, none⟩ = some (.string ((bas x).getD j ByteArray.empty)) := by
  rw [bas_len] at hj
  have := h j x[j] (List.getElem?_eq_getElem hj)
  rw [Nat.mul_one] at this
  rw [this]
  simp [bas, str, List.getD_eq_getElem?_getD, hj]
theorem equal_spec {a a2 : Option Addr} {c d k : Nat} {x y : List (List UInt8)} (w : World) (hk : k ≤ y.length) (hx : Texts w a x) (hy : Texts w a2 y) (hxl : x.length ≤ 9223372036854775807) (hyl : y.length ≤ 9223372036854775807) :
    Calls Tryd.prog 47 #[.slice a x.length c, .slice a2 k d] w (Ret0 (.bool (decide (x = y.take k))) w) := by
  rcases hx with rfl | ⟨bx, rfl, hcx⟩
  · refine (Tryd.slices_Equal_string_empty a a2 c k d w (by omega)).mono fun e w' ⟨h1, h2⟩ => ?_
    subst h2
    refine ⟨?_, Step.refl _⟩
    rw [h1]
    have : (k = 0) ↔ ([] = y.take k) := by
      constructor
      · rintro rfl; simp
      · intro h
        have := congrArg List.length h
        rw [List.length_take, List.length_nil] at this
        omega
    rw [decide_eq_decide.2 this]
  rcases hy with rfl | ⟨bq, rfl, hcy⟩
  · obtain rfl : k = 0 := by simpa using hk
    by_cases h0 : x.length = 0
    · obtain rfl := List.eq_nil_of_length_eq_zero h0
      refine (Tryd.slices_Equal_string_empty (some ⟨bx, 0, none⟩) a2 c 0 d w (by omega)).mono fun e w' ⟨h1, h2⟩ => ?_
      subst h2
      exact ⟨h1, Step.refl _⟩
    · refine (Tryd.slices_Equal_string_lens (some ⟨bx, 0, none⟩) a2 x.length c 0 d w h0).mono fun e w' ⟨h1, h2⟩ => ?_
      subst h2
      refine ⟨?_, Step.refl _⟩
      rw [h1, decide_eq_false]
      intro h
      exact h0 (by rw [h]; rfl)
  · refine (Tryd.slices_Equal_string bx 0 x.length c bq 0 k d (bas x) (bas y) w (by rw [bas_len]; exact Nat.le_refl _) (by rw [bas_len]; exact hk) hxl (by omega) (bas_at hcx) (bas_at hcy)).mono fun e w' ⟨h1, q, h2⟩ => ?_
    subst h2
    refine ⟨?_, (Step.refl w).drewN q⟩
    have e1 : (bas x).take x.length = bas x := List.take_of_length_le (by rw [bas_len]; exact Nat.le_refl _)
    have e2 : (bas y).take k = bas (y.take k) := by simp [bas, List.map_take]
    rw [h1, e1, e2]
    rw [decide_eq_decide.2 (⟨bas_inj, fun h => by rw [h]⟩ : bas x = bas (y.take k) ↔ x = y.take k)]

theorem under_spec {s t : List UInt8} (w0 : World) (hg : Gl w0) (hs1 : s.length < 4294967281) (ht1 : t.length < 4294967281) : Calls Tryd.prog 26 #[str s, str t] w0 (Ret0 (.bool (underL (partsL s) (partsL t))) w0) := by
  have hpl := partsL_len s
  have hpt := partsL_len t
  refine calls (n := 24) Tryd.func26 rfl rfl rfl ?_
  repeat (first | refine CW.seq ?_ | refine CW.block ?_ | refine CW.skip ?_ | refine CW.label ?_ | refine CW.exit ?_ | refine CW.condT rfl ?_ | refine CW.condF rfl ?_)
  refine CW.reg ?_
  refine WL.val rfl (run_assign) ?_
  refine WL.nil ?_
  repeat (first | refine CW.seq ?_ | refine CW.block ?_ | refine CW.skip ?_ | refine CW.label ?_ | refine CW.exit ?_ | refine CW.condT rfl ?_ | refine CW.condF rfl ?_)
  refine CW.reg ?_
  refine WL.val rfl (run_move) ?_
  refine WL.enter rfl (run_call en34 rfl rfl) (parts_spec _ hg hs1) ?_
  rintro e w ⟨u, Lu, rfl, hu, hq⟩
  refine ⟨_, rfl, ?_⟩
  have hs := hq
  refine WL.val rfl (run_move) ?_
  refine WL.enter rfl (run_call en34 rfl rfl) (parts_spec _ (hg.step hs) ht1) ?_
  rintro e w ⟨u2, Lv, rfl, hv, hq2⟩
  refine ⟨_, rfl, ?_⟩
  have hxx := cellsOf hu hs
  obtain ⟨a, c, hq3, hcl, hcx⟩ := hxx
  subst hq3
  have hyy := cellsOf hv hq2
  obtain ⟨a2, c2, hq4, hcl2, hcy⟩ := hyy
  subst hq4
  have hcx2 : Texts _ _ _ := Sl0.keep hcx hq2
  replace hs := hs.dropR (L1 := [])
  replace hs := hs.call0 (hq2.dropR (L1 := []))
  refine WL.val rfl (run_assign) ?_
  refine WL.val rfl (run_assign) ?_
  refine WL.nil ?_
  by_cases hle : (partsL s).length ≤ (partsL t).length
  · rcases hcy with hy0 | ⟨bq, rfl, hcy'⟩
    · have hx0 : partsL s = [] := List.eq_nil_of_length_eq_zero (by rw [hy0] at hle; simpa using hle)
      rcases hv.2 with ⟨hv1, hv2, hv3⟩ | ⟨bq, cap, more, hv1, hv2, hv3⟩
      · have hx00 : (partsL s).length = 0 := by rw [hx0]; rfl
        repeat (first | refine CW.seq ?_ | refine CW.block ?_ | refine CW.skip ?_ | refine CW.label ?_ | refine CW.exit ?_ | refine CW.condT rfl ?_ | refine CW.condF rfl ?_)
        refine CW.reg ?_
        refine WL.val rfl (run_move) ?_
        refine WL.val rfl (run_lenSl Tryd.underlying34 rfl) ?_
        refine WL.val rfl (run_move) ?_
        refine WL.val rfl (run_lenSl Tryd.underlying34 rfl) ?_
        refine WL.val rfl (run_bT (run_leq rfl rfl) (by omega)) ?_
        refine WL.val rfl (run_move) ?_
        refine WL.yes rfl rfl rfl ?_
        refine WL.val rfl (run_move) ?_
        refine WL.yes rfl rfl rfl ?_
        refine WL.val rfl (run_move) ?_
        refine WL.yes rfl rfl rfl ?_
        refine WL.val rfl (run_move) ?_
        refine WL.yes rfl rfl rfl ?_
        refine WL.val rfl (run_lenSl Tryd.underlying34 rfl) ?_
        refine WL.yes rfl rfl rfl ?_
        refine WL.val rfl (run_sliceNil Tryd.underlying34 ty9 hv1 rfl (congrArg (fun k : Nat => Value.int .i64 (k : Int)) hx00)) ?_
        refine WL.yes rfl rfl rfl ?_
        refine WL.enter rfl (run_call en47 rfl rfl) (equal_spec (k := 0) _ (Nat.zero_le _) hcx2 (.inl hy0) (by omega) (by omega)) ?_
        rintro e w ⟨rfl, hq5⟩
        refine ⟨_, rfl, ?_⟩
        replace hs := hs.callE hq5
        first | refine WL.val rfl (run_pickT rfl) ?_ | refine WL.val rfl (run_pickF rfl) ?_
        refine WL.val rfl (run_assign) ?_
        refine WL.nil ?_
        repeat (first | refine CW.seq ?_ | refine CW.block ?_ | refine CW.skip ?_ | refine CW.label ?_ | refine CW.exit ?_ | refine CW.condT rfl ?_ | refine CW.condF rfl ?_)
        refine CW.ret ?_
        refine fin_ret1 rfl ?_
        exact ⟨congrArg (fun b => Ending.returned (.bool b)) (show decide (partsL s = (partsL t).take 0) = underL (partsL s) (partsL t) by rw [underL, hx0]; rfl), hs⟩
      · have hobt := Value.slice.inj hv1
        obtain ⟨rfl, -, rfl⟩ := hobt
        repeat (first | refine CW.seq ?_ | refine CW.block ?_ | refine CW.skip ?_ | refine CW.label ?_ | refine CW.exit ?_ | refine CW.condT rfl ?_ | refine CW.condF rfl ?_)
        refine CW.reg ?_
        refine WL.val rfl (run_move) ?_
        refine WL.val rfl (run_lenSl Tryd.underlying34 rfl) ?_
        refine WL.val rfl (run_move) ?_
        refine WL.val rfl (run_lenSl Tryd.underlying34 rfl) ?_
        refine WL.val rfl (run_bT (run_leq rfl rfl) (by omega)) ?_
        refine WL.val rfl (run_move) ?_
        refine WL.yes rfl rfl rfl ?_
        refine WL.val rfl (run_move) ?_
        refine WL.yes rfl rfl rfl ?_
        refine WL.val rfl (run_move) ?_
        refine WL.yes rfl rfl rfl ?_
        refine WL.val rfl (run_move) ?_
        refine WL.yes rfl rfl rfl ?_
        refine WL.val rfl (run_lenSl Tryd.underlying34 rfl) ?_
        refine WL.yes rfl rfl rfl ?_
        refine WL.val rfl (run_sliceSl0  Tryd.underlying34 ty9 rfl rfl rfl (by simp) (by omega) (by omega)) ?_
        refine WL.yes rfl rfl rfl ?_
        refine WL.enter rfl (run_call en47 rfl rfl) (equal_spec (k := (partsL s).length) _ hle hcx2 (.inl hy0) (by omega) (by omega)) ?_
        rintro e w ⟨rfl, hq5⟩
        refine ⟨_, rfl, ?_⟩
        replace hs := hs.callE hq5
        first | refine WL.val rfl (run_pickT rfl) ?_ | refine WL.val rfl (run_pickF rfl) ?_
        refine WL.val rfl (run_assign) ?_
        refine WL.nil ?_
        repeat (first | refine CW.seq ?_ | refine CW.block ?_ | refine CW.skip ?_ | refine CW.label ?_ | refine CW.exit ?_ | refine CW.condT rfl ?_ | refine CW.condF rfl ?_)
        refine CW.ret ?_
        refine fin_ret1 rfl ?_
        exact ⟨rfl, hs⟩
    · repeat (first | refine CW.seq ?_ | refine CW.block ?_ | refine CW.skip ?_ | refine CW.label ?_ | refine CW.exit ?_ | refine CW.condT rfl ?_ | refine CW.condF rfl ?_)
      refine CW.reg ?_
      refine WL.val rfl (run_move) ?_
      refine WL.val rfl (run_lenSl Tryd.underlying34 rfl) ?_
      refine WL.val rfl (run_move) ?_
      refine WL.val rfl (run_lenSl Tryd.underlying34 rfl) ?_
      refine WL.val rfl (run_bT (run_leq rfl rfl) (by omega)) ?_
      refine WL.val rfl (run_move) ?_
      refine WL.yes rfl rfl rfl ?_
      refine WL.val rfl (run_move) ?_
      refine WL.yes rfl rfl rfl ?_
      refine WL.val rfl (run_move) ?_
      refine WL.yes rfl rfl rfl ?_
      refine WL.val rfl (run_move) ?_
      refine WL.yes rfl rfl rfl ?_
      refine WL.val rfl (run_lenSl Tryd.underlying34 rfl) ?_
      refine WL.yes rfl rfl rfl ?_
      refine WL.val rfl (run_sliceSl0  Tryd.underlying34 ty9 rfl rfl rfl (by simp) (by omega) (by omega)) ?_
      refine WL.yes rfl rfl rfl ?_
      refine WL.enter rfl (run_call en47 rfl rfl) (equal_spec (k := (partsL s).length) _ hle hcx2 (.inr ⟨bq, rfl, hcy'⟩) (by omega) (by omega)) ?_
      rintro e w ⟨rfl, hq5⟩
      refine ⟨_, rfl, ?_⟩
      replace hs := hs.callE hq5
      first | refine WL.val rfl (run_pickT rfl) ?_ | refine WL.val rfl (run_pickF rfl) ?_
      refine WL.val rfl (run_assign) ?_
      refine WL.nil ?_
      repeat (first | refine CW.seq ?_ | refine CW.block ?_ | refine CW.skip ?_ | refine CW.label ?_ | refine CW.exit ?_ | refine CW.condT rfl ?_ | refine CW.condF rfl ?_)
      refine CW.ret ?_
      refine fin_ret1 rfl ?_
      exact ⟨rfl, hs⟩
  · repeat (first | refine CW.seq ?_ | refine CW.block ?_ | refine CW.skip ?_ | refine CW.label ?_ | refine CW.exit ?_ | refine CW.condT rfl ?_ | refine CW.condF rfl ?_)
    refine CW.reg ?_
    refine WL.val rfl (run_move) ?_
    refine WL.val rfl (run_lenSl Tryd.underlying34 rfl) ?_
    refine WL.val rfl (run_move) ?_
    refine WL.val rfl (run_lenSl Tryd.underlying34 rfl) ?_
    refine WL.val rfl (run_bF (run_leq rfl rfl) (by omega)) ?_
    refine WL.val rfl (run_move) ?_
    first | refine WL.no rfl rfl rfl (.inl rfl) ?_ | refine WL.no rfl rfl rfl (.inr rfl) ?_
    first | refine WL.no rfl rfl rfl (.inl rfl) ?_ | refine WL.no rfl rfl rfl (.inr rfl) ?_
    first | refine WL.no rfl rfl rfl (.inl rfl) ?_ | refine WL.no rfl rfl rfl (.inr rfl) ?_
    first | refine WL.no rfl rfl rfl (.inl rfl) ?_ | refine WL.no rfl rfl rfl (.inr rfl) ?_
    first | refine WL.no rfl rfl rfl (.inl rfl) ?_ | refine WL.no rfl rfl rfl (.inr rfl) ?_
    first | refine WL.no rfl rfl rfl (.inl rfl) ?_ | refine WL.no rfl rfl rfl (.inr rfl) ?_
    first | refine WL.val rfl (run_pickT rfl) ?_ | refine WL.val rfl (run_pickF rfl) ?_
    refine WL.val rfl (run_assign) ?_
    refine WL.nil ?_
    repeat (first | refine CW.seq ?_ | refine CW.block ?_ | refine CW.skip ?_ | refine CW.label ?_ | refine CW.exit ?_ | refine CW.condT rfl ?_ | refine CW.condF rfl ?_)
    refine CW.ret ?_
    refine fin_ret1 rfl ?_
    refine ⟨congrArg (fun b => Ending.returned (.bool b)) (show false = underL (partsL s) (partsL t) from (decide_eq_false fun h => hle ?_).symm), hs⟩
    have := congrArg List.length h
    rw [List.length_take] at this
    omega

theorem refUnder_spec {s t : List UInt8} (w0 : World) (hs1 : s.length < 4294967281) (ht1 : t.length < 4294967281) : Calls Tryd.prog 27 #[str s, str t] w0 (Ret0 (.bool (underL (partsL s) (partsL t))) w0) := by
  have hpl := partsL_len s
  have hpt := partsL_len t
  refine calls (n := 32) Tryd.func27 rfl rfl rfl ?_
  repeat (first | refine CW.seq ?_ | refine CW.block ?_ | refine CW.skip ?_ | refine CW.label ?_ | refine CW.exit ?_ | refine CW.condT rfl ?_ | refine CW.condF rfl ?_)
  refine CW.reg ?_
  refine WL.val rfl (run_assign) ?_
  refine WL.nil ?_
  repeat (first | refine CW.seq ?_ | refine CW.block ?_ | refine CW.skip ?_ | refine CW.label ?_ | refine CW.exit ?_ | refine CW.condT rfl ?_ | refine CW.condF rfl ?_)
  refine CW.reg ?_
  refine WL.val rfl (run_move) ?_
  refine WL.enter rfl (run_call en33 rfl rfl) (refParts_spec _ hs1) ?_
  rintro e w ⟨u, Lu, rfl, hu, hq⟩
  refine ⟨_, rfl, ?_⟩
  have hs := hq
  refine WL.val rfl (run_assign) ?_
  refine WL.nil ?_
  repeat (first | refine CW.seq ?_ | refine CW.block ?_ | refine CW.skip ?_ | refine CW.label ?_ | refine CW.exit ?_ | refine CW.condT rfl ?_ | refine CW.condF rfl ?_)
  refine CW.reg ?_
  refine WL.val rfl (run_move) ?_
  refine WL.enter rfl (run_call en33 rfl rfl) (refParts_spec _ ht1) ?_
  rintro e w ⟨u2, Lv, rfl, hv, hq2⟩
  refine ⟨_, rfl, ?_⟩
  have hxx := cellsOf hu hs
  obtain ⟨a, c, hq3, hcl, hcx⟩ := hxx
  subst hq3
  have hyy := cellsOf hv hq2
  obtain ⟨a2, c2, hq4, hcl2, hcy⟩ := hyy
  subst hq4
  have hcx2 : Texts _ _ _ := Sl0.keep hcx hq2
  replace hs := hs.dropR (L1 := [])
  replace hs := hs.call0 (hq2.dropR (L1 := []))
  refine WL.val rfl (run_assign) ?_
  refine WL.nil ?_
  by_cases hle : (partsL s).length ≤ (partsL t).length
  · repeat (first | refine CW.seq ?_ | refine CW.block ?_ | refine CW.skip ?_ | refine CW.label ?_ | refine CW.exit ?_ | refine CW.condT rfl ?_ | refine CW.condF rfl ?_)
    refine CW.reg ?_
    refine WL.val rfl (run_move) ?_
    refine WL.val rfl (run_lenSl Tryd.underlying34 rfl) ?_
    refine WL.val rfl (run_move) ?_
    refine WL.val rfl (run_lenSl Tryd.underlying34 rfl) ?_
    refine WL.val rfl (run_bF (run_gtr rfl rfl) (by omega)) ?_
    refine WL.nil ?_
    repeat (first | refine CW.seq ?_ | refine CW.block ?_ | refine CW.skip ?_ | refine CW.label ?_ | refine CW.exit ?_ | refine CW.condT rfl ?_ | refine CW.condF rfl ?_)
    refine CW.reg ?_
    refine WL.val rfl (run_assign) ?_
    refine WL.nil ?_
    have hs0 := hs
    repeat (first | refine CW.seq ?_ | refine CW.block ?_ | refine CW.skip ?_ | refine CW.label ?_ | refine CW.exit ?_ | refine CW.condT rfl ?_ | refine CW.condF rfl ?_)
    refine CW.loop (fun m f w' => ∃ i, i ≤ (partsL s).length ∧ m = (partsL s).length - i ∧ (partsL s).take i = (partsL t).take i ∧ Step [] [] w w' ∧ Holds f [(5, .slice a (partsL s).length c), (6, .slice a2 (partsL t).length c2), (7, .int .i64 i)]) (m := (partsL s).length) ?_ ?_
    · exact ⟨0, by omega, by omega, by simp, Step.refl _, rfl, rfl, rfl, trivial⟩
    · clear hs
      rintro m f w' ⟨i, hi, rfl, hsame, hs, hf⟩
      have hobt := hf.chain
      obtain ⟨g, rfl⟩ := hobt
      by_cases hlt : i < (partsL s).length
      · have hobt := Texts.get hcx2 hlt
        obtain ⟨bx, p, rfl, hpi, hpm, hcp⟩ := hobt
        have hobt := Texts.get hcy (show i < (partsL t).length by omega)
        obtain ⟨bq, q, rfl, hqi, hqm, hcq⟩ := hobt
        by_cases hpq : p = q
        · repeat (first | refine CW.seq ?_ | refine CW.block ?_ | refine CW.skip ?_ | refine CW.label ?_ | refine CW.exit ?_ | refine CW.condT rfl ?_ | refine CW.condF rfl ?_)
          refine CW.reg ?_
          refine WL.val rfl (run_move) ?_
          refine WL.val rfl (run_move) ?_
          refine WL.val rfl (run_lenSl Tryd.underlying34 rfl) ?_
          refine WL.val rfl (run_bT (run_lss rfl rfl) (by omega)) ?_
          refine WL.nil ?_
          repeat (first | refine CW.seq ?_ | refine CW.block ?_ | refine CW.skip ?_ | refine CW.label ?_ | refine CW.exit ?_ | refine CW.condT rfl ?_ | refine CW.condF rfl ?_)
          refine CW.quiet mixedP (by kernel_rfl) hs ?_
          refine QL.val rfl (fun w hs => run_move) ?_
          refine QL.val rfl (fun w hs => run_move) ?_
          first | refine QL.val rfl (fun w hs => run_ixSlN Tryd.underlying34 ty9 rfl rfl (by omega)) ?_ | refine QL.val rfl (fun w hs => run_ixSl Tryd.underlying34 ty9 rfl rfl (by omega)) ?_
          refine QL.val rfl (fun w hs => run_load1 ty9 rfl ((hcp hs))) ?_
          refine QL.val rfl (fun w hs => run_move) ?_
          refine QL.val rfl (fun w hs => run_move) ?_
          first | refine QL.val rfl (fun w hs => run_ixSlN Tryd.underlying34 ty9 rfl rfl (by omega)) ?_ | refine QL.val rfl (fun w hs => run_ixSl Tryd.underlying34 ty9 rfl rfl (by omega)) ?_
          refine QL.val rfl (fun w hs => run_load1 ty9 rfl ((hcq hs))) ?_
          refine QL.val rfl (fun w hs => run_bF (run_strNe rfl rfl) (by (exact fun h => h hpq))) ?_
          refine QL.nil (fun w hs => ?_)
          repeat (first | refine CW.seq ?_ | refine CW.block ?_ | refine CW.skip ?_ | refine CW.label ?_ | refine CW.exit ?_ | refine CW.condT rfl ?_ | refine CW.condF rfl ?_)
          refine CW.reg ?_
          refine WL.val rfl (run_move) ?_
          refine WL.val rfl (run_add (c := ((i + 1 : Nat) : Int)) rfl rfl (by omega) (by omega)) ?_
          refine WL.val rfl (run_assign) ?_
          refine WL.nil ?_
          repeat (first | refine CW.seq ?_ | refine CW.block ?_ | refine CW.skip ?_ | refine CW.label ?_ | refine CW.exit ?_)
          refine (show _ ∧ _ from ⟨rfl, _, ?_, i + 1, by omega, rfl, ?_, hs, rfl, rfl, rfl, trivial⟩)
          · omega
          · rw [List.take_add_one, List.take_add_one, hsame, hpi, hqi, hpq]
        · repeat (first | refine CW.seq ?_ | refine CW.block ?_ | refine CW.skip ?_ | refine CW.label ?_ | refine CW.exit ?_ | refine CW.condT rfl ?_ | refine CW.condF rfl ?_)
          refine CW.reg ?_
          refine WL.val rfl (run_move) ?_
          refine WL.val rfl (run_move) ?_
          refine WL.val rfl (run_lenSl Tryd.underlying34 rfl) ?_
          refine WL.val rfl (run_bT (run_lss rfl rfl) (by omega)) ?_
          refine WL.nil ?_
          repeat (first | refine CW.seq ?_ | refine CW.block ?_ | refine CW.skip ?_ | refine CW.label ?_ | refine CW.exit ?_ | refine CW.condT rfl ?_ | refine CW.condF rfl ?_)
          refine CW.quiet mixedP (by kernel_rfl) hs ?_
          refine QL.val rfl (fun w hs => run_move) ?_
          refine QL.val rfl (fun w hs => run_move) ?_
          first | refine QL.val rfl (fun w hs => run_ixSlN Tryd.underlying34 ty9 rfl rfl (by omega)) ?_ | refine QL.val rfl (fun w hs => run_ixSl Tryd.underlying34 ty9 rfl rfl (by omega)) ?_
          refine QL.val rfl (fun w hs => run_load1 ty9 rfl ((hcp hs))) ?_
          refine QL.val rfl (fun w hs => run_move) ?_
          refine QL.val rfl (fun w hs => run_move) ?_
          first | refine QL.val rfl (fun w hs => run_ixSlN Tryd.underlying34 ty9 rfl rfl (by omega)) ?_ | refine QL.val rfl (fun w hs => run_ixSl Tryd.underlying34 ty9 rfl rfl (by omega)) ?_
          refine QL.val rfl (fun w hs => run_load1 ty9 rfl ((hcq hs))) ?_
          refine QL.val rfl (fun w hs => run_bT (run_strNe rfl rfl) (by exact hpq)) ?_
          refine QL.nil (fun w hs => ?_)
          repeat (first | refine CW.seq ?_ | refine CW.block ?_ | refine CW.skip ?_ | refine CW.label ?_ | refine CW.exit ?_ | refine CW.condT rfl ?_ | refine CW.condF rfl ?_)
          refine CW.reg ?_
          refine WL.val rfl (run_assign) ?_
          refine WL.nil ?_
          repeat (first | refine CW.seq ?_ | refine CW.block ?_ | refine CW.skip ?_ | refine CW.label ?_ | refine CW.exit ?_ | refine CW.condT rfl ?_ | refine CW.condF rfl ?_)
          refine CW.ret ?_
          refine fin_ret1 rfl ?_
          refine ⟨congrArg (fun b => Ending.returned (.bool b)) (show false = underL (partsL s) (partsL t) from (decide_eq_false fun h => hpq ?_).symm), hs0.callE hs⟩
          have h1 := congrArg (·[i]?) h
          simp only [List.getElem?_take, if_pos hlt, hpi, hqi] at h1
          exact Option.some.inj h1
      · obtain rfl : i = (partsL s).length := by omega
        repeat (first | refine CW.seq ?_ | refine CW.block ?_ | refine CW.skip ?_ | refine CW.label ?_ | refine CW.exit ?_ | refine CW.condT rfl ?_ | refine CW.condF rfl ?_)
        refine CW.reg ?_
        refine WL.val rfl (run_move) ?_
        refine WL.val rfl (run_move) ?_
        refine WL.val rfl (run_lenSl Tryd.underlying34 rfl) ?_
        refine WL.val rfl (run_bF (run_lss rfl rfl) (by omega)) ?_
        refine WL.nil ?_
        repeat (first | refine CW.seq ?_ | refine CW.block ?_ | refine CW.skip ?_ | refine CW.label ?_ | refine CW.exit ?_ | refine CW.condT rfl ?_ | refine CW.condF rfl ?_)
        refine CW.reg ?_
        refine WL.val rfl (run_assign) ?_
        refine WL.nil ?_
        repeat (first | refine CW.seq ?_ | refine CW.block ?_ | refine CW.skip ?_ | refine CW.label ?_ | refine CW.exit ?_ | refine CW.condT rfl ?_ | refine CW.condF rfl ?_)
        refine CW.ret ?_
        refine fin_ret1 rfl ?_
        refine ⟨congrArg (fun b => Ending.returned (.bool b)) (show true = underL (partsL s) (partsL t) from (decide_eq_true ?_).symm), hs0.callE hs⟩
        rw [← hsame, List.take_length]
  · repeat (first | refine CW.seq ?_ | refine CW.block ?_ | refine CW.skip ?_ | refine CW.label ?_ | refine CW.exit ?_ | refine CW.condT rfl ?_ | refine CW.condF rfl ?_)
    refine CW.reg ?_
    refine WL.val rfl (run_move) ?_
    refine WL.val rfl (run_lenSl Tryd.underlying34 rfl) ?_
    refine WL.val rfl (run_move) ?_
    refine WL.val rfl (run_lenSl Tryd.underlying34 rfl) ?_
    refine WL.val rfl (run_bT (run_gtr rfl rfl) (by omega)) ?_
    refine WL.nil ?_
    repeat (first | refine CW.seq ?_ | refine CW.block ?_ | refine CW.skip ?_ | refine CW.label ?_ | refine CW.exit ?_ | refine CW.condT rfl ?_ | refine CW.condF rfl ?_)
    refine CW.reg ?_
    refine WL.val rfl (run_assign) ?_
    refine WL.nil ?_
    repeat (first | refine CW.seq ?_ | refine CW.block ?_ | refine CW.skip ?_ | refine CW.label ?_ | refine CW.exit ?_ | refine CW.condT rfl ?_ | refine CW.condF rfl ?_)
    refine CW.ret ?_
    refine fin_ret1 rfl ?_
    refine ⟨congrArg (fun b => Ending.returned (.bool b)) (show false = underL (partsL s) (partsL t) from (decide_eq_false fun h => hle ?_).symm), hs⟩
    have := congrArg List.length h
    rw [List.length_take] at this
    omega

set_option maxHeartbeats 2000000 in
theorem pathOrders_spec {s t : List UInt8} (w0 : World) (hk : Knows) (hg : Gl w0) (hs1 : s.length ≤ 9223372036854775807) (ht1 : t.length ≤ 9223372036854775807) : Calls Tryd.prog 7 #[str s, str t] w0 (Ret0 (.bool true) w0) := by
  have hs : Step [] [] w0 w0 := Step.refl w0
  refine calls (n := 49) Tryd.func7 rfl rfl rfl ?_
  repeat (first | refine CW.seq ?_ | refine CW.block ?_ | refine CW.skip ?_ | refine CW.label ?_ | refine CW.exit ?_ | refine CW.condT rfl ?_ | refine CW.condF rfl ?_)
  refine CW.reg ?_
  refine WL.val rfl (run_assign) ?_
  refine WL.nil ?_
  repeat (first | refine CW.seq ?_ | refine CW.block ?_ | refine CW.skip ?_ | refine CW.label ?_ | refine CW.exit ?_ | refine CW.condT rfl ?_ | refine CW.condF rfl ?_)
  refine CW.reg ?_
  refine WL.enter rfl (run_call en11 rfl rfl) (hk _ hg) ?_
  rintro e w ⟨rfl, hq⟩
  refine ⟨_, rfl, ?_⟩
  replace hs := hs.callE hq
  first | refine WL.val rfl (run_notB rfl) ?_ | refine WL.val rfl (run_not rfl) ?_
  refine WL.nil ?_
  by_cases hbig : 16777216 < s.length
  · repeat (first | refine CW.seq ?_ | refine CW.block ?_ | refine CW.skip ?_ | refine CW.label ?_ | refine CW.exit ?_ | refine CW.condT rfl ?_ | refine CW.condF rfl ?_)
    refine CW.reg ?_
    refine WL.val rfl (run_move) ?_
    refine WL.val rfl (run_lenStr Tryd.underlying9 rfl) ?_
    refine WL.val rfl (run_bT (run_gtr rfl rfl) (by omega)) ?_
    refine WL.val rfl (run_move) ?_
    first | refine WL.no rfl rfl rfl (.inl rfl) ?_ | refine WL.no rfl rfl rfl (.inr rfl) ?_
    first | refine WL.no rfl rfl rfl (.inl rfl) ?_ | refine WL.no rfl rfl rfl (.inr rfl) ?_
    first | refine WL.no rfl rfl rfl (.inl rfl) ?_ | refine WL.no rfl rfl rfl (.inr rfl) ?_
    first | refine WL.val rfl (run_pickT rfl) ?_ | refine WL.val rfl (run_pickF rfl) ?_
    refine WL.nil ?_
    repeat (first | refine CW.seq ?_ | refine CW.block ?_ | refine CW.skip ?_ | refine CW.label ?_ | refine CW.exit ?_ | refine CW.condT rfl ?_ | refine CW.condF rfl ?_)
    refine CW.reg ?_
    refine WL.val rfl (run_assign) ?_
    refine WL.nil ?_
    repeat (first | refine CW.seq ?_ | refine CW.block ?_ | refine CW.skip ?_ | refine CW.label ?_ | refine CW.exit ?_ | refine CW.condT rfl ?_ | refine CW.condF rfl ?_)
    refine CW.ret ?_
    refine fin_ret1 rfl ?_
    exact ⟨rfl, hs⟩
  · by_cases hbig2 : 16777216 < t.length
    · repeat (first | refine CW.seq ?_ | refine CW.block ?_ | refine CW.skip ?_ | refine CW.label ?_ | refine CW.exit ?_ | refine CW.condT rfl ?_ | refine CW.condF rfl ?_)
      refine CW.reg ?_
      refine WL.val rfl (run_move) ?_
      refine WL.val rfl (run_lenStr Tryd.underlying9 rfl) ?_
      refine WL.val rfl (run_bF (run_gtr rfl rfl) (by omega)) ?_
      refine WL.val rfl (run_move) ?_
      refine WL.yes rfl rfl rfl ?_
      refine WL.val rfl (run_move) ?_
      refine WL.yes rfl rfl rfl ?_
      refine WL.val rfl (run_lenStr Tryd.underlying9 rfl) ?_
      refine WL.yes rfl rfl rfl ?_
      refine WL.val rfl (run_bT (run_gtr rfl rfl) (by omega)) ?_
      first | refine WL.val rfl (run_pickT rfl) ?_ | refine WL.val rfl (run_pickF rfl) ?_
      refine WL.nil ?_
      repeat (first | refine CW.seq ?_ | refine CW.block ?_ | refine CW.skip ?_ | refine CW.label ?_ | refine CW.exit ?_ | refine CW.condT rfl ?_ | refine CW.condF rfl ?_)
      refine CW.reg ?_
      refine WL.val rfl (run_assign) ?_
      refine WL.nil ?_
      repeat (first | refine CW.seq ?_ | refine CW.block ?_ | refine CW.skip ?_ | refine CW.label ?_ | refine CW.exit ?_ | refine CW.condT rfl ?_ | refine CW.condF rfl ?_)
      refine CW.ret ?_
      refine fin_ret1 rfl ?_
      exact ⟨rfl, hs⟩
    · have hobt : ∃ b, decide (cmpF (partsL s) (partsL t) < 0) = b := ⟨_, rfl⟩
      obtain ⟨b1, hb1⟩ := hobt
      have hobt : ∃ b, decide (cmpF (partsL t) (partsL s) < 0) = b := ⟨_, rfl⟩
      obtain ⟨b2, hb2⟩ := hobt
      have c1 := fun w hg => less_spec (s := s) (t := t) w hg (by omega) (by omega)
      have c2 := fun w => refLess_spec (s := s) (t := t) w (by omega) (by omega)
      have c3 := fun w hg => less_spec (s := t) (t := s) w hg (by omega) (by omega)
      have c4 := fun w => refLess_spec (s := t) (t := s) w (by omega) (by omega)
      simp only [hb1] at c1 c2
      simp only [hb2] at c3 c4
      repeat (first | refine CW.seq ?_ | refine CW.block ?_ | refine CW.skip ?_ | refine CW.label ?_ | refine CW.exit ?_ | refine CW.condT rfl ?_ | refine CW.condF rfl ?_)
      refine CW.reg ?_
      refine WL.val rfl (run_move) ?_
      refine WL.val rfl (run_lenStr Tryd.underlying9 rfl) ?_
      refine WL.val rfl (run_bF (run_gtr rfl rfl) (by omega)) ?_
      refine WL.val rfl (run_move) ?_
      refine WL.yes rfl rfl rfl ?_
      refine WL.val rfl (run_move) ?_
      refine WL.yes rfl rfl rfl ?_
      refine WL.val rfl (run_lenStr Tryd.underlying9 rfl) ?_
      refine WL.yes rfl rfl rfl ?_
      refine WL.val rfl (run_bF (run_gtr rfl rfl) (by omega)) ?_
      first | refine WL.val rfl (run_pickT rfl) ?_ | refine WL.val rfl (run_pickF rfl) ?_
      refine WL.nil ?_
      repeat (first | refine CW.seq ?_ | refine CW.block ?_ | refine CW.skip ?_ | refine CW.label ?_ | refine CW.exit ?_ | refine CW.condT rfl ?_ | refine CW.condF rfl ?_)
      refine CW.reg ?_
      refine WL.val rfl (run_move) ?_
      refine WL.val rfl (run_move) ?_
      refine WL.enter rfl (run_call en24 rfl rfl) (c1 _ (hg.step hs)) ?_
      rintro e w ⟨rfl, hq⟩
      refine ⟨_, rfl, ?_⟩
      replace hs := hs.callE hq
      refine WL.val rfl (run_move) ?_
      refine WL.val rfl (run_move) ?_
      refine WL.enter rfl (run_call en25 rfl rfl) (c2 _) ?_
      rintro e w ⟨rfl, hq⟩
      refine ⟨_, rfl, ?_⟩
      replace hs := hs.callE hq
      refine WL.val rfl (run_bE (run_eqlB Tryd.underlying4 rfl rfl) (show _ = true by simp)) ?_
      refine WL.val rfl (run_move) ?_
      refine WL.yes rfl rfl rfl ?_
      refine WL.val rfl (run_move) ?_
      refine WL.yes rfl rfl rfl ?_
      refine WL.val rfl (run_move) ?_
      refine WL.yes rfl rfl rfl ?_
      refine WL.enter rfl (run_call en24 rfl rfl) (c3 _ (hg.step hs)) ?_
      rintro e w ⟨rfl, hq⟩
      refine ⟨_, rfl, ?_⟩
      replace hs := hs.callE hq
      refine WL.yes rfl rfl rfl ?_
      refine WL.val rfl (run_move) ?_
      refine WL.yes rfl rfl rfl ?_
      refine WL.val rfl (run_move) ?_
      refine WL.yes rfl rfl rfl ?_
      refine WL.enter rfl (run_call en25 rfl rfl) (c4 _) ?_
      rintro e w ⟨rfl, hq⟩
      refine ⟨_, rfl, ?_⟩
      replace hs := hs.callE hq
      refine WL.yes rfl rfl rfl ?_
      refine WL.val rfl (run_bE (run_eqlB Tryd.underlying4 rfl rfl) (show _ = true by simp)) ?_
      first | refine WL.val rfl (run_pickT rfl) ?_ | refine WL.val rfl (run_pickF rfl) ?_
      refine WL.val rfl (run_move) ?_
      refine WL.yes rfl rfl rfl ?_
      refine WL.val rfl (run_move) ?_
      refine WL.yes rfl rfl rfl ?_
      refine WL.val rfl (run_move) ?_
      refine WL.yes rfl rfl rfl ?_
      refine WL.enter rfl (run_call en26 rfl rfl) (under_spec _ (hg.step hs) (by omega) (by omega)) ?_
      rintro e w ⟨rfl, hq⟩
      refine ⟨_, rfl, ?_⟩
      replace hs := hs.callE hq
      refine WL.yes rfl rfl rfl ?_
      refine WL.val rfl (run_move) ?_
      refine WL.yes rfl rfl rfl ?_
      refine WL.val rfl (run_move) ?_
      refine WL.yes rfl rfl rfl ?_
      refine WL.enter rfl (run_call en27 rfl rfl) (refUnder_spec _ (by omega) (by omega)) ?_
      rintro e w ⟨rfl, hq⟩
      refine ⟨_, rfl, ?_⟩
      replace hs := hs.callE hq
      refine WL.yes rfl rfl rfl ?_
      refine WL.val rfl (run_bE (run_eqlB Tryd.underlying4 rfl rfl) (show _ = true by simp)) ?_
      first | refine WL.val rfl (run_pickT rfl) ?_ | refine WL.val rfl (run_pickF rfl) ?_
      refine WL.val rfl (run_move) ?_
      refine WL.yes rfl rfl rfl ?_
      refine WL.val rfl (run_move) ?_
      refine WL.yes rfl rfl rfl ?_
      refine WL.val rfl (run_move) ?_
      refine WL.yes rfl rfl rfl ?_
      refine WL.enter rfl (run_call en26 rfl rfl) (under_spec _ (hg.step hs) (by omega) (by omega)) ?_
      rintro e w ⟨rfl, hq⟩
      refine ⟨_, rfl, ?_⟩
      replace hs := hs.callE hq
      refine WL.yes rfl rfl rfl ?_
      refine WL.val rfl (run_move) ?_
      refine WL.yes rfl rfl rfl ?_
      refine WL.val rfl (run_move) ?_
      refine WL.yes rfl rfl rfl ?_
      refine WL.enter rfl (run_call en27 rfl rfl) (refUnder_spec _ (by omega) (by omega)) ?_
      rintro e w ⟨rfl, hq⟩
      refine ⟨_, rfl, ?_⟩
      replace hs := hs.callE hq
      refine WL.yes rfl rfl rfl ?_
      refine WL.val rfl (run_bE (run_eqlB Tryd.underlying4 rfl rfl) (show _ = true by simp)) ?_
      first | refine WL.val rfl (run_pickT rfl) ?_ | refine WL.val rfl (run_pickF rfl) ?_
      refine WL.val rfl (run_assign) ?_
      refine WL.nil ?_
      repeat (first | refine CW.seq ?_ | refine CW.block ?_ | refine CW.skip ?_ | refine CW.label ?_ | refine CW.exit ?_ | refine CW.condT rfl ?_ | refine CW.condF rfl ?_)
      refine CW.ret ?_
      refine fin_ret1 rfl ?_
      exact ⟨rfl, hs⟩
end Go.Gx
