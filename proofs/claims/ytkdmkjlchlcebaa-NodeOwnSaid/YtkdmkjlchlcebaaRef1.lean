/- The document's side: Front, the forms, Put, Done, Encode. -/
import Derived.Test.YtkdmkjlchlcebaaRef5
namespace Go.Gx
open Go.Proofs
set_option linter.unusedVariables false
set_option linter.unusedSimpArgs false
set_option maxRecDepth 100000

theorem Step.rotA {S : List Nat} {p : Nat × Obj} {A B : List (Nat × Obj)} {w0 w : World} (h : Step S (p :: (A ++ B)) w0 w) : Step S (A ++ (B ++ [p])) w0 w := by
  have := h.rot1
  rwa [List.append_assoc] at this
theorem Step.dropM {S : List Nat} {A B C : List (Nat × Obj)} {w0 w : World} (h : Step S (A ++ (B ++ C)) w0 w) : Step S (A ++ B) w0 w := by
  rw [← List.append_assoc] at h
  exact h.dropR

theorem frontR_spec {l : List UInt8} (w0 : World) (hl : l.length = 32) : Calls Try.prog 42 #[.agg (u8s l).toArray] w0 fun e w' => ∃ v Lv, e = .returned v ∧ OwnSl 5 1 v (frontB l).length (u8s (frontB l)) Lv ∧ Step [] Lv w0 w' := by
  have hs : Step [] [] w0 w0 := Step.refl w0
  refine calls (n := 29) Try.func42 rfl rfl rfl ?_
  repeat (first | refine CW.seq ?_ | refine CW.block ?_ | refine CW.skip ?_ | refine CW.label ?_ | refine CW.exit ?_ | refine CW.condT rfl ?_ | refine CW.condF rfl ?_)
  refine CW.reg ?_
  refine WL.box (cs := u8s l) rfl rfl rfl hs (fun b1 w hs => ?_)
  refine WL.val rfl (run_assign) ?_
  refine WL.nil ?_
  repeat (first | refine CW.seq ?_ | refine CW.block ?_ | refine CW.skip ?_ | refine CW.label ?_ | refine CW.exit ?_ | refine CW.condT rfl ?_ | refine CW.condF rfl ?_)
  refine CW.reg ?_
  refine WL.val rfl (run_assign) ?_
  refine WL.nil ?_
  repeat (first | refine CW.seq ?_ | refine CW.block ?_ | refine CW.skip ?_ | refine CW.label ?_ | refine CW.exit ?_ | refine CW.condT rfl ?_ | refine CW.condF rfl ?_)
  refine CW.reg ?_
  refine WL.val rfl (run_assign) ?_
  refine WL.nil ?_
  repeat (first | refine CW.seq ?_ | refine CW.block ?_ | refine CW.skip ?_ | refine CW.label ?_ | refine CW.exit ?_ | refine CW.condT rfl ?_ | refine CW.condF rfl ?_)
  refine CW.loop (fun m f w' => ∃ i n, i ≤ 32 ∧ m = 32 - i ∧ n ≤ i ∧ (∀ j, n ≤ j → j < i → (h : j < l.length) → l[j] = 0) ∧ (n = 0 ∨ ∃ h : n - 1 < l.length, l[n - 1] ≠ 0) ∧ Step [] [(b1, blk 46 (u8s l))] w0 w' ∧ Holds f [(1, .pointer (some ⟨b1, 0, none⟩)), (3, .int .i64 n), (4, .int .i64 i)]) (m := 32) ?_ ?_
  · exact ⟨0, 0, by omega, by omega, by omega, fun j h1 h2 => by omega, .inl rfl, hs, rfl, rfl, rfl, trivial⟩
  · rintro m f w ⟨i, n, hi, rfl, hn, hz, hne, hs, hf⟩
    have hobt := hf.chain
    obtain ⟨g, rfl⟩ := hobt
    repeat (first | refine CW.seq ?_ | refine CW.block ?_ | refine CW.skip ?_ | refine CW.label ?_ | refine CW.exit ?_ | refine CW.condT rfl ?_ | refine CW.condF rfl ?_)
    refine CW.reg ?_
    refine WL.val rfl (run_move) ?_
    refine WL.val rfl (run_lss rfl rfl) ?_
    refine WL.nil ?_
    repeat (first | refine CW.seq ?_ | refine CW.block ?_ | refine CW.skip ?_ | refine CW.label ?_ | refine CW.exit ?_)
    first | refine CW.condP rfl (fun h => ?_) (fun h => ?_) | refine CW.cond rfl (fun h => ?_) (fun h => ?_)
    · have hlt : i < l.length := by omega
      have hcell : (u8s l)[i]? = some (.int .u8 (l[i]).toNat) := by simp [u8s, List.getElem?_eq_getElem hlt]
      by_cases hc : l[i] = 0
      · repeat (first | refine CW.seq ?_ | refine CW.block ?_ | refine CW.skip ?_ | refine CW.label ?_ | refine CW.exit ?_ | refine CW.condT rfl ?_ | refine CW.condF rfl ?_)
        refine CW.reg ?_
        refine WL.val rfl (run_move) ?_
        first | refine WL.val rfl (run_ixArrN Try.underlying46 ty5 rfl rfl (by omega)) ?_ | refine WL.val rfl (run_ixArr Try.underlying46 ty5 rfl rfl (by omega)) ?_
        refine WL.val rfl (run_load1 ty5 rfl (hs.c0 (by rw [Nat.zero_add, Nat.mul_one]; exact hcell))) ?_
        refine WL.val rfl (run_bF (run_neq rfl rfl) (by rw [hc]; decide)) ?_
        refine WL.nil ?_
        repeat (first | refine CW.seq ?_ | refine CW.block ?_ | refine CW.skip ?_ | refine CW.label ?_ | refine CW.exit ?_ | refine CW.condT rfl ?_ | refine CW.condF rfl ?_)
        refine CW.reg ?_
        refine WL.val rfl (run_move) ?_
        refine WL.val rfl (run_add (c := ((i + 1 : Nat) : Int)) rfl rfl (by omega) (by omega)) ?_
        refine WL.val rfl (run_assign) ?_
        refine WL.nil ?_
        repeat (first | refine CW.seq ?_ | refine CW.block ?_ | refine CW.skip ?_ | refine CW.label ?_ | refine CW.exit ?_)
        refine (show _ ∧ _ from ⟨rfl, _, ?_, i + 1, n, by omega, rfl, by omega, ?_, hne, hs, rfl, rfl, rfl, trivial⟩)
        · omega
        · intro j h1 h2 h3
          by_cases hj : j = i
          · subst hj; exact hc
          · exact hz j h1 (by omega) h3
      · have hc' : ¬ ((l[i].toNat : Int) = 0) := fun h => hc (UInt8.toNat_inj.1 (by simpa using h))
        repeat (first | refine CW.seq ?_ | refine CW.block ?_ | refine CW.skip ?_ | refine CW.label ?_ | refine CW.exit ?_ | refine CW.condT rfl ?_ | refine CW.condF rfl ?_)
        refine CW.reg ?_
        refine WL.val rfl (run_move) ?_
        first | refine WL.val rfl (run_ixArrN Try.underlying46 ty5 rfl rfl (by omega)) ?_ | refine WL.val rfl (run_ixArr Try.underlying46 ty5 rfl rfl (by omega)) ?_
        refine WL.val rfl (run_load1 ty5 rfl (hs.c0 (by rw [Nat.zero_add, Nat.mul_one]; exact hcell))) ?_
        refine WL.val rfl (run_bT (run_neq rfl rfl) (by exact hc')) ?_
        refine WL.nil ?_
        repeat (first | refine CW.seq ?_ | refine CW.block ?_ | refine CW.skip ?_ | refine CW.label ?_ | refine CW.exit ?_ | refine CW.condT rfl ?_ | refine CW.condF rfl ?_)
        refine CW.reg ?_
        refine WL.val rfl (run_move) ?_
        refine WL.val rfl (run_add (c := ((i + 1 : Nat) : Int)) rfl rfl (by omega) (by omega)) ?_
        refine WL.val rfl (run_assign) ?_
        refine WL.nil ?_
        repeat (first | refine CW.seq ?_ | refine CW.block ?_ | refine CW.skip ?_ | refine CW.label ?_ | refine CW.exit ?_ | refine CW.condT rfl ?_ | refine CW.condF rfl ?_)
        refine CW.reg ?_
        refine WL.val rfl (run_move) ?_
        refine WL.val rfl (run_add (c := ((i + 1 : Nat) : Int)) rfl rfl (by omega) (by omega)) ?_
        refine WL.val rfl (run_assign) ?_
        refine WL.nil ?_
        repeat (first | refine CW.seq ?_ | refine CW.block ?_ | refine CW.skip ?_ | refine CW.label ?_ | refine CW.exit ?_)
        refine (show _ ∧ _ from ⟨rfl, _, ?_, i + 1, i + 1, by omega, rfl, by omega, ?_, .inr ⟨hlt, hc⟩, hs, rfl, rfl, rfl, trivial⟩)
        · omega
        · intro j h1 h2 h3
          omega
    · obtain rfl : i = 32 := by omega
      have e := frontB_of (l := l) (n := n) (by omega) (fun j h1 h2 => hz j h1 (by omega) h2) hne
      repeat (first | refine CW.seq ?_ | refine CW.block ?_ | refine CW.skip ?_ | refine CW.label ?_ | refine CW.exit ?_ | refine CW.condT rfl ?_ | refine CW.condF rfl ?_)
      refine CW.reg ?_
      refine WL.val rfl (run_assign) ?_
      refine WL.nil ?_
      repeat (first | refine CW.seq ?_ | refine CW.block ?_ | refine CW.skip ?_ | refine CW.label ?_ | refine CW.exit ?_ | refine CW.condT rfl ?_ | refine CW.condF rfl ?_)
      refine CW.reg ?_
      refine WL.val rfl (run_assign) ?_
      refine WL.nil ?_
      repeat (first | refine CW.seq ?_ | refine CW.block ?_ | refine CW.skip ?_ | refine CW.label ?_ | refine CW.exit ?_ | refine CW.condT rfl ?_ | refine CW.condF rfl ?_)
      refine CW.loop (fun m f w' => ∃ i v Lv, i ≤ n ∧ m = n - i ∧ OwnSl 5 1 v i (u8s (l.take i)) Lv ∧ Step [] (Lv ++ [(b1, blk 46 (u8s l))]) w0 w' ∧ Holds f [(1, .pointer (some ⟨b1, 0, none⟩)), (3, .int .i64 n), (5, v), (6, .int .i64 i)]) (m := n) ?_ ?_
      · exact ⟨0, _, [], by omega, by omega, .nil _ _, hs, rfl, rfl, rfl, rfl, trivial⟩
      · rintro m f w ⟨i, v, Lv, hi, rfl, hv, hs, hf⟩
        have hobt := hf.chain
        obtain ⟨g, rfl⟩ := hobt
        repeat (first | refine CW.seq ?_ | refine CW.block ?_ | refine CW.skip ?_ | refine CW.label ?_ | refine CW.exit ?_ | refine CW.condT rfl ?_ | refine CW.condF rfl ?_)
        refine CW.reg ?_
        refine WL.val rfl (run_move) ?_
        refine WL.val rfl (run_move) ?_
        refine WL.val rfl (run_lss rfl rfl) ?_
        refine WL.nil ?_
        repeat (first | refine CW.seq ?_ | refine CW.block ?_ | refine CW.skip ?_ | refine CW.label ?_ | refine CW.exit ?_)
        first | refine CW.condP rfl (fun h => ?_) (fun h => ?_) | refine CW.cond rfl (fun h => ?_) (fun h => ?_)
        · have hlt : i < l.length := by omega
          have hcell : (u8s l)[i]? = some (.int .u8 (l[i]).toNat) := by simp [u8s, List.getElem?_eq_getElem hlt]
          repeat (first | refine CW.seq ?_ | refine CW.block ?_ | refine CW.skip ?_ | refine CW.label ?_ | refine CW.exit ?_ | refine CW.condT rfl ?_ | refine CW.condF rfl ?_)
          refine CW.reg ?_
          refine WL.val rfl (run_move) ?_
          refine WL.val rfl (run_move) ?_
          first | refine WL.val rfl (run_ixArrN Try.underlying46 ty5 rfl rfl (by omega)) ?_ | refine WL.val rfl (run_ixArr Try.underlying46 ty5 rfl rfl (by omega)) ?_
          refine WL.val rfl (run_load1 ty5 rfl (hs.append_comm.c0 (by rw [Nat.zero_add, Nat.mul_one]; exact hcell))) ?_
          refine WL.buildSlice Try.underlying29 ty5 rfl (by decide) rfl (by rfl) rfl hs (fun b26 w hs => ?_)
          refine WL.append Try.underlying29 Try.underlying29 ty5 rfl (by decide) rfl rfl (hv) (hs.rotA) (.own1 hs rfl) (Cells1.u8s [l[i]]) (by first | omega | (simp only [List.length_append, List.length_cons, List.length_nil]; omega)) rfl (fun v27 Lv27 w hv27 hs => ?_)
          refine WL.val rfl (run_assign) ?_
          refine WL.nil ?_
          repeat (first | refine CW.seq ?_ | refine CW.block ?_ | refine CW.skip ?_ | refine CW.label ?_ | refine CW.exit ?_ | refine CW.condT rfl ?_ | refine CW.condF rfl ?_)
          refine CW.reg ?_
          refine WL.val rfl (run_move) ?_
          refine WL.val rfl (run_add (c := ((i + 1 : Nat) : Int)) rfl rfl (by omega) (by omega)) ?_
          refine WL.val rfl (run_assign) ?_
          refine WL.nil ?_
          repeat (first | refine CW.seq ?_ | refine CW.block ?_ | refine CW.skip ?_ | refine CW.label ?_ | refine CW.exit ?_)
          refine (show _ ∧ _ from ⟨rfl, _, ?_, i + 1, _, _, by omega, rfl, ?_, hs.dropM, rfl, rfl, rfl, rfl, trivial⟩)
          · omega
          · rw [List.take_succ_eq_append_getElem hlt, u8s_append]
            exact hv27
        · obtain rfl : i = n := by omega
          repeat (first | refine CW.seq ?_ | refine CW.block ?_ | refine CW.skip ?_ | refine CW.label ?_ | refine CW.exit ?_ | refine CW.condT rfl ?_ | refine CW.condF rfl ?_)
          refine CW.reg ?_
          refine WL.val rfl (run_move) ?_
          refine WL.val rfl (run_assign) ?_
          refine WL.nil ?_
          repeat (first | refine CW.seq ?_ | refine CW.block ?_ | refine CW.skip ?_ | refine CW.label ?_ | refine CW.exit ?_ | refine CW.condT rfl ?_ | refine CW.condF rfl ?_)
          refine CW.ret ?_
          refine fin_ret1 rfl ?_
          refine ⟨_, _, rfl, ?_, hs.dropR⟩
          rw [e, List.length_take, Nat.min_eq_left (by omega)]
          exact hv

theorem formR_big {u : Nat} (h : ¬ u < 248) : 1 ≤ nbF u 8 := by
  have h0 : u / 256 ^ 0 ≠ 0 := by simp; omega
  have : ∀ m, 1 ≤ nbF u (m + 1) := by
    intro m
    induction m with
    | zero => unfold nbF; rw [if_neg h0]; omega
    | succ m ih =>
      unfold nbF
      split
      · exact ih
      · omega
  exact this 7

/-- Where the bytes from the top on begin. -/
theorem formR_spec (u : Nat) (w0 : World) (hu : u < 18446744073709551616) : Calls Try.prog 82 #[.int .u64 u] w0 fun e w' => ∃ v Lv, e = .returned v ∧ OwnSl 5 1 v (formB u).length (u8s (formB u)) Lv ∧ Step [] Lv w0 w' := by
  have hs : Step [] [] w0 w0 := Step.refl w0
  by_cases hsm : u < 248
  · have e : formB u = [UInt8.ofNat u] := by simp [formB, hsm]
    rw [e]
    refine calls (n := 40) Try.func82 rfl rfl rfl ?_
    repeat (first | refine CW.seq ?_ | refine CW.block ?_ | refine CW.skip ?_ | refine CW.label ?_ | refine CW.exit ?_ | refine CW.condT rfl ?_ | refine CW.condF rfl ?_)
    refine CW.reg ?_
    refine WL.val rfl (run_assign) ?_
    refine WL.nil ?_
    repeat (first | refine CW.seq ?_ | refine CW.block ?_ | refine CW.skip ?_ | refine CW.label ?_ | refine CW.exit ?_ | refine CW.condT rfl ?_ | refine CW.condF rfl ?_)
    refine CW.reg ?_
    refine WL.val rfl (run_move) ?_
    refine WL.val rfl (run_bT (run_leq rfl rfl) (by omega)) ?_
    refine WL.nil ?_
    repeat (first | refine CW.seq ?_ | refine CW.block ?_ | refine CW.skip ?_ | refine CW.label ?_ | refine CW.exit ?_ | refine CW.condT rfl ?_ | refine CW.condF rfl ?_)
    refine CW.reg ?_
    refine WL.val rfl (run_move) ?_
    first | refine WL.val rfl (run_convU8 Try.underlying101 Try.underlying5 rfl) ?_ | refine WL.val rfl (run_convInt Try.underlying101 Try.underlying5 rfl) ?_
    refine WL.buildSlice Try.underlying29 ty5 rfl (by decide) rfl (by rfl) rfl hs (fun b11 w hs => ?_)
    refine WL.val rfl (run_assign) ?_
    refine WL.nil ?_
    repeat (first | refine CW.seq ?_ | refine CW.block ?_ | refine CW.skip ?_ | refine CW.label ?_ | refine CW.exit ?_ | refine CW.condT rfl ?_ | refine CW.condF rfl ?_)
    refine CW.ret ?_
    refine fin_ret1 rfl ?_
    exact ⟨_, _, rfl, .mk rfl, hs⟩
  · have hbig := formR_big hsm
    have hle := nbF_le u 8
    have e : formB u = UInt8.ofNat (247 + nbF u 8) :: be u (nbF u 8) := by simp [formB, hsm]
    refine calls (n := 40) Try.func82 rfl rfl rfl ?_
    repeat (first | refine CW.seq ?_ | refine CW.block ?_ | refine CW.skip ?_ | refine CW.label ?_ | refine CW.exit ?_ | refine CW.condT rfl ?_ | refine CW.condF rfl ?_)
    refine CW.reg ?_
    refine WL.val rfl (run_assign) ?_
    refine WL.nil ?_
    repeat (first | refine CW.seq ?_ | refine CW.block ?_ | refine CW.skip ?_ | refine CW.label ?_ | refine CW.exit ?_ | refine CW.condT rfl ?_ | refine CW.condF rfl ?_)
    refine CW.reg ?_
    refine WL.val rfl (run_move) ?_
    refine WL.val rfl (run_bF (run_leq rfl rfl) (by omega)) ?_
    refine WL.nil ?_
    repeat (first | refine CW.seq ?_ | refine CW.block ?_ | refine CW.skip ?_ | refine CW.label ?_ | refine CW.exit ?_ | refine CW.condT rfl ?_ | refine CW.condF rfl ?_)
    refine CW.reg ?_
    refine WL.val rfl (run_assign) ?_
    refine WL.nil ?_
    repeat (first | refine CW.seq ?_ | refine CW.block ?_ | refine CW.skip ?_ | refine CW.label ?_ | refine CW.exit ?_ | refine CW.condT rfl ?_ | refine CW.condF rfl ?_)
    refine CW.reg ?_
    refine WL.val rfl (run_assign) ?_
    refine WL.nil ?_
    repeat (first | refine CW.seq ?_ | refine CW.block ?_ | refine CW.skip ?_ | refine CW.label ?_ | refine CW.exit ?_ | refine CW.condT rfl ?_ | refine CW.condF rfl ?_)
    refine CW.loop (fun k f w' => ∃ j c v Lv, j = k ∧ j ≤ 8 ∧ (c = [] ∧ nbF u 8 = nbF u j ∧ u / 256 ^ j = 0 ∨ c ≠ [] ∧ c ++ be u j = be u (nbF u 8)) ∧ c.length ≤ 8 - j ∧ OwnSl 5 1 v c.length (u8s c) Lv ∧ Step [] Lv w0 w' ∧ Holds f [(0, .int .u64 u), (3, v), (4, .int .i64 ((j : Int) - 1))]) (m := 8) ?_ ?_
    · exact ⟨8, [], _, [], rfl, by omega, .inl ⟨rfl, rfl, Nat.div_eq_of_lt hu⟩, by simp, .nil _ _, hs, rfl, rfl, rfl, trivial⟩
    · rintro k f w ⟨j, c, v, Lv, rfl, hj, hc, hcl, hv, hs, hf⟩
      have hobt := hf.chain
      obtain ⟨g, rfl⟩ := hobt
      have hobt := hv.form
      obtain ⟨va, vc, rfl⟩ := hobt
      repeat (first | refine CW.seq ?_ | refine CW.block ?_ | refine CW.skip ?_ | refine CW.label ?_ | refine CW.exit ?_ | refine CW.condT rfl ?_ | refine CW.condF rfl ?_)
      refine CW.reg ?_
      refine WL.val rfl (run_move) ?_
      refine WL.val rfl (run_geq rfl rfl) ?_
      refine WL.nil ?_
      repeat (first | refine CW.seq ?_ | refine CW.block ?_ | refine CW.skip ?_ | refine CW.label ?_ | refine CW.exit ?_)
      first | refine CW.condP rfl (fun h => ?_) (fun h => ?_) | refine CW.cond rfl (fun h => ?_) (fun h => ?_)
      · have hobt : ∃ q, j = q + 1 := ⟨j - 1, by omega⟩
        obtain ⟨q, rfl⟩ := hobt
        repeat (first | refine CW.seq ?_ | refine CW.block ?_ | refine CW.skip ?_ | refine CW.label ?_ | refine CW.exit ?_ | refine CW.condT rfl ?_ | refine CW.condF rfl ?_)
        refine CW.reg ?_
        refine WL.val rfl (run_move) ?_
        refine WL.val rfl (run_move) ?_
        refine WL.val rfl (run_mul (c := ((8 * q : Nat) : Int)) rfl rfl (by omega) (by omega)) ?_
        first | refine WL.val rfl (run_shrN rfl rfl (by first | decide | (simp only [IntKind.bits]; omega))) ?_ | refine WL.val rfl (run_shr rfl rfl (by omega)) ?_
        first | refine WL.val rfl (run_convU8 Try.underlying101 Try.underlying5 rfl) ?_ | refine WL.val rfl (run_convInt Try.underlying101 Try.underlying5 rfl) ?_
        refine WL.val rfl (run_assign) ?_
        refine WL.nil ?_
        have hst : ∀ w, Step [] Lv w0 w → Step [] (Lv ++ []) w0 w := fun w h => by rwa [List.append_nil]
        rcases hc with ⟨hc0, hn, hd⟩ | ⟨hne, hc⟩
        · have hlt : u / 256 ^ q < 256 := by
            rw [Nat.pow_succ, ← Nat.div_div_eq_div_mul] at hd
            omega
          have hby : (UInt8.ofNat (u / 256 ^ q)).toNat = u / 256 ^ q := UInt8.toNat_ofNat_of_lt' hlt
          by_cases hz : u / 256 ^ q = 0
          · repeat (first | refine CW.seq ?_ | refine CW.block ?_ | refine CW.skip ?_ | refine CW.label ?_ | refine CW.exit ?_ | refine CW.condT rfl ?_ | refine CW.condF rfl ?_)
            refine CW.reg ?_
            refine WL.val rfl (run_move) ?_
            refine WL.val rfl (run_lenSl Try.underlying29 rfl) ?_
            refine WL.val rfl (run_bF (run_gtr rfl rfl) (by simp [hc0])) ?_
            refine WL.val rfl (run_move) ?_
            refine WL.yes rfl rfl rfl ?_
            refine WL.val rfl (run_move) ?_
            refine WL.yes rfl rfl rfl ?_
            refine WL.val rfl (run_bF (run_neq rfl rfl) (by rw [hz]; decide)) ?_
            first | refine WL.val rfl (run_pickT rfl) ?_ | refine WL.val rfl (run_pickF rfl) ?_
            refine WL.nil ?_
            repeat (first | refine CW.seq ?_ | refine CW.block ?_ | refine CW.skip ?_ | refine CW.label ?_ | refine CW.exit ?_ | refine CW.condT rfl ?_ | refine CW.condF rfl ?_)
            refine CW.reg ?_
            refine WL.val rfl (run_move) ?_
            refine WL.val rfl (run_sub (c := ((q : Int) - 1)) rfl rfl (by omega) (by omega)) ?_
            refine WL.val rfl (run_assign) ?_
            refine WL.nil ?_
            repeat (first | refine CW.seq ?_ | refine CW.block ?_ | refine CW.skip ?_ | refine CW.label ?_ | refine CW.exit ?_)
            refine (show _ ∧ _ from ⟨rfl, _, ?_, q, c, _, _, rfl, by omega, .inl ⟨hc0, ?_, hz⟩, by simp [hc0], hv, hs, rfl, rfl, rfl, trivial⟩)
            · omega
            · rw [hn]
              conv => lhs; unfold nbF
              rw [if_pos hz]
          · repeat (first | refine CW.seq ?_ | refine CW.block ?_ | refine CW.skip ?_ | refine CW.label ?_ | refine CW.exit ?_ | refine CW.condT rfl ?_ | refine CW.condF rfl ?_)
            refine CW.reg ?_
            refine WL.val rfl (run_move) ?_
            refine WL.val rfl (run_lenSl Try.underlying29 rfl) ?_
            refine WL.val rfl (run_bF (run_gtr rfl rfl) (by simp [hc0])) ?_
            refine WL.val rfl (run_move) ?_
            refine WL.yes rfl rfl rfl ?_
            refine WL.val rfl (run_move) ?_
            refine WL.yes rfl rfl rfl ?_
            refine WL.val rfl (run_bT (run_neq rfl rfl) (by omega)) ?_
            first | refine WL.val rfl (run_pickT rfl) ?_ | refine WL.val rfl (run_pickF rfl) ?_
            refine WL.nil ?_
            repeat (first | refine CW.seq ?_ | refine CW.block ?_ | refine CW.skip ?_ | refine CW.label ?_ | refine CW.exit ?_ | refine CW.condT rfl ?_ | refine CW.condF rfl ?_)
            refine CW.reg ?_
            refine WL.val rfl (run_move) ?_
            refine WL.val rfl (run_move) ?_
            refine WL.buildSlice Try.underlying29 ty5 rfl (by decide) rfl (by rfl) rfl hs (fun b30 w hs => ?_)
            refine WL.append Try.underlying29 Try.underlying29 ty5 rfl (by decide) rfl rfl (hv) (hs.rot1) (.own1 hs rfl) (Cells1.u8s [UInt8.ofNat (u / 256 ^ q)]) (by first | omega | (simp only [List.length_append, List.length_cons, List.length_nil]; omega)) rfl (fun v31 Lv31 w hv31 hs => ?_)
            refine WL.val rfl (run_assign) ?_
            refine WL.nil ?_
            repeat (first | refine CW.seq ?_ | refine CW.block ?_ | refine CW.skip ?_ | refine CW.label ?_ | refine CW.exit ?_ | refine CW.condT rfl ?_ | refine CW.condF rfl ?_)
            refine CW.reg ?_
            refine WL.val rfl (run_move) ?_
            refine WL.val rfl (run_sub (c := ((q : Int) - 1)) rfl rfl (by omega) (by omega)) ?_
            refine WL.val rfl (run_assign) ?_
            refine WL.nil ?_
            repeat (first | refine CW.seq ?_ | refine CW.block ?_ | refine CW.skip ?_ | refine CW.label ?_ | refine CW.exit ?_)
            refine (show _ ∧ _ from ⟨rfl, _, ?_, q, c ++ [UInt8.ofNat (u / 256 ^ q)], _, _, rfl, by omega, .inr ⟨by simp, ?_⟩, ?_, ?_, hs.dropR, rfl, rfl, rfl, trivial⟩)
            · omega
            · have : nbF u (q + 1) = q + 1 := by unfold nbF; rw [if_neg hz]
              rw [hn, this, hc0]
              rfl
            · simp; omega
            · rw [u8s_append, List.length_append]; exact hv31
        · repeat (first | refine CW.seq ?_ | refine CW.block ?_ | refine CW.skip ?_ | refine CW.label ?_ | refine CW.exit ?_ | refine CW.condT rfl ?_ | refine CW.condF rfl ?_)
          refine CW.reg ?_
          refine WL.val rfl (run_move) ?_
          refine WL.val rfl (run_lenSl Try.underlying29 rfl) ?_
          refine WL.val rfl (run_bT (run_gtr rfl rfl) (by have := List.length_pos_iff.2 hne; omega)) ?_
          refine WL.val rfl (run_move) ?_
          first | refine WL.no rfl rfl rfl (.inl rfl) ?_ | refine WL.no rfl rfl rfl (.inr rfl) ?_
          first | refine WL.no rfl rfl rfl (.inl rfl) ?_ | refine WL.no rfl rfl rfl (.inr rfl) ?_
          first | refine WL.val rfl (run_pickT rfl) ?_ | refine WL.val rfl (run_pickF rfl) ?_
          refine WL.nil ?_
          repeat (first | refine CW.seq ?_ | refine CW.block ?_ | refine CW.skip ?_ | refine CW.label ?_ | refine CW.exit ?_ | refine CW.condT rfl ?_ | refine CW.condF rfl ?_)
          refine CW.reg ?_
          refine WL.val rfl (run_move) ?_
          refine WL.val rfl (run_move) ?_
          refine WL.buildSlice Try.underlying29 ty5 rfl (by decide) rfl (by rfl) rfl hs (fun b30 w hs => ?_)
          refine WL.append Try.underlying29 Try.underlying29 ty5 rfl (by decide) rfl rfl (hv) (hs.rot1) (.own1 hs rfl) (Cells1.u8s [UInt8.ofNat (u / 256 ^ q)]) (by first | omega | (simp only [List.length_append, List.length_cons, List.length_nil]; omega)) rfl (fun v31 Lv31 w hv31 hs => ?_)
          refine WL.val rfl (run_assign) ?_
          refine WL.nil ?_
          repeat (first | refine CW.seq ?_ | refine CW.block ?_ | refine CW.skip ?_ | refine CW.label ?_ | refine CW.exit ?_ | refine CW.condT rfl ?_ | refine CW.condF rfl ?_)
          refine CW.reg ?_
          refine WL.val rfl (run_move) ?_
          refine WL.val rfl (run_sub (c := ((q : Int) - 1)) rfl rfl (by omega) (by omega)) ?_
          refine WL.val rfl (run_assign) ?_
          refine WL.nil ?_
          repeat (first | refine CW.seq ?_ | refine CW.block ?_ | refine CW.skip ?_ | refine CW.label ?_ | refine CW.exit ?_)
          refine (show _ ∧ _ from ⟨rfl, _, ?_, q, c ++ [UInt8.ofNat (u / 256 ^ q)], _, _, rfl, by omega, .inr ⟨by simp, ?_⟩, ?_, ?_, hs.dropR, rfl, rfl, rfl, trivial⟩)
          · omega
          · rw [← hc]; simp [be]
          · simp; omega
          · rw [u8s_append, List.length_append]; exact hv31
      · obtain rfl : j = 0 := by omega
        rcases hc with ⟨rfl, hn, _⟩ | ⟨hne, hc⟩
        · rw [hn] at hbig
          simp [nbF] at hbig
        · obtain rfl : c = be u (nbF u 8) := by simpa [be] using hc
          rw [be_len] at *
          repeat (first | refine CW.seq ?_ | refine CW.block ?_ | refine CW.skip ?_ | refine CW.label ?_ | refine CW.exit ?_ | refine CW.condT rfl ?_ | refine CW.condF rfl ?_)
          refine CW.reg ?_
          refine WL.val rfl (run_move) ?_
          refine WL.val rfl (run_lenSl Try.underlying29 rfl) ?_
          refine WL.val rfl (run_add (c := ((247 + nbF u 8 : Nat) : Int)) rfl rfl (by omega) (by omega)) ?_
          first | refine WL.val rfl (run_convU8 Try.underlying3 Try.underlying5 rfl) ?_ | refine WL.val rfl (run_convInt Try.underlying3 Try.underlying5 rfl) ?_
          refine WL.buildSlice Try.underlying29 ty5 rfl (by decide) rfl (by rfl) rfl hs (fun b36 w hs => ?_)
          refine WL.val rfl (run_assign) ?_
          refine WL.nil ?_
          repeat (first | refine CW.seq ?_ | refine CW.block ?_ | refine CW.skip ?_ | refine CW.label ?_ | refine CW.exit ?_ | refine CW.condT rfl ?_ | refine CW.condF rfl ?_)
          refine CW.reg ?_
          refine WL.val rfl (run_move) ?_
          refine WL.val rfl (run_move) ?_
          refine WL.append Try.underlying29 Try.underlying29 ty5 rfl (by decide) rfl rfl (.mk (xs := u8s [UInt8.ofNat (247 + nbF u 8)]) rfl) (hs) (hv.sl hs.rot1) (Cells1.u8s _) (by first | omega | (simp only [List.length_append, List.length_cons, List.length_nil]; omega)) rfl (fun v39 Lv39 w hv39 hs => ?_)
          refine WL.val rfl (run_assign) ?_
          refine WL.nil ?_
          repeat (first | refine CW.seq ?_ | refine CW.block ?_ | refine CW.skip ?_ | refine CW.label ?_ | refine CW.exit ?_ | refine CW.condT rfl ?_ | refine CW.condF rfl ?_)
          refine CW.ret ?_
          refine fin_ret1 rfl ?_
          rw [e]
          refine ⟨_, _, rfl, ?_, hs.dropR⟩
          show OwnSl 5 1 v39 (UInt8.ofNat (247 + nbF u 8) :: be u (nbF u 8)).length _ _
          rw [List.length_cons, be_len, Nat.add_comm (nbF u 8) 1]
          exact hv39
end Go.Gx
