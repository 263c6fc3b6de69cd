/- mint's Writer. -/
import Derived.Test.YtkdmkjlchlcebaaMSpec
import Derived.Test.YtkdmkjlchlcebaaTab
namespace Go.Gx
open Go.Proofs
set_option linter.unusedVariables false
set_option linter.unusedSimpArgs false
set_option maxRecDepth 100000

theorem form_spec (u : Nat) (w0 : World) (hu : u < 18446744073709551616) : Calls Try.prog 65 #[.int .u64 u] w0 fun e w' => ∃ v Lv, e = .returned v ∧ OwnSl 5 1 v (formB u).length (u8s (formB u)) Lv ∧ Step [] Lv w0 w' := by
  have hs : Step [] [] w0 w0 := Step.refl w0
  by_cases hsm : u < 248
  · have e : formB u = [UInt8.ofNat u] := by simp [formB, hsm]
    rw [e]
    refine calls (n := 38) Try.func65 rfl rfl rfl ?_
    refine CW.seq ?_
    refine CW.reg ?_
    refine WL.val rfl (run_assign) ?_
    refine WL.nil ?_
    refine CW.seq <| CW.seq ?_
    refine CW.reg ?_
    refine WL.val rfl (run_move) ?_
    refine WL.val rfl (run_bT (run_lss rfl rfl) (by omega)) ?_
    refine WL.nil ?_
    repeat (first | refine CW.seq ?_ | refine CW.condT rfl ?_)
    refine CW.reg ?_
    refine WL.val rfl (run_move) ?_
    refine WL.val rfl (run_convU8 Try.underlying101 Try.underlying5 rfl) ?_
    refine WL.buildSlice Try.underlying29 ty5 rfl (by decide) rfl (by rfl) rfl hs (fun b10 w hs => ?_)
    refine WL.val rfl (run_assign) ?_
    refine WL.nil ?_
    refine CW.ret ?_
    refine fin_ret1 rfl ?_
    exact ⟨_, _, rfl, .mk rfl, hs⟩
  · refine calls (n := 38) Try.func65 rfl rfl rfl ?_
    refine CW.seq ?_
    refine CW.reg ?_
    refine WL.val rfl (run_assign) ?_
    refine WL.nil ?_
    refine CW.seq <| CW.seq ?_
    refine CW.reg ?_
    refine WL.val rfl (run_move) ?_
    refine WL.val rfl (run_bF (run_lss rfl rfl) (by omega)) ?_
    refine WL.nil ?_
    repeat (first | refine CW.seq ?_ | refine CW.skip ?_ | refine CW.condF rfl ?_)
    refine CW.reg ?_
    refine WL.val rfl (run_assign) ?_
    refine WL.nil ?_
    repeat (first | refine CW.seq ?_ | refine CW.block ?_)
    refine CW.loop (fun k f w' => ∃ m, 1 ≤ m ∧ m ≤ 8 ∧ m = k ∧ u / 256 ^ m = 0 ∧ nbF u 8 = nbF u m ∧ Step [] [] w0 w' ∧ Holds f [(0, .int .u64 u), (3, .int .i64 m)]) (m := 8) ?_ ?_
    · exact ⟨8, by omega, by omega, rfl, Nat.div_eq_of_lt hu, rfl, hs, rfl, rfl, trivial⟩
    · rintro k f w ⟨m, hm1, hm8, rfl, hz, hn, hs, hf⟩
      have hobt := hf.chain
      obtain ⟨g, rfl⟩ := hobt
      refine CW.seq <| CW.seq ?_
      refine CW.reg ?_
      refine WL.val rfl (run_move) ?_
      refine WL.val rfl (run_move) ?_
      refine WL.val rfl (run_sub (c := ((m - 1 : Nat) : Int)) rfl rfl (by omega) (by omega)) ?_
      refine WL.val rfl (run_mul (c := ((8 * (m - 1) : Nat) : Int)) rfl rfl (by omega) (by omega)) ?_
      refine WL.val rfl (run_shrN rfl rfl (by first | decide | (simp only [IntKind.bits]; omega))) ?_
      refine WL.val rfl (run_eql rfl rfl) ?_
      refine WL.nil ?_
      refine CW.condP rfl (fun h => ?_) (fun h => ?_)
      · have h' : u / 256 ^ (m - 1) = 0 := by omega
        have hm2 : 2 ≤ m := by
          rcases Nat.lt_or_ge m 2 with h2 | h2
          · obtain rfl : m = 1 := by omega
            simp at h'
            omega
          · exact h2
        repeat (first | refine CW.block ?_ | refine CW.skip ?_)
        refine CW.reg ?_
        refine WL.val rfl (run_move) ?_
        refine WL.val rfl (run_sub (c := ((m - 1 : Nat) : Int)) rfl rfl (by omega) (by omega)) ?_
        refine WL.val rfl (run_assign) ?_
        refine WL.nil ?_
        refine (show _ ∧ _ from ⟨rfl, _, ?_, m - 1, by omega, by omega, rfl, h', ?_, hs, rfl, rfl, trivial⟩)
        · omega
        · rw [hn]
          have hobt : ∃ q, m = q + 1 := ⟨m - 1, by omega⟩
          obtain ⟨q, rfl⟩ := hobt
          have h2 : u / 256 ^ q = 0 := h'
          conv => lhs; unfold nbF
          rw [if_pos h2]
          rfl
      · have hk : nbF u 8 = m := by
          rw [hn]
          have hobt : ∃ q, m = q + 1 := ⟨m - 1, by omega⟩
          obtain ⟨q, rfl⟩ := hobt
          unfold nbF
          rw [if_neg]
          intro h2
          exact h (by rw [show q + 1 - 1 = q from rfl, h2]; rfl)
        have e : formB u = UInt8.ofNat (247 + m) :: be u m := by simp [formB, hsm, hk]
        rw [e]
        clear h hz hn
        repeat (first | refine CW.seq ?_ | refine CW.exit ?_)
        refine CW.reg ?_
        refine WL.val rfl (run_move) ?_
        refine WL.val rfl (run_add (c := ((247 + m : Nat) : Int)) rfl rfl (by omega) (by omega)) ?_
        refine WL.val rfl (run_convU8 Try.underlying3 Try.underlying5 rfl) ?_
        refine WL.buildSlice Try.underlying29 ty5 rfl (by decide) rfl (by rfl) rfl hs (fun b22 w hs => ?_)
        refine WL.val rfl (run_assign) ?_
        refine WL.nil ?_
        refine CW.seq <| CW.seq ?_
        refine CW.reg ?_
        refine WL.val rfl (run_move) ?_
        refine WL.val rfl (run_sub (c := ((m : Int) - 1)) rfl rfl (by omega) (by omega)) ?_
        refine WL.val rfl (run_assign) ?_
        refine WL.nil ?_
        refine CW.block ?_
        refine CW.loop (fun k f w' => ∃ j c v Lv, j = k ∧ j ≤ m ∧ c ++ be u j = UInt8.ofNat (247 + m) :: be u m ∧ OwnSl 5 1 v c.length (u8s c) Lv ∧ Step [] Lv w0 w' ∧ Holds f [(0, .int .u64 u), (4, v), (5, .int .i64 ((j : Int) - 1))]) (m := m) ?_ ?_
        · exact ⟨m, [UInt8.ofNat (247 + m)], _, _, rfl, Nat.le_refl _, rfl, .mk rfl, hs, rfl, rfl, rfl, trivial⟩
        · rintro k f w ⟨j, c, v, Lv, rfl, hj, hc, hv, hs, hf⟩
          have hobt := hf.chain
          obtain ⟨g, rfl⟩ := hobt
          have hcl : c.length ≤ 9 := by
            have := congrArg List.length hc
            simp only [List.length_append, be_len, List.length_cons] at this
            omega
          refine CW.seq <| CW.seq ?_
          refine CW.reg ?_
          refine WL.val rfl (run_move) ?_
          refine WL.val rfl (run_geq rfl rfl) ?_
          refine WL.nil ?_
          refine CW.condP rfl (fun h => ?_) (fun h => ?_)
          · have hobt : ∃ q, j = q + 1 := ⟨j - 1, by omega⟩
            obtain ⟨q, rfl⟩ := hobt
            repeat (first | refine CW.seq ?_ | refine CW.block ?_ | refine CW.skip ?_)
            refine CW.reg ?_
            refine WL.val rfl (run_move) ?_
            refine WL.val rfl (run_move) ?_
            refine WL.val rfl (run_move) ?_
            refine WL.val rfl (run_mul (c := ((8 * q : Nat) : Int)) rfl rfl (by omega) (by omega)) ?_
            refine WL.val rfl (run_shrN rfl rfl (by first | decide | (simp only [IntKind.bits]; omega))) ?_
            refine WL.val rfl (run_convU8 Try.underlying101 Try.underlying5 rfl) ?_
            refine WL.buildSlice Try.underlying29 ty5 rfl (by decide) rfl (by rfl) rfl hs (fun b35 w hs => ?_)
            refine WL.append Try.underlying29 Try.underlying29 ty5 rfl (by decide) rfl rfl (hv) (hs.rot1) (.own1 hs rfl) (Cells1.u8s [UInt8.ofNat (u / 256 ^ q)]) (by first | omega | (simp only [List.length_append, List.length_cons, List.length_nil]; omega)) rfl (fun v36 Lv36 w hv36 hs => ?_)
            refine WL.val rfl (run_assign) ?_
            refine WL.nil ?_
            refine CW.reg ?_
            refine WL.val rfl (run_move) ?_
            refine WL.val rfl (run_sub (c := ((q : Int) - 1)) rfl rfl (by omega) (by omega)) ?_
            refine WL.val rfl (run_assign) ?_
            refine WL.nil ?_
            refine (show _ ∧ _ from ⟨rfl, _, ?_, q, c ++ [UInt8.ofNat (u / 256 ^ q)], _, _, rfl, by omega, ?_, ?_, hs.dropR, rfl, rfl, rfl, trivial⟩)
            · omega
            · rw [← hc]; simp [be]
            · rw [u8s_append, List.length_append]; exact hv36
          · obtain rfl : j = 0 := by omega
            repeat (first | refine CW.seq ?_ | refine CW.exit ?_)
            refine CW.reg ?_
            refine WL.val rfl (run_move) ?_
            refine WL.val rfl (run_assign) ?_
            refine WL.nil ?_
            refine CW.ret ?_
            refine fin_ret1 rfl ?_
            have : c = UInt8.ofNat (247 + m) :: be u m := by simpa [be] using hc
            subst this
            exact ⟨_, _, rfl, hv, hs⟩

/-- A Writer at block b: what it holds, its fault. -/
def Wr (b : Nat) (c : List UInt8) (ft : Int) (Lw : List (Nat × Obj)) : Prop := ∃ v Lv, Lw = (b, blk 98 [v, .int .i64 ft]) :: Lv ∧ OwnSl 5 1 v c.length (u8s c) Lv

theorem new_spec (w0 : World) : Calls Try.prog 36 #[] w0 fun e w' => ∃ b Lw, e = .returned (.pointer (some ⟨b, 0, none⟩)) ∧ Wr b [] 0 Lw ∧ Step [] Lw w0 w' := by
  have hs : Step [] [] w0 w0 := Step.refl w0
  have hb : ∀ w : World, (Instr.build 98 #[]).run Try.prog w = .ok (.agg #[.slice none 0 0, .int .i64 0]) w := fun w => by kernel_rfl
  refine calls (n := 3) Try.func36 rfl rfl rfl ?_
  refine CW.seq ?_
  refine CW.reg ?_
  refine WL.val rfl (run_assign) ?_
  refine WL.nil ?_
  refine CW.seq ?_
  refine CW.reg ?_
  refine WL.val rfl (run_build rfl (hb _)) ?_
  refine WL.box (cs := [.slice none 0 0, .int .i64 0]) rfl rfl rfl hs (fun b2 w hs => ?_)
  refine WL.val rfl (run_assign) ?_
  refine WL.nil ?_
  refine CW.ret ?_
  refine fin_ret1 rfl ?_
  exact ⟨_, _, rfl, ⟨_, [], rfl, .nil _ _⟩, hs⟩

/-- Pieces of bytes, as a slice of slices. -/
def Parts (S : List Nat) (w : World) (lv : Value) (ps : List (List UInt8)) : Prop :=
  ∃ vs, vs.length = ps.length ∧ Sl w 1 lv ps.length vs ∧ Outside lv S ∧ ∀ (i : Nat) (h : i < ps.length), ∃ a c, vs[i]? = some (.slice a (ps[i]).length c) ∧ Sl w 1 (.slice a (ps[i]).length c) (ps[i]).length (u8s ps[i]) ∧ Outside (.slice a (ps[i]).length c) S

theorem flatten_take_succ {ps : List (List UInt8)} {k : Nat} (h : k < ps.length) : (ps.take (k + 1)).flatten = (ps.take k).flatten ++ ps[k] := by
  rw [List.take_succ_eq_append_getElem h, List.flatten_append, List.flatten_cons, List.flatten_nil, List.append_nil]
theorem flatten_take_le (ps : List (List UInt8)) (k : Nat) : (ps.take k).flatten.length ≤ ps.flatten.length := by
  conv => rhs; rw [← List.take_append_drop k ps]
  rw [List.flatten_append, List.length_append]
  omega

theorem add_spec {b : Nat} {c : List UInt8} {ft : Int} {Lw : List (Nat × Obj)} {lv : Value} {ps : List (List UInt8)} (w0 : World) (hW : Wr b c ft Lw) (hO : Step (Lw.map (·.1)) Lw w0 w0) (hP : Parts (Lw.map (·.1)) w0 lv ps) (hcap : c.length ≤ 4194304) (hlen : ps.flatten.length ≤ 562949953421312) (hps : ps.length ≤ 1000) :
    Calls Try.prog 64 #[.pointer (some ⟨b, 0, none⟩), lv] w0 fun e w' => e = .returned (.tuple #[]) ∧ ∃ Lw', Wr b (addC c ft ps) (addF c ft ps) Lw' ∧ Step (Lw.map (·.1)) Lw' w0 w' := by
  obtain ⟨v, Lv, rfl, hv⟩ := hW
  obtain ⟨vs, hvs, hlv, hout, hpart⟩ := hP
  have hobt := hv.form
  obtain ⟨va, vc, rfl⟩ := hobt
  obtain ⟨la, lc, rfl⟩ : ∃ a c, lv = .slice a ps.length c := by
    obtain ⟨_, ⟨_, c, rfl, h0⟩ | ⟨b, off, c, rfl, _⟩⟩ := hlv
    · exact ⟨_, _, by rw [h0]⟩
    · exact ⟨_, _, rfl⟩
  generalize hS : ((b, blk 98 [.slice va c.length vc, .int .i64 ft]) :: Lv).map (·.1) = S at *
  have hs := hO
  have cellL : ∀ {L : List (Nat × Obj)} {w : World}, Step S L w0 w → ∀ k (hk : k < ps.length), ∃ lb lo a c', la = some ⟨lb, lo, none⟩ ∧ w.cell? ⟨lb, lo + k * 1, none⟩ = some (.slice a (ps[k]).length c') ∧ Sl w 1 (.slice a (ps[k]).length c') (ps[k]).length (u8s ps[k]) := by
    intro L w hw k hk
    obtain ⟨_, ⟨_, c1, h1, h0⟩ | ⟨lb, lo, c1, h1, hat⟩⟩ := hlv
    · omega
    · have hobt := hpart k hk
      obtain ⟨a, c', h2, h3, h4⟩ := hobt
      injection h1 with h1 _ _
      subst h1
      refine ⟨lb, lo, a, c', rfl, ?_, h3.step hw h4⟩
      rw [Nat.mul_one]
      exact (hat.step hw hout).cell h2
  refine calls (n := 58) Try.func64 rfl rfl rfl ?_
  refine CW.seq ?_
  refine CW.reg ?_
  refine WL.val rfl (run_move) ?_
  refine WL.val rfl (run_nilCheck rfl) ?_
  refine WL.val rfl (run_field (o' := 0) Try.underlying98 rfl ty29 rfl rfl rfl) ?_
  refine WL.val rfl (run_load1 ty29 rfl (hs.c0 rfl)) ?_
  refine WL.val rfl (run_lenSl Try.underlying29 rfl) ?_
  refine WL.val rfl (run_assign) ?_
  refine WL.nil ?_
  refine CW.seq <| CW.seq ?_
  refine CW.reg ?_
  refine WL.val rfl (run_move) ?_
  refine WL.val rfl (run_lenSl Try.underlying56 rfl) ?_
  refine WL.val rfl (run_move) ?_
  refine WL.nil ?_
  refine CW.block ?_
  refine CW.loop (fun m f w' => ∃ k, k ≤ ps.length ∧ m = ps.length - k ∧ w0 = w' ∧ Holds f [(0, .pointer (some ⟨b, 0, none⟩)), (1, .slice la ps.length lc), (4, .int .i64 (c.length + (ps.take k).flatten.length : Nat)), (14, .slice la ps.length lc), (15, .int .i64 ps.length), (16, .int .i64 k)]) (m := ps.length) ?_ ?_
  · exact ⟨0, by omega, by omega, rfl, rfl, rfl, rfl, rfl, rfl, rfl, trivial⟩
  · rintro m f w ⟨k, hk, rfl, rfl, hf⟩
    have hobt := hf.chain
    obtain ⟨g, rfl⟩ := hobt
    have hle := flatten_take_le ps k
    refine CW.seq ?_
    refine CW.reg ?_
    refine WL.val rfl (run_lss rfl rfl) ?_
    refine WL.nil ?_
    refine CW.seq ?_
    refine CW.condP rfl (fun h => ?_) (fun h => ?_)
    · have hlt : k < ps.length := by omega
      have hobt := cellL hs k hlt
      obtain ⟨lb, lo, a, c', rfl, hcell, hsl⟩ := hobt
      have hft := flatten_take_succ hlt
      have hle' := flatten_take_le ps (k + 1)
      rw [hft, List.length_append] at hle'
      repeat (first | refine CW.seq ?_ | refine CW.block ?_ | refine CW.skip ?_)
      refine CW.reg ?_
      refine WL.val rfl (run_ixSlN Try.underlying56 ty29 rfl rfl (by omega)) ?_
      refine WL.val rfl (run_load1 ty29 rfl (hcell)) ?_
      refine WL.val rfl (run_assign) ?_
      refine WL.nil ?_
      refine CW.reg ?_
      refine WL.val rfl (run_move) ?_
      refine WL.val rfl (run_move) ?_
      refine WL.val rfl (run_lenSl Try.underlying29 rfl) ?_
      refine WL.val rfl (run_add (c := ((c.length + ((ps.take k).flatten.length + (ps[k]).length) : Nat) : Int)) rfl rfl (by omega) (by omega)) ?_
      refine WL.val rfl (run_assign) ?_
      refine WL.nil ?_
      refine CW.reg ?_
      refine WL.val rfl (run_add (c := ((k + 1 : Nat) : Int)) rfl rfl (by omega) (by omega)) ?_
      refine WL.val rfl (run_move) ?_
      refine WL.nil ?_
      refine (show _ ∧ _ from ⟨rfl, _, ?_, k + 1, by omega, rfl, rfl, rfl, rfl, ?_, rfl, rfl, rfl, trivial⟩)
      · omega
      · rw [hft, List.length_append]; rfl
    · obtain rfl : k = ps.length := by omega
      rw [List.take_length]
      have hle := flatten_take_le ps ps.length
      by_cases hft : ft = 0
      · by_cases hbig : c.length + ps.flatten.length > 4194304
        · have hfin : ∀ Lw', Wr b (addC c ft ps) (addF c ft ps) Lw' = Wr b c 2 Lw' := fun Lw' => by
            have e1 : addF c ft ps = 2 := by unfold addF; rw [if_pos ⟨hft, hbig⟩]
            have e2 : addC c ft ps = c := by unfold addC; rw [e1, if_neg (by decide)]
            rw [e1, e2]
          repeat (first | refine CW.seq ?_ | refine CW.exit ?_)
          refine CW.reg ?_
          refine WL.val rfl (run_move) ?_
          refine WL.val rfl (run_nilCheck rfl) ?_
          refine WL.val rfl (run_field (o' := 1) Try.underlying98 rfl ty25 rfl rfl rfl) ?_
          refine WL.val rfl (run_load1 ty25 rfl (hs.c0 rfl)) ?_
          refine WL.val rfl (run_bT (run_eql rfl rfl) (by exact hft)) ?_
          refine WL.val rfl (run_move) ?_
          refine WL.yes rfl rfl rfl ?_
          refine WL.val rfl (run_move) ?_
          refine WL.yes rfl rfl rfl ?_
          refine WL.val rfl (run_bT (run_gtr rfl rfl) (by omega)) ?_
          refine WL.val rfl (run_pickT rfl) ?_
          refine WL.nil ?_
          refine CW.condT rfl ?_
          refine CW.reg ?_
          refine WL.val rfl (run_move) ?_
          refine WL.val rfl (run_nilCheck rfl) ?_
          refine WL.val rfl (run_field (o' := 1) Try.underlying98 rfl ty25 rfl rfl rfl) ?_
          refine WL.store1 ty25 rfl rfl (rfl) (hs) (by first | (simp; done) | omega | (simp only [List.length_append, List.length_replicate, List.length_cons, List.length_nil, List.length_set]; omega) | (simp [Ent.cells, u8s]; done) | exact Nat.le_of_ble_eq_true rfl) (fun w hs => ?_)
          refine WL.nil ?_
          have hne : ¬ ((2 : Int) = 0) := by decide
          have hobt : ∃ ft' : Int, ft' = 2 := ⟨2, rfl⟩
          obtain ⟨ft', hft'⟩ := hobt
          rw [← hft'] at hfin hne
          replace hs : Step S ((b, blk 98 [.slice va c.length vc, .int .i64 ft']) :: Lv) w0 w := by rw [hft']; exact hs
          refine CW.seq ?_
          refine CW.reg ?_
          refine WL.val rfl (run_move) ?_
          refine WL.val rfl (run_lenSl Try.underlying56 rfl) ?_
          refine WL.val rfl (run_move) ?_
          refine WL.nil ?_
          refine CW.block ?_
          refine CW.loop (fun m f w' => ∃ k, k ≤ ps.length ∧ m = ps.length - k ∧ (∃ Lw', Wr b c ft' Lw' ∧ Step S Lw' w0 w') ∧ Holds f [(0, .pointer (some ⟨b, 0, none⟩)), (37, .slice la ps.length lc), (38, .int .i64 ps.length), (39, .int .i64 k)]) (m := ps.length) ?_ ?_
          · exact ⟨0, by omega, by omega, ⟨_, ⟨_, _, rfl, hv⟩, hs⟩, rfl, rfl, rfl, rfl, trivial⟩
          · rintro m f w ⟨k, hk, rfl, ⟨Lw', ⟨v', Lv', rfl, hv'⟩, hs⟩, hf⟩
            have hobt := hf.chain
            obtain ⟨g, rfl⟩ := hobt
            refine CW.seq ?_
            refine CW.reg ?_
            refine WL.val rfl (run_lss rfl rfl) ?_
            refine WL.nil ?_
            refine CW.seq ?_
            refine CW.condP rfl (fun h => ?_) (fun h => ?_)
            · have hlt : k < ps.length := by omega
              have hobt := cellL hs k hlt
              obtain ⟨lb, lo, a, c', rfl, hcell, hsl⟩ := hobt
              repeat (first | refine CW.seq ?_ | refine CW.block ?_ | refine CW.skip ?_)
              refine CW.reg ?_
              refine WL.val rfl (run_ixSlN Try.underlying56 ty29 rfl rfl (by omega)) ?_
              refine WL.val rfl (run_load1 ty29 rfl (hcell)) ?_
              refine WL.val rfl (run_assign) ?_
              refine WL.nil ?_
              refine CW.seq ?_
              refine CW.reg ?_
              refine WL.val rfl (run_move) ?_
              refine WL.val rfl (run_nilCheck rfl) ?_
              refine WL.val rfl (run_field (o' := 1) Try.underlying98 rfl ty25 rfl rfl rfl) ?_
              refine WL.val rfl (run_load1 ty25 rfl (hs.c0 rfl)) ?_
              refine WL.val rfl (run_bF (run_eql rfl rfl) (by exact hne)) ?_
              refine WL.nil ?_
              repeat (first | refine CW.skip ?_ | refine CW.condF rfl ?_)
              refine CW.reg ?_
              refine WL.val rfl (run_add (c := ((k + 1 : Nat) : Int)) rfl rfl (by omega) (by omega)) ?_
              refine WL.val rfl (run_move) ?_
              refine WL.nil ?_
              refine (show _ ∧ _ from ⟨rfl, _, ?_, k + 1, by omega, rfl, ⟨_, ⟨_, _, rfl, hv'⟩, hs⟩, rfl, rfl, rfl, rfl, trivial⟩)
              omega
            · refine CW.exit ?_
              refine fin_end0 rfl ?_
              refine ⟨rfl, _, ?_, hs⟩
              rw [hfin]
              exact ⟨_, _, rfl, hv'⟩
        · subst hft
          have e1 : addF c 0 ps = 0 := by unfold addF; rw [if_neg (fun h => hbig h.2)]
          have e2 : addC c 0 ps = c ++ ps.flatten := by unfold addC; rw [e1, if_pos rfl]
          repeat (first | refine CW.seq ?_ | refine CW.exit ?_)
          refine CW.reg ?_
          refine WL.val rfl (run_move) ?_
          refine WL.val rfl (run_nilCheck rfl) ?_
          refine WL.val rfl (run_field (o' := 1) Try.underlying98 rfl ty25 rfl rfl rfl) ?_
          refine WL.val rfl (run_load1 ty25 rfl (hs.c0 rfl)) ?_
          refine WL.val rfl (run_bT (run_eql rfl rfl) (by rfl)) ?_
          refine WL.val rfl (run_move) ?_
          refine WL.yes rfl rfl rfl ?_
          refine WL.val rfl (run_move) ?_
          refine WL.yes rfl rfl rfl ?_
          refine WL.val rfl (run_bF (run_gtr rfl rfl) (by omega)) ?_
          refine WL.val rfl (run_pickT rfl) ?_
          refine WL.nil ?_
          repeat (first | refine CW.seq ?_ | refine CW.skip ?_ | refine CW.condF rfl ?_)
          refine CW.reg ?_
          refine WL.val rfl (run_move) ?_
          refine WL.val rfl (run_lenSl Try.underlying56 rfl) ?_
          refine WL.val rfl (run_move) ?_
          refine WL.nil ?_
          refine CW.block ?_
          refine CW.loop (fun m f w' => ∃ k, k ≤ ps.length ∧ m = ps.length - k ∧ (∃ Lw', Wr b (c ++ (ps.take k).flatten) 0 Lw' ∧ Step S Lw' w0 w') ∧ Holds f [(0, .pointer (some ⟨b, 0, none⟩)), (37, .slice la ps.length lc), (38, .int .i64 ps.length), (39, .int .i64 k)]) (m := ps.length) ?_ ?_
          · exact ⟨0, by omega, by omega, ⟨_, ⟨_, _, rfl, by simpa using hv⟩, hs⟩, rfl, rfl, rfl, rfl, trivial⟩
          · rintro m f w ⟨k, hk, rfl, ⟨Lw', ⟨v', Lv', rfl, hv'⟩, hs⟩, hf⟩
            have hobt := hf.chain
            obtain ⟨g, rfl⟩ := hobt
            refine CW.seq ?_
            refine CW.reg ?_
            refine WL.val rfl (run_lss rfl rfl) ?_
            refine WL.nil ?_
            refine CW.seq ?_
            refine CW.condP rfl (fun h => ?_) (fun h => ?_)
            · have hlt : k < ps.length := by omega
              have hobt := cellL hs k hlt
              obtain ⟨lb, lo, a, c', rfl, hcell, hsl⟩ := hobt
              have hft := flatten_take_succ hlt
              have hle' := flatten_take_le ps (k + 1)
              rw [hft, List.length_append] at hle'
              repeat (first | refine CW.seq ?_ | refine CW.block ?_ | refine CW.skip ?_)
              refine CW.reg ?_
              refine WL.val rfl (run_ixSlN Try.underlying56 ty29 rfl rfl (by omega)) ?_
              refine WL.val rfl (run_load1 ty29 rfl (hcell)) ?_
              refine WL.val rfl (run_assign) ?_
              refine WL.nil ?_
              refine CW.seq ?_
              refine CW.reg ?_
              refine WL.val rfl (run_move) ?_
              refine WL.val rfl (run_nilCheck rfl) ?_
              refine WL.val rfl (run_field (o' := 1) Try.underlying98 rfl ty25 rfl rfl rfl) ?_
              refine WL.val rfl (run_load1 ty25 rfl (hs.c0 rfl)) ?_
              refine WL.val rfl (run_bT (run_eql rfl rfl) (by rfl)) ?_
              refine WL.nil ?_
              refine CW.condT rfl ?_
              refine CW.reg ?_
              refine WL.val rfl (run_move) ?_
              refine WL.val rfl (run_move) ?_
              refine WL.val rfl (run_nilCheck rfl) ?_
              refine WL.val rfl (run_field (o' := 0) Try.underlying98 rfl ty29 rfl rfl rfl) ?_
              refine WL.val rfl (run_load1 ty29 rfl (hs.c0 rfl)) ?_
              refine WL.val rfl (run_move) ?_
              refine WL.append Try.underlying29 Try.underlying29 ty5 rfl (by decide) rfl rfl (hv') (hs.rot1) (hsl) (Cells1.u8s _) (by first | omega | (simp only [List.length_append, List.length_cons, List.length_nil]; omega)) rfl (fun v54 Lv54 w hv54 hs => ?_)
              have hs := hs.append_comm
              refine WL.val rfl (run_nilCheck rfl) ?_
              refine WL.val rfl (run_field (o' := 0) Try.underlying98 rfl ty29 rfl rfl rfl) ?_
              refine WL.store1 ty29 rfl rfl (hv54.one) (hs) (by first | (simp; done) | omega | (simp only [List.length_append, List.length_replicate, List.length_cons, List.length_nil, List.length_set]; omega) | (simp [Ent.cells, u8s]; done) | exact Nat.le_of_ble_eq_true rfl) (fun w hs => ?_)
              refine WL.nil ?_
              refine CW.reg ?_
              refine WL.val rfl (run_add (c := ((k + 1 : Nat) : Int)) rfl rfl (by omega) (by omega)) ?_
              refine WL.val rfl (run_move) ?_
              refine WL.nil ?_
              refine (show _ ∧ _ from ⟨rfl, _, ?_, k + 1, by omega, rfl, ⟨_, ⟨_, _, rfl, ?_⟩, hs⟩, rfl, rfl, rfl, rfl, trivial⟩)
              · omega
              · rw [hft, ← List.append_assoc, List.length_append, u8s_append]
                exact hv54
            · refine CW.exit ?_
              refine fin_end0 rfl ?_
              obtain rfl : k = ps.length := by omega
              refine ⟨rfl, _, ?_, hs⟩
              rw [e1, e2, ← List.take_length (l := ps)]
              exact ⟨_, _, rfl, hv'⟩
      · have hfin : ∀ Lw', Wr b (addC c ft ps) (addF c ft ps) Lw' = Wr b c ft Lw' := fun Lw' => by
          have e1 : addF c ft ps = ft := by unfold addF; rw [if_neg (fun h => hft h.1)]
          have e2 : addC c ft ps = c := by unfold addC; rw [e1, if_neg hft]
          rw [e1, e2]
        have hne := hft
        have hobt : ∃ ft' : Int, ft' = ft := ⟨ft, rfl⟩
        obtain ⟨ft', hft'⟩ := hobt
        subst hft'
        repeat (first | refine CW.seq ?_ | refine CW.exit ?_)
        refine CW.reg ?_
        refine WL.val rfl (run_move) ?_
        refine WL.val rfl (run_nilCheck rfl) ?_
        refine WL.val rfl (run_field (o' := 1) Try.underlying98 rfl ty25 rfl rfl rfl) ?_
        refine WL.val rfl (run_load1 ty25 rfl (hs.c0 rfl)) ?_
        refine WL.val rfl (run_bF (run_eql rfl rfl) (by exact hne)) ?_
        refine WL.val rfl (run_move) ?_
        refine WL.no rfl rfl rfl (.inl rfl) ?_
        refine WL.no rfl rfl rfl (.inl rfl) ?_
        refine WL.val rfl (run_pickF rfl) ?_
        refine WL.nil ?_
        repeat (first | refine CW.seq ?_ | refine CW.skip ?_ | refine CW.condF rfl ?_)
        refine CW.reg ?_
        refine WL.val rfl (run_move) ?_
        refine WL.val rfl (run_lenSl Try.underlying56 rfl) ?_
        refine WL.val rfl (run_move) ?_
        refine WL.nil ?_
        refine CW.block ?_
        refine CW.loop (fun m f w' => ∃ k, k ≤ ps.length ∧ m = ps.length - k ∧ (∃ Lw', Wr b c ft' Lw' ∧ Step S Lw' w0 w') ∧ Holds f [(0, .pointer (some ⟨b, 0, none⟩)), (37, .slice la ps.length lc), (38, .int .i64 ps.length), (39, .int .i64 k)]) (m := ps.length) ?_ ?_
        · exact ⟨0, by omega, by omega, ⟨_, ⟨_, _, rfl, hv⟩, hs⟩, rfl, rfl, rfl, rfl, trivial⟩
        · rintro m f w ⟨k, hk, rfl, ⟨Lw', ⟨v', Lv', rfl, hv'⟩, hs⟩, hf⟩
          have hobt := hf.chain
          obtain ⟨g, rfl⟩ := hobt
          refine CW.seq ?_
          refine CW.reg ?_
          refine WL.val rfl (run_lss rfl rfl) ?_
          refine WL.nil ?_
          refine CW.seq ?_
          refine CW.condP rfl (fun h => ?_) (fun h => ?_)
          · have hlt : k < ps.length := by omega
            have hobt := cellL hs k hlt
            obtain ⟨lb, lo, a, c', rfl, hcell, hsl⟩ := hobt
            repeat (first | refine CW.seq ?_ | refine CW.block ?_ | refine CW.skip ?_)
            refine CW.reg ?_
            refine WL.val rfl (run_ixSlN Try.underlying56 ty29 rfl rfl (by omega)) ?_
            refine WL.val rfl (run_load1 ty29 rfl (hcell)) ?_
            refine WL.val rfl (run_assign) ?_
            refine WL.nil ?_
            refine CW.seq ?_
            refine CW.reg ?_
            refine WL.val rfl (run_move) ?_
            refine WL.val rfl (run_nilCheck rfl) ?_
            refine WL.val rfl (run_field (o' := 1) Try.underlying98 rfl ty25 rfl rfl rfl) ?_
            refine WL.val rfl (run_load1 ty25 rfl (hs.c0 rfl)) ?_
            refine WL.val rfl (run_bF (run_eql rfl rfl) (by exact hne)) ?_
            refine WL.nil ?_
            repeat (first | refine CW.skip ?_ | refine CW.condF rfl ?_)
            refine CW.reg ?_
            refine WL.val rfl (run_add (c := ((k + 1 : Nat) : Int)) rfl rfl (by omega) (by omega)) ?_
            refine WL.val rfl (run_move) ?_
            refine WL.nil ?_
            refine (show _ ∧ _ from ⟨rfl, _, ?_, k + 1, by omega, rfl, ⟨_, ⟨_, _, rfl, hv'⟩, hs⟩, rfl, rfl, rfl, rfl, trivial⟩)
            omega
          · refine CW.exit ?_
            refine fin_end0 rfl ?_
            refine ⟨rfl, _, ?_, hs⟩
            rw [hfin]
            exact ⟨_, _, rfl, hv'⟩

theorem parts1 {S S' : List Nat} {L : List (Nat × Obj)} {w0 w : World} {b : Nat} {v : Value} {p : List UInt8} (hs : Step S ((b, blk 29 [v]) :: L) w0 w) (hb : b ∉ S') (h : Sl w 1 v p.length (u8s p)) (ho : Outside v S') :
    Parts S' w (.slice (some ⟨b, 0, none⟩) 1 1) [p] := by
  obtain ⟨a, c, rfl⟩ : ∃ a c, v = .slice a p.length c := by
    obtain ⟨_, ⟨_, c, rfl, h0⟩ | ⟨b, off, c, rfl, _⟩⟩ := h
    · exact ⟨_, _, by rw [h0]⟩
    · exact ⟨_, _, rfl⟩
  refine ⟨[.slice a p.length c], rfl, .mk rfl (At.of_blk hs.hd), hb, fun i hi => ?_⟩
  obtain rfl : i = 0 := by simpa using hi
  exact ⟨a, c, rfl, h, ho⟩
theorem parts2 {S S' : List Nat} {L : List (Nat × Obj)} {w0 w : World} {b : Nat} {v u : Value} {p q : List UInt8} (hs : Step S ((b, blk 29 [v, u]) :: L) w0 w) (hb : b ∉ S') (h : Sl w 1 v p.length (u8s p)) (ho : Outside v S') (h' : Sl w 1 u q.length (u8s q)) (ho' : Outside u S') :
    Parts S' w (.slice (some ⟨b, 0, none⟩) 2 2) [p, q] := by
  obtain ⟨a, c, rfl⟩ : ∃ a c, v = .slice a p.length c := by
    obtain ⟨_, ⟨_, c, rfl, h0⟩ | ⟨b, off, c, rfl, _⟩⟩ := h
    · exact ⟨_, _, by rw [h0]⟩
    · exact ⟨_, _, rfl⟩
  obtain ⟨a', c', rfl⟩ : ∃ a c, u = .slice a q.length c := by
    obtain ⟨_, ⟨_, c, rfl, h0⟩ | ⟨b, off, c, rfl, _⟩⟩ := h'
    · exact ⟨_, _, by rw [h0]⟩
    · exact ⟨_, _, rfl⟩
  refine ⟨[.slice a p.length c, .slice a' q.length c'], rfl, .mk rfl (At.of_blk hs.hd), hb, fun i hi => ?_⟩
  rcases i with _ | _ | i
  · exact ⟨a, c, rfl, h, ho⟩
  · exact ⟨a', c', rfl, h', ho'⟩
  · simp at hi
    omega

theorem num_spec {b : Nat} {c : List UInt8} {ft : Int} {Lw : List (Nat × Obj)} (n : Nat) (w0 : World) (hn : n ≤ 9223372036854775807) (hW : Wr b c ft Lw) (hO : Step (Lw.map (·.1)) Lw w0 w0) (hcap : c.length ≤ 4194304) :
    Calls Try.prog 37 #[.pointer (some ⟨b, 0, none⟩), .int .i64 n] w0 fun e w' => e = .returned (.tuple #[]) ∧ ∃ Lw', Wr b (addC c ft [formB n]) (addF c ft [formB n]) Lw' ∧ Step (Lw.map (·.1)) Lw' w0 w' := by
  have hs := hO
  have hfl := formB_len n
  refine calls (n := 20) Try.func37 rfl rfl rfl ?_
  refine CW.seq <| CW.seq ?_
  refine CW.reg ?_
  refine WL.val rfl (run_move) ?_
  refine WL.val rfl (run_bF (run_lss rfl rfl) (by omega)) ?_
  refine WL.nil ?_

  repeat (first | refine CW.skip ?_ | refine CW.condF rfl ?_)
  refine CW.reg ?_
  refine WL.val rfl (run_move) ?_
  refine WL.val rfl (run_move) ?_
  refine WL.val rfl (run_convU64 Try.underlying3 Try.underlying101 rfl (by omega)) ?_
  refine WL.enter rfl (run_call en65 rfl rfl) (form_spec n _ (by omega)) ?_
  rintro e w ⟨v, Lv, rfl, hv, hq⟩
  refine ⟨_, rfl, ?_⟩
  have hobt := hv.form
  obtain ⟨va, vc, rfl⟩ := hobt
  have hs := hs.call0 hq
  refine WL.buildSlice (cs := [Value.slice va (formB n).length vc]) Try.underlying56 ty29 rfl (by decide) rfl (by rfl) rfl hs (fun b18 w hs => ?_)
  have hs2 := Step.append_comm (L1 := (b18, _) :: Lv) hs
  have hd := hs2.append_comm.disj
  have hP := parts1 (S' := Lw.map (·.1)) hs (hd _ (List.mem_cons_self ..)) (hv.sl hs.tail) (hv.outside fun p hp => hd p (List.mem_cons_of_mem _ hp))
  refine WL.enter rfl (run_call en64 rfl rfl) (add_spec _ hW hs2.own hP hcap (by simp; omega) (by simp)) ?_
  rintro e w ⟨rfl, Lw', hW', hq'⟩
  refine ⟨_, rfl, ?_⟩
  refine WL.nil ?_
  refine fin_end0 rfl ?_
  exact ⟨rfl, Lw', hW', (hs2.call hq').dropR⟩

theorem bytes_spec {b : Nat} {c : List UInt8} {ft : Int} {Lw : List (Nat × Obj)} {u : Value} {s : List UInt8} (w0 : World) (hW : Wr b c ft Lw) (hO : Step (Lw.map (·.1)) Lw w0 w0) (hcap : c.length ≤ 4194304) (hu : Sl w0 1 u s.length (u8s s)) (hout : Outside u (Lw.map (·.1))) (hsl : s.length ≤ 281474976710656) :
    Calls Try.prog 39 #[.pointer (some ⟨b, 0, none⟩), u] w0 fun e w' => e = .returned (.tuple #[]) ∧ ∃ Lw', Wr b (addC c ft [formB s.length, s]) (addF c ft [formB s.length, s]) Lw' ∧ Step (Lw.map (·.1)) Lw' w0 w' := by
  have hs := hO
  have hfl := formB_len s.length
  obtain ⟨ua, uc, rfl⟩ : ∃ a c, u = .slice a s.length c := by
    obtain ⟨_, ⟨_, c, rfl, h0⟩ | ⟨b, off, c, rfl, _⟩⟩ := hu
    · exact ⟨_, _, by rw [h0]⟩
    · exact ⟨_, _, rfl⟩
  refine calls (n := 12) Try.func39 rfl rfl rfl ?_
  refine CW.reg ?_
  refine WL.val rfl (run_move) ?_
  refine WL.val rfl (run_move) ?_
  refine WL.val rfl (run_lenSl Try.underlying29 rfl) ?_
  refine WL.val rfl (run_convU64 Try.underlying3 Try.underlying101 rfl (by omega)) ?_
  refine WL.enter rfl (run_call en65 rfl rfl) (form_spec s.length _ (by omega)) ?_
  rintro e w ⟨v, Lv, rfl, hv, hq⟩
  refine ⟨_, rfl, ?_⟩
  have hobt := hv.form
  obtain ⟨va, vc, rfl⟩ := hobt
  have hs := hs.call0 hq
  refine WL.val rfl (run_move) ?_
  refine WL.buildSlice (cs := [Value.slice va (formB s.length).length vc, .slice ua s.length uc]) Try.underlying56 ty29 rfl (by decide) rfl (by rfl) rfl hs (fun b10 w hs => ?_)
  have hs2 := Step.append_comm (L1 := (b10, _) :: Lv) hs
  have hd := hs2.append_comm.disj
  have hP := parts2 (S' := Lw.map (·.1)) hs (hd _ (List.mem_cons_self ..)) (hv.sl hs.tail) (hv.outside fun p hp => hd p (List.mem_cons_of_mem _ hp)) (hu.step hs hout) hout
  refine WL.enter rfl (run_call en64 rfl rfl) (add_spec _ hW hs2.own hP hcap (by simp; omega) (by simp)) ?_
  rintro e w ⟨rfl, Lw', hW', hq'⟩
  refine ⟨_, rfl, ?_⟩
  refine WL.nil ?_
  refine fin_end0 rfl ?_
  exact ⟨rfl, Lw', hW', (hs2.call hq').dropR⟩

theorem text_spec {b : Nat} {c : List UInt8} {ft : Int} {Lw : List (Nat × Obj)} {s : List UInt8} (w0 : World) (hW : Wr b c ft Lw) (hO : Step (Lw.map (·.1)) Lw w0 w0) (hcap : c.length ≤ 4194304) (hsl : s.length ≤ 281474976710656) :
    Calls Try.prog 38 #[.pointer (some ⟨b, 0, none⟩), str s] w0 fun e w' => e = .returned (.tuple #[]) ∧ ∃ Lw', Wr b (addC c ft [formB s.length, s]) (addF c ft [formB s.length, s]) Lw' ∧ Step (Lw.map (·.1)) Lw' w0 w' := by
  have hs := hO
  refine calls (n := 8) Try.func38 rfl rfl rfl ?_
  refine CW.reg ?_
  skip
  refine WL.val rfl (run_move) ?_
  refine WL.val rfl (run_move) ?_
  refine WL.toBytes Try.underlying9 Try.underlying29 Try.underlying5 rfl rfl hs (fun b6 cap6 more6 w hcap6 hs => ?_)
  refine WL.enter rfl (run_call en39 rfl rfl) (bytes_spec _ hW hs.rot1.own hcap (.mk (by simp [u8s]) (At.of_blkM hs.hd).left) (hs.disj (L1 := [_]) _ (List.mem_singleton.2 rfl)) hsl) ?_
  rintro e w ⟨rfl, Lw', hW', hq'⟩
  refine ⟨_, rfl, ?_⟩
  refine WL.nil ?_
  refine fin_end0 rfl ?_
  exact ⟨rfl, Lw', hW', (hs.rot1.call hq').dropR⟩
end Go.Gx
