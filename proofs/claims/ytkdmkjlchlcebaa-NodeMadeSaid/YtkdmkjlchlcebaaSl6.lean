/- The document's With. -/
import Derived.Test.YtkdmkjlchlcebaaSl5
namespace Go.Gx
open Go.Proofs
set_option linter.unusedVariables false
set_option linter.unusedSimpArgs false
set_option maxRecDepth 100000

set_option maxHeartbeats 800000 in
theorem withR_spec {v : Value} {l : List Ent} {x : Ent} (w0 : World) (hl : Es w0 v l) (hbb : l.length ≤ 1000000) (hx : x.ok) :
    Calls Try.prog 29 #[v, .agg x.cells.toArray] w0 fun e w' => ∃ u Lu, e = .returned u ∧ OwnSl 48 34 u (withR x false l).length (rows (withR x false l)) Lu ∧ Oks (withR x false l) ∧ Step [] Lu w0 w' := by
  have hs : Step [] [] w0 w0 := Step.refl w0
  have hxl := Ent.cells_len hx
  have hobt := hl.1.form
  obtain ⟨a, c, rfl⟩ := hobt
  refine calls (n := 53) Try.func29 rfl rfl rfl ?_
  repeat (first | refine CW.seq ?_ | refine CW.block ?_ | refine CW.skip ?_ | refine CW.exit ?_ | refine CW.condT rfl ?_ | refine CW.condF rfl ?_)
  refine CW.reg ?_
  refine WL.box (cs := x.cells) rfl rfl rfl hs (fun b3 w hs => ?_)
  refine WL.val rfl (run_assign) ?_
  refine WL.nil ?_
  repeat (first | refine CW.seq ?_ | refine CW.block ?_ | refine CW.skip ?_ | refine CW.exit ?_ | refine CW.condT rfl ?_ | refine CW.condF rfl ?_)
  refine CW.reg ?_
  refine WL.val rfl (run_assign) ?_
  refine WL.nil ?_
  repeat (first | refine CW.seq ?_ | refine CW.block ?_ | refine CW.skip ?_ | refine CW.exit ?_ | refine CW.condT rfl ?_ | refine CW.condF rfl ?_)
  refine CW.reg ?_
  refine WL.val rfl (run_assign) ?_
  refine WL.nil ?_
  repeat (first | refine CW.seq ?_ | refine CW.block ?_ | refine CW.skip ?_ | refine CW.exit ?_ | refine CW.condT rfl ?_ | refine CW.condF rfl ?_)
  refine CW.reg ?_
  refine WL.val rfl (run_assign) ?_
  refine WL.nil ?_
  repeat (first | refine CW.seq ?_ | refine CW.block ?_ | refine CW.skip ?_ | refine CW.exit ?_ | refine CW.condT rfl ?_ | refine CW.condF rfl ?_)
  refine CW.loop (fun m f w' => ∃ k out put u Lu, k ≤ l.length ∧ m = l.length - k ∧ withR x false l = out ++ withR x put (l.drop k) ∧ out.length ≤ 2 * k ∧ Oks out ∧ OwnSl 48 34 u out.length (rows out) Lu ∧ Step [] ((b3, blk 48 x.cells) :: Lu) w0 w' ∧ Holds f [(0, .slice a l.length c), (3, .pointer (some ⟨b3, 0, none⟩)), (5, u), (6, .bool put), (7, .int .i64 k)]) (m := l.length) ?_ ?_
  · exact ⟨0, [], false, _, [], by omega, by omega, rfl, by simp, Oks.nil, .nil _ _, hs, rfl, rfl, rfl, rfl, rfl, trivial⟩
  · rintro m f w ⟨k, out, put, u, Lu, hk, rfl, hw, hol, hoo, hu, hs, hf⟩
    have hobt := hf.chain
    obtain ⟨g, rfl⟩ := hobt
    repeat (first | refine CW.seq ?_ | refine CW.block ?_ | refine CW.skip ?_ | refine CW.exit ?_ | refine CW.condT rfl ?_ | refine CW.condF rfl ?_)
    refine CW.reg ?_
    refine WL.val rfl (run_move) ?_
    refine WL.val rfl (run_move) ?_
    refine WL.val rfl (run_lenSl Try.underlying22 rfl) ?_
    refine WL.val rfl (run_lss rfl rfl) ?_
    refine WL.nil ?_
    repeat (first | refine CW.seq ?_ | refine CW.block ?_ | refine CW.skip ?_ | refine CW.exit ?_)
    first | refine CW.condP rfl (fun h => ?_) (fun h => ?_) | refine CW.cond rfl (fun h => ?_) (fun h => ?_)
    · have hlt : k < l.length := by omega
      rcases hl.cases with ⟨c', hv', h0⟩ | ⟨b, off, c', hv', hat⟩
      · rw [h0] at hlt; simp at hlt
      obtain ⟨rfl, rfl⟩ : a = some ⟨b, off, none⟩ ∧ c = c' := by cases hv'; exact ⟨rfl, rfl⟩
      have hok := hl.2.1.get hlt
      have hyl := Ent.cells_len hok
      have hax : ∀ {w : World} {L : List (Nat × Obj)}, Step [] L w0 w → At w b (off + k * 34) (l[k]).cells := fun hs => (hat.ent hl.2.1 hlt).step hs (by simp)
      rw [List.drop_eq_getElem_cons hlt, withR] at hw
      cases put with
      | true =>
        rw [if_neg (by simp), List.nil_append, Bool.true_or] at hw
        repeat (first | refine CW.seq ?_ | refine CW.block ?_ | refine CW.skip ?_ | refine CW.exit ?_ | refine CW.condT rfl ?_ | refine CW.condF rfl ?_)
        refine CW.quiet mixedP (by kernel_rfl) hs ?_
        refine QL.val rfl (fun w hs => run_move) ?_
        first | refine QL.val rfl (fun w hs => run_notB rfl) ?_ | refine QL.val rfl (fun w hs => run_not rfl) ?_
        refine QL.val rfl (fun w hs => run_move) ?_
        first | refine QL.no rfl rfl rfl (.inl rfl) ?_ | refine QL.no rfl rfl rfl (.inr rfl) ?_
        first | refine QL.no rfl rfl rfl (.inl rfl) ?_ | refine QL.no rfl rfl rfl (.inr rfl) ?_
        first | refine QL.no rfl rfl rfl (.inl rfl) ?_ | refine QL.no rfl rfl rfl (.inr rfl) ?_
        first | refine QL.no rfl rfl rfl (.inl rfl) ?_ | refine QL.no rfl rfl rfl (.inr rfl) ?_
        first | refine QL.no rfl rfl rfl (.inl rfl) ?_ | refine QL.no rfl rfl rfl (.inr rfl) ?_
        first | refine QL.no rfl rfl rfl (.inl rfl) ?_ | refine QL.no rfl rfl rfl (.inr rfl) ?_
        first | refine QL.no rfl rfl rfl (.inl rfl) ?_ | refine QL.no rfl rfl rfl (.inr rfl) ?_
        first | refine QL.no rfl rfl rfl (.inl rfl) ?_ | refine QL.no rfl rfl rfl (.inr rfl) ?_
        first | refine QL.no rfl rfl rfl (.inl rfl) ?_ | refine QL.no rfl rfl rfl (.inr rfl) ?_
        first | refine QL.val rfl (fun w hs => run_pickT rfl) ?_ | refine QL.val rfl (fun w hs => run_pickF rfl) ?_
        refine QL.nil (fun w hs => ?_)
        have hobt : ∃ out2, out2 = out := ⟨_, rfl⟩
        obtain ⟨out2, ho2⟩ := hobt
        subst ho2
        have hoo2 := hoo
        have hu2 := hu
        have hol2 : out2.length ≤ 2 * k + 1 := by omega
        by_cases hn : (l[k]).name = x.name
        · rw [if_neg (by simpa using hn), List.nil_append] at hw
          repeat (first | refine CW.seq ?_ | refine CW.block ?_ | refine CW.skip ?_ | refine CW.exit ?_ | refine CW.condT rfl ?_ | refine CW.condF rfl ?_)
          refine CW.quiet mixedP (by kernel_rfl) hs ?_
          refine QL.val rfl (fun w hs => run_move) ?_
          refine QL.val rfl (fun w hs => run_move) ?_
          first | refine QL.val rfl (fun w hs => run_ixSlN Try.underlying22 ty48 rfl rfl (by omega)) ?_ | refine QL.val rfl (fun w hs => run_ixSl Try.underlying22 ty48 rfl rfl (by omega)) ?_
          refine QL.val rfl (fun w hs => run_field (o' := 0) Try.underlying48 rfl ty9 rfl rfl rfl) ?_
          refine QL.val rfl (fun w hs => run_load1 ty9 rfl ((hax hs).cell (j := 0) rfl)) ?_
          refine QL.val rfl (fun w hs => run_field (o' := 0) Try.underlying48 rfl ty9 rfl rfl rfl) ?_
          first | refine QL.val rfl (fun w hs => run_load1 ty9 rfl (hs.c0 rfl)) ?_ | refine QL.val rfl (fun w hs => run_load1 ty9 rfl (hs.c1 rfl)) ?_ | refine QL.val rfl (fun w hs => run_load1 ty9 rfl (hs.c2 rfl)) ?_ | refine QL.val rfl (fun w hs => run_load1 ty9 rfl (hs.c3 rfl)) ?_ | refine QL.val rfl (fun w hs => run_load1 ty9 rfl (hs.c4 rfl)) ?_ | refine QL.val rfl (fun w hs => run_load1 ty9 rfl (hs.c5 rfl)) ?_ | refine QL.val rfl (fun w hs => run_load1 ty9 rfl (hs.c0 rfl)) ?_
          refine QL.val rfl (fun w hs => run_bF (run_strNe rfl rfl) (by simpa using hn)) ?_
          refine QL.nil (fun w hs => ?_)
          repeat (first | refine CW.seq ?_ | refine CW.block ?_ | refine CW.skip ?_ | refine CW.exit ?_ | refine CW.condT rfl ?_ | refine CW.condF rfl ?_)
          refine CW.reg ?_
          refine WL.val rfl (run_move) ?_
          refine WL.val rfl (run_add (c := ((k + 1 : Nat) : Int)) rfl rfl (by omega) (by omega)) ?_
          refine WL.val rfl (run_assign) ?_
          refine WL.nil ?_
          repeat (first | refine CW.seq ?_ | refine CW.block ?_ | refine CW.skip ?_ | refine CW.exit ?_)
          refine (show _ ∧ _ from ⟨rfl, _, ?_, k + 1, out2, _, _, _, by omega, rfl, hw, by omega, hoo2, hu2, hs, rfl, rfl, rfl, rfl, rfl, trivial⟩)
          omega
        · rw [if_pos hn, ← List.append_assoc] at hw
          repeat (first | refine CW.seq ?_ | refine CW.block ?_ | refine CW.skip ?_ | refine CW.exit ?_ | refine CW.condT rfl ?_ | refine CW.condF rfl ?_)
          refine CW.quiet mixedP (by kernel_rfl) hs ?_
          refine QL.val rfl (fun w hs => run_move) ?_
          refine QL.val rfl (fun w hs => run_move) ?_
          first | refine QL.val rfl (fun w hs => run_ixSlN Try.underlying22 ty48 rfl rfl (by omega)) ?_ | refine QL.val rfl (fun w hs => run_ixSl Try.underlying22 ty48 rfl rfl (by omega)) ?_
          refine QL.val rfl (fun w hs => run_field (o' := 0) Try.underlying48 rfl ty9 rfl rfl rfl) ?_
          refine QL.val rfl (fun w hs => run_load1 ty9 rfl ((hax hs).cell (j := 0) rfl)) ?_
          refine QL.val rfl (fun w hs => run_field (o' := 0) Try.underlying48 rfl ty9 rfl rfl rfl) ?_
          first | refine QL.val rfl (fun w hs => run_load1 ty9 rfl (hs.c0 rfl)) ?_ | refine QL.val rfl (fun w hs => run_load1 ty9 rfl (hs.c1 rfl)) ?_ | refine QL.val rfl (fun w hs => run_load1 ty9 rfl (hs.c2 rfl)) ?_ | refine QL.val rfl (fun w hs => run_load1 ty9 rfl (hs.c3 rfl)) ?_ | refine QL.val rfl (fun w hs => run_load1 ty9 rfl (hs.c4 rfl)) ?_ | refine QL.val rfl (fun w hs => run_load1 ty9 rfl (hs.c5 rfl)) ?_ | refine QL.val rfl (fun w hs => run_load1 ty9 rfl (hs.c0 rfl)) ?_
          refine QL.val rfl (fun w hs => run_bT (run_strNe rfl rfl) (by exact hn)) ?_
          refine QL.nil (fun w hs => ?_)
          repeat (first | refine CW.seq ?_ | refine CW.block ?_ | refine CW.skip ?_ | refine CW.exit ?_ | refine CW.condT rfl ?_ | refine CW.condF rfl ?_)
          refine CW.reg ?_
          refine WL.val rfl (run_move) ?_
          refine WL.val rfl (run_move) ?_
          refine WL.val rfl (run_move) ?_
          first | refine WL.val rfl (run_ixSlN Try.underlying22 ty48 rfl rfl (by omega)) ?_ | refine WL.val rfl (run_ixSl Try.underlying22 ty48 rfl rfl (by omega)) ?_
          refine WL.val rfl (run_loadN ty48 rfl hyl (hax hs)) ?_
          refine WL.buildSlice (cs := (l[k]).cells) Try.underlying22 ty48 rfl (by decide) rfl (filled1 hyl rfl) rfl hs (fun b44 w hs => ?_)
          have hsl : Sl w 34 (.slice (some ⟨b44, 0, none⟩) 1 1) 1 (l[k]).cells := .own1 hs (by rw [hyl])
          refine WL.append Try.underlying22 Try.underlying22 ty48 rfl (by decide) rfl rfl (hu2) ((Step.append_comm (L1 := [_, _]) hs)) (hsl) ((l[k]).cells1) (by first | omega | (simp only [List.length_append, List.length_cons, List.length_nil]; omega)) rfl (fun v45 Lv45 w hv45 hs => ?_)
          refine WL.val rfl (run_assign) ?_
          refine WL.nil ?_
          repeat (first | refine CW.seq ?_ | refine CW.block ?_ | refine CW.skip ?_ | refine CW.exit ?_ | refine CW.condT rfl ?_ | refine CW.condF rfl ?_)
          refine CW.reg ?_
          refine WL.val rfl (run_move) ?_
          refine WL.val rfl (run_add (c := ((k + 1 : Nat) : Int)) rfl rfl (by omega) (by omega)) ?_
          refine WL.val rfl (run_assign) ?_
          refine WL.nil ?_
          repeat (first | refine CW.seq ?_ | refine CW.block ?_ | refine CW.skip ?_ | refine CW.exit ?_)
          refine (show _ ∧ _ from ⟨rfl, _, ?_, k + 1, out2 ++ [l[k]], _, _, _, by omega, rfl, hw, by simp; omega, hoo2.append (Oks.one hok), ?_, Step.tail (Step.append_comm hs), rfl, rfl, rfl, rfl, rfl, trivial⟩)
          · omega
          · rw [List.length_append, rows_append, rows_one]
            exact hv45
      | false =>
        cases hb : Op.bytesLess (l[k]).name x.name with
        | true =>
          rw [if_neg (by simp [hb]), List.nil_append, hb, Bool.false_or, Bool.not_true] at hw
          repeat (first | refine CW.seq ?_ | refine CW.block ?_ | refine CW.skip ?_ | refine CW.exit ?_ | refine CW.condT rfl ?_ | refine CW.condF rfl ?_)
          refine CW.quiet mixedP (by kernel_rfl) hs ?_
          refine QL.val rfl (fun w hs => run_move) ?_
          first | refine QL.val rfl (fun w hs => run_notB rfl) ?_ | refine QL.val rfl (fun w hs => run_not rfl) ?_
          refine QL.val rfl (fun w hs => run_move) ?_
          refine QL.yes rfl rfl rfl ?_
          refine QL.val rfl (fun w hs => run_field (o' := 0) Try.underlying48 rfl ty9 rfl rfl rfl) ?_
          refine QL.yes rfl rfl rfl ?_
          first | refine QL.val rfl (fun w hs => run_load1 ty9 rfl (hs.c0 rfl)) ?_ | refine QL.val rfl (fun w hs => run_load1 ty9 rfl (hs.c1 rfl)) ?_ | refine QL.val rfl (fun w hs => run_load1 ty9 rfl (hs.c2 rfl)) ?_ | refine QL.val rfl (fun w hs => run_load1 ty9 rfl (hs.c3 rfl)) ?_ | refine QL.val rfl (fun w hs => run_load1 ty9 rfl (hs.c4 rfl)) ?_ | refine QL.val rfl (fun w hs => run_load1 ty9 rfl (hs.c5 rfl)) ?_ | refine QL.val rfl (fun w hs => run_load1 ty9 rfl (hs.c0 rfl)) ?_
          refine QL.yes rfl rfl rfl ?_
          refine QL.val rfl (fun w hs => run_move) ?_
          refine QL.yes rfl rfl rfl ?_
          refine QL.val rfl (fun w hs => run_move) ?_
          refine QL.yes rfl rfl rfl ?_
          first | refine QL.val rfl (fun w hs => run_ixSlN Try.underlying22 ty48 rfl rfl (by omega)) ?_ | refine QL.val rfl (fun w hs => run_ixSl Try.underlying22 ty48 rfl rfl (by omega)) ?_
          refine QL.yes rfl rfl rfl ?_
          refine QL.val rfl (fun w hs => run_field (o' := 0) Try.underlying48 rfl ty9 rfl rfl rfl) ?_
          refine QL.yes rfl rfl rfl ?_
          refine QL.val rfl (fun w hs => run_load1 ty9 rfl ((hax hs).cell (j := 0) rfl)) ?_
          refine QL.yes rfl rfl rfl ?_
          refine QL.enter rfl (fun w => run_call en59 rfl rfl) (fun w hs => above_spec hb _ hx.2.2.2 hok.2.2.2) ?_
          refine QL.yes rfl rfl rfl ?_
          first | refine QL.val rfl (fun w hs => run_notB rfl) ?_ | refine QL.val rfl (fun w hs => run_not rfl) ?_
          first | refine QL.val rfl (fun w hs => run_pickT rfl) ?_ | refine QL.val rfl (fun w hs => run_pickF rfl) ?_
          refine QL.nil (fun w hs => ?_)
          have hobt : ∃ out2, out2 = out := ⟨_, rfl⟩
          obtain ⟨out2, ho2⟩ := hobt
          subst ho2
          have hoo2 := hoo
          have hu2 := hu
          have hol2 : out2.length ≤ 2 * k + 1 := by omega
          by_cases hn : (l[k]).name = x.name
          · rw [if_neg (by simpa using hn), List.nil_append] at hw
            repeat (first | refine CW.seq ?_ | refine CW.block ?_ | refine CW.skip ?_ | refine CW.exit ?_ | refine CW.condT rfl ?_ | refine CW.condF rfl ?_)
            refine CW.quiet mixedP (by kernel_rfl) hs ?_
            refine QL.val rfl (fun w hs => run_move) ?_
            refine QL.val rfl (fun w hs => run_move) ?_
            first | refine QL.val rfl (fun w hs => run_ixSlN Try.underlying22 ty48 rfl rfl (by omega)) ?_ | refine QL.val rfl (fun w hs => run_ixSl Try.underlying22 ty48 rfl rfl (by omega)) ?_
            refine QL.val rfl (fun w hs => run_field (o' := 0) Try.underlying48 rfl ty9 rfl rfl rfl) ?_
            refine QL.val rfl (fun w hs => run_load1 ty9 rfl ((hax hs).cell (j := 0) rfl)) ?_
            refine QL.val rfl (fun w hs => run_field (o' := 0) Try.underlying48 rfl ty9 rfl rfl rfl) ?_
            first | refine QL.val rfl (fun w hs => run_load1 ty9 rfl (hs.c0 rfl)) ?_ | refine QL.val rfl (fun w hs => run_load1 ty9 rfl (hs.c1 rfl)) ?_ | refine QL.val rfl (fun w hs => run_load1 ty9 rfl (hs.c2 rfl)) ?_ | refine QL.val rfl (fun w hs => run_load1 ty9 rfl (hs.c3 rfl)) ?_ | refine QL.val rfl (fun w hs => run_load1 ty9 rfl (hs.c4 rfl)) ?_ | refine QL.val rfl (fun w hs => run_load1 ty9 rfl (hs.c5 rfl)) ?_ | refine QL.val rfl (fun w hs => run_load1 ty9 rfl (hs.c0 rfl)) ?_
            refine QL.val rfl (fun w hs => run_bF (run_strNe rfl rfl) (by simpa using hn)) ?_
            refine QL.nil (fun w hs => ?_)
            repeat (first | refine CW.seq ?_ | refine CW.block ?_ | refine CW.skip ?_ | refine CW.exit ?_ | refine CW.condT rfl ?_ | refine CW.condF rfl ?_)
            refine CW.reg ?_
            refine WL.val rfl (run_move) ?_
            refine WL.val rfl (run_add (c := ((k + 1 : Nat) : Int)) rfl rfl (by omega) (by omega)) ?_
            refine WL.val rfl (run_assign) ?_
            refine WL.nil ?_
            repeat (first | refine CW.seq ?_ | refine CW.block ?_ | refine CW.skip ?_ | refine CW.exit ?_)
            refine (show _ ∧ _ from ⟨rfl, _, ?_, k + 1, out2, _, _, _, by omega, rfl, hw, by omega, hoo2, hu2, hs, rfl, rfl, rfl, rfl, rfl, trivial⟩)
            omega
          · rw [if_pos hn, ← List.append_assoc] at hw
            repeat (first | refine CW.seq ?_ | refine CW.block ?_ | refine CW.skip ?_ | refine CW.exit ?_ | refine CW.condT rfl ?_ | refine CW.condF rfl ?_)
            refine CW.quiet mixedP (by kernel_rfl) hs ?_
            refine QL.val rfl (fun w hs => run_move) ?_
            refine QL.val rfl (fun w hs => run_move) ?_
            first | refine QL.val rfl (fun w hs => run_ixSlN Try.underlying22 ty48 rfl rfl (by omega)) ?_ | refine QL.val rfl (fun w hs => run_ixSl Try.underlying22 ty48 rfl rfl (by omega)) ?_
            refine QL.val rfl (fun w hs => run_field (o' := 0) Try.underlying48 rfl ty9 rfl rfl rfl) ?_
            refine QL.val rfl (fun w hs => run_load1 ty9 rfl ((hax hs).cell (j := 0) rfl)) ?_
            refine QL.val rfl (fun w hs => run_field (o' := 0) Try.underlying48 rfl ty9 rfl rfl rfl) ?_
            first | refine QL.val rfl (fun w hs => run_load1 ty9 rfl (hs.c0 rfl)) ?_ | refine QL.val rfl (fun w hs => run_load1 ty9 rfl (hs.c1 rfl)) ?_ | refine QL.val rfl (fun w hs => run_load1 ty9 rfl (hs.c2 rfl)) ?_ | refine QL.val rfl (fun w hs => run_load1 ty9 rfl (hs.c3 rfl)) ?_ | refine QL.val rfl (fun w hs => run_load1 ty9 rfl (hs.c4 rfl)) ?_ | refine QL.val rfl (fun w hs => run_load1 ty9 rfl (hs.c5 rfl)) ?_ | refine QL.val rfl (fun w hs => run_load1 ty9 rfl (hs.c0 rfl)) ?_
            refine QL.val rfl (fun w hs => run_bT (run_strNe rfl rfl) (by exact hn)) ?_
            refine QL.nil (fun w hs => ?_)
            repeat (first | refine CW.seq ?_ | refine CW.block ?_ | refine CW.skip ?_ | refine CW.exit ?_ | refine CW.condT rfl ?_ | refine CW.condF rfl ?_)
            refine CW.reg ?_
            refine WL.val rfl (run_move) ?_
            refine WL.val rfl (run_move) ?_
            refine WL.val rfl (run_move) ?_
            first | refine WL.val rfl (run_ixSlN Try.underlying22 ty48 rfl rfl (by omega)) ?_ | refine WL.val rfl (run_ixSl Try.underlying22 ty48 rfl rfl (by omega)) ?_
            refine WL.val rfl (run_loadN ty48 rfl hyl (hax hs)) ?_
            refine WL.buildSlice (cs := (l[k]).cells) Try.underlying22 ty48 rfl (by decide) rfl (filled1 hyl rfl) rfl hs (fun b44 w hs => ?_)
            have hsl : Sl w 34 (.slice (some ⟨b44, 0, none⟩) 1 1) 1 (l[k]).cells := .own1 hs (by rw [hyl])
            refine WL.append Try.underlying22 Try.underlying22 ty48 rfl (by decide) rfl rfl (hu2) ((Step.append_comm (L1 := [_, _]) hs)) (hsl) ((l[k]).cells1) (by first | omega | (simp only [List.length_append, List.length_cons, List.length_nil]; omega)) rfl (fun v45 Lv45 w hv45 hs => ?_)
            refine WL.val rfl (run_assign) ?_
            refine WL.nil ?_
            repeat (first | refine CW.seq ?_ | refine CW.block ?_ | refine CW.skip ?_ | refine CW.exit ?_ | refine CW.condT rfl ?_ | refine CW.condF rfl ?_)
            refine CW.reg ?_
            refine WL.val rfl (run_move) ?_
            refine WL.val rfl (run_add (c := ((k + 1 : Nat) : Int)) rfl rfl (by omega) (by omega)) ?_
            refine WL.val rfl (run_assign) ?_
            refine WL.nil ?_
            repeat (first | refine CW.seq ?_ | refine CW.block ?_ | refine CW.skip ?_ | refine CW.exit ?_)
            refine (show _ ∧ _ from ⟨rfl, _, ?_, k + 1, out2 ++ [l[k]], _, _, _, by omega, rfl, hw, by simp; omega, hoo2.append (Oks.one hok), ?_, Step.tail (Step.append_comm hs), rfl, rfl, rfl, rfl, rfl, trivial⟩)
            · omega
            · rw [List.length_append, rows_append, rows_one]
              exact hv45
        | false =>
          rw [if_pos ⟨rfl, hb⟩, hb, Bool.false_or, Bool.not_false, List.append_assoc, ← List.append_assoc] at hw
          repeat (first | refine CW.seq ?_ | refine CW.block ?_ | refine CW.skip ?_ | refine CW.exit ?_ | refine CW.condT rfl ?_ | refine CW.condF rfl ?_)
          refine CW.quiet mixedP (by kernel_rfl) hs ?_
          refine QL.val rfl (fun w hs => run_move) ?_
          first | refine QL.val rfl (fun w hs => run_notB rfl) ?_ | refine QL.val rfl (fun w hs => run_not rfl) ?_
          refine QL.val rfl (fun w hs => run_move) ?_
          refine QL.yes rfl rfl rfl ?_
          refine QL.val rfl (fun w hs => run_field (o' := 0) Try.underlying48 rfl ty9 rfl rfl rfl) ?_
          refine QL.yes rfl rfl rfl ?_
          first | refine QL.val rfl (fun w hs => run_load1 ty9 rfl (hs.c0 rfl)) ?_ | refine QL.val rfl (fun w hs => run_load1 ty9 rfl (hs.c1 rfl)) ?_ | refine QL.val rfl (fun w hs => run_load1 ty9 rfl (hs.c2 rfl)) ?_ | refine QL.val rfl (fun w hs => run_load1 ty9 rfl (hs.c3 rfl)) ?_ | refine QL.val rfl (fun w hs => run_load1 ty9 rfl (hs.c4 rfl)) ?_ | refine QL.val rfl (fun w hs => run_load1 ty9 rfl (hs.c5 rfl)) ?_ | refine QL.val rfl (fun w hs => run_load1 ty9 rfl (hs.c0 rfl)) ?_
          refine QL.yes rfl rfl rfl ?_
          refine QL.val rfl (fun w hs => run_move) ?_
          refine QL.yes rfl rfl rfl ?_
          refine QL.val rfl (fun w hs => run_move) ?_
          refine QL.yes rfl rfl rfl ?_
          first | refine QL.val rfl (fun w hs => run_ixSlN Try.underlying22 ty48 rfl rfl (by omega)) ?_ | refine QL.val rfl (fun w hs => run_ixSl Try.underlying22 ty48 rfl rfl (by omega)) ?_
          refine QL.yes rfl rfl rfl ?_
          refine QL.val rfl (fun w hs => run_field (o' := 0) Try.underlying48 rfl ty9 rfl rfl rfl) ?_
          refine QL.yes rfl rfl rfl ?_
          refine QL.val rfl (fun w hs => run_load1 ty9 rfl ((hax hs).cell (j := 0) rfl)) ?_
          refine QL.yes rfl rfl rfl ?_
          refine QL.enter rfl (fun w => run_call en59 rfl rfl) (fun w hs => above_spec hb _ hx.2.2.2 hok.2.2.2) ?_
          refine QL.yes rfl rfl rfl ?_
          first | refine QL.val rfl (fun w hs => run_notB rfl) ?_ | refine QL.val rfl (fun w hs => run_not rfl) ?_
          first | refine QL.val rfl (fun w hs => run_pickT rfl) ?_ | refine QL.val rfl (fun w hs => run_pickF rfl) ?_
          refine QL.nil (fun w hs => ?_)
          repeat (first | refine CW.seq ?_ | refine CW.block ?_ | refine CW.skip ?_ | refine CW.exit ?_ | refine CW.condT rfl ?_ | refine CW.condF rfl ?_)
          refine CW.reg ?_
          refine WL.val rfl (run_move) ?_
          refine WL.val rfl (run_loadN ty48 rfl hxl hs.a0) ?_
          refine WL.buildSlice (cs := x.cells) Try.underlying22 ty48 rfl (by decide) rfl (filled1 hxl rfl) rfl hs (fun b29 w hs => ?_)
          have hsl : Sl w 34 (.slice (some ⟨b29, 0, none⟩) 1 1) 1 x.cells := .own1 hs (by rw [hxl])
          refine WL.append Try.underlying22 Try.underlying22 ty48 rfl (by decide) rfl rfl (hu) ((Step.append_comm (L1 := [_, _]) hs)) (hsl) (x.cells1) (by first | omega | (simp only [List.length_append, List.length_cons, List.length_nil]; omega)) rfl (fun v30 Lv30 w hv30 hs => ?_)
          refine WL.val rfl (run_assign) ?_
          refine WL.nil ?_
          repeat (first | refine CW.seq ?_ | refine CW.block ?_ | refine CW.skip ?_ | refine CW.exit ?_ | refine CW.condT rfl ?_ | refine CW.condF rfl ?_)
          refine CW.reg ?_
          refine WL.val rfl (run_assign) ?_
          refine WL.nil ?_
          have hs2 := Step.tail (Step.append_comm hs)
          have hs := hs2
          have hobt : ∃ out2, out2 = out ++ [x] := ⟨_, rfl⟩
          obtain ⟨out2, ho2⟩ := hobt
          have hoo2 : Oks out2 := by rw [ho2]; exact hoo.append (Oks.one hx)
          have hu2 : OwnSl 48 34 v30 out2.length (rows out2) Lv30 := by rw [ho2, List.length_append, rows_append, rows_one]; exact hv30
          have hol2 : out2.length ≤ 2 * k + 1 := by rw [ho2]; simp; omega
          rw [← ho2] at hw
          by_cases hn : (l[k]).name = x.name
          · rw [if_neg (by simpa using hn), List.nil_append] at hw
            repeat (first | refine CW.seq ?_ | refine CW.block ?_ | refine CW.skip ?_ | refine CW.exit ?_ | refine CW.condT rfl ?_ | refine CW.condF rfl ?_)
            refine CW.quiet mixedP (by kernel_rfl) hs ?_
            refine QL.val rfl (fun w hs => run_move) ?_
            refine QL.val rfl (fun w hs => run_move) ?_
            first | refine QL.val rfl (fun w hs => run_ixSlN Try.underlying22 ty48 rfl rfl (by omega)) ?_ | refine QL.val rfl (fun w hs => run_ixSl Try.underlying22 ty48 rfl rfl (by omega)) ?_
            refine QL.val rfl (fun w hs => run_field (o' := 0) Try.underlying48 rfl ty9 rfl rfl rfl) ?_
            refine QL.val rfl (fun w hs => run_load1 ty9 rfl ((hax hs).cell (j := 0) rfl)) ?_
            refine QL.val rfl (fun w hs => run_field (o' := 0) Try.underlying48 rfl ty9 rfl rfl rfl) ?_
            first | refine QL.val rfl (fun w hs => run_load1 ty9 rfl (hs.c0 rfl)) ?_ | refine QL.val rfl (fun w hs => run_load1 ty9 rfl (hs.c1 rfl)) ?_ | refine QL.val rfl (fun w hs => run_load1 ty9 rfl (hs.c2 rfl)) ?_ | refine QL.val rfl (fun w hs => run_load1 ty9 rfl (hs.c3 rfl)) ?_ | refine QL.val rfl (fun w hs => run_load1 ty9 rfl (hs.c4 rfl)) ?_ | refine QL.val rfl (fun w hs => run_load1 ty9 rfl (hs.c5 rfl)) ?_ | refine QL.val rfl (fun w hs => run_load1 ty9 rfl (hs.c0 rfl)) ?_
            refine QL.val rfl (fun w hs => run_bF (run_strNe rfl rfl) (by simpa using hn)) ?_
            refine QL.nil (fun w hs => ?_)
            repeat (first | refine CW.seq ?_ | refine CW.block ?_ | refine CW.skip ?_ | refine CW.exit ?_ | refine CW.condT rfl ?_ | refine CW.condF rfl ?_)
            refine CW.reg ?_
            refine WL.val rfl (run_move) ?_
            refine WL.val rfl (run_add (c := ((k + 1 : Nat) : Int)) rfl rfl (by omega) (by omega)) ?_
            refine WL.val rfl (run_assign) ?_
            refine WL.nil ?_
            repeat (first | refine CW.seq ?_ | refine CW.block ?_ | refine CW.skip ?_ | refine CW.exit ?_)
            refine (show _ ∧ _ from ⟨rfl, _, ?_, k + 1, out2, _, _, _, by omega, rfl, hw, by omega, hoo2, hu2, hs, rfl, rfl, rfl, rfl, rfl, trivial⟩)
            omega
          · rw [if_pos hn, ← List.append_assoc] at hw
            repeat (first | refine CW.seq ?_ | refine CW.block ?_ | refine CW.skip ?_ | refine CW.exit ?_ | refine CW.condT rfl ?_ | refine CW.condF rfl ?_)
            refine CW.quiet mixedP (by kernel_rfl) hs ?_
            refine QL.val rfl (fun w hs => run_move) ?_
            refine QL.val rfl (fun w hs => run_move) ?_
            first | refine QL.val rfl (fun w hs => run_ixSlN Try.underlying22 ty48 rfl rfl (by omega)) ?_ | refine QL.val rfl (fun w hs => run_ixSl Try.underlying22 ty48 rfl rfl (by omega)) ?_
            refine QL.val rfl (fun w hs => run_field (o' := 0) Try.underlying48 rfl ty9 rfl rfl rfl) ?_
            refine QL.val rfl (fun w hs => run_load1 ty9 rfl ((hax hs).cell (j := 0) rfl)) ?_
            refine QL.val rfl (fun w hs => run_field (o' := 0) Try.underlying48 rfl ty9 rfl rfl rfl) ?_
            first | refine QL.val rfl (fun w hs => run_load1 ty9 rfl (hs.c0 rfl)) ?_ | refine QL.val rfl (fun w hs => run_load1 ty9 rfl (hs.c1 rfl)) ?_ | refine QL.val rfl (fun w hs => run_load1 ty9 rfl (hs.c2 rfl)) ?_ | refine QL.val rfl (fun w hs => run_load1 ty9 rfl (hs.c3 rfl)) ?_ | refine QL.val rfl (fun w hs => run_load1 ty9 rfl (hs.c4 rfl)) ?_ | refine QL.val rfl (fun w hs => run_load1 ty9 rfl (hs.c5 rfl)) ?_ | refine QL.val rfl (fun w hs => run_load1 ty9 rfl (hs.c0 rfl)) ?_
            refine QL.val rfl (fun w hs => run_bT (run_strNe rfl rfl) (by exact hn)) ?_
            refine QL.nil (fun w hs => ?_)
            repeat (first | refine CW.seq ?_ | refine CW.block ?_ | refine CW.skip ?_ | refine CW.exit ?_ | refine CW.condT rfl ?_ | refine CW.condF rfl ?_)
            refine CW.reg ?_
            refine WL.val rfl (run_move) ?_
            refine WL.val rfl (run_move) ?_
            refine WL.val rfl (run_move) ?_
            first | refine WL.val rfl (run_ixSlN Try.underlying22 ty48 rfl rfl (by omega)) ?_ | refine WL.val rfl (run_ixSl Try.underlying22 ty48 rfl rfl (by omega)) ?_
            refine WL.val rfl (run_loadN ty48 rfl hyl (hax hs)) ?_
            refine WL.buildSlice (cs := (l[k]).cells) Try.underlying22 ty48 rfl (by decide) rfl (filled1 hyl rfl) rfl hs (fun b44 w hs => ?_)
            have hsl : Sl w 34 (.slice (some ⟨b44, 0, none⟩) 1 1) 1 (l[k]).cells := .own1 hs (by rw [hyl])
            refine WL.append Try.underlying22 Try.underlying22 ty48 rfl (by decide) rfl rfl (hu2) ((Step.append_comm (L1 := [_, _]) hs)) (hsl) ((l[k]).cells1) (by first | omega | (simp only [List.length_append, List.length_cons, List.length_nil]; omega)) rfl (fun v45 Lv45 w hv45 hs => ?_)
            refine WL.val rfl (run_assign) ?_
            refine WL.nil ?_
            repeat (first | refine CW.seq ?_ | refine CW.block ?_ | refine CW.skip ?_ | refine CW.exit ?_ | refine CW.condT rfl ?_ | refine CW.condF rfl ?_)
            refine CW.reg ?_
            refine WL.val rfl (run_move) ?_
            refine WL.val rfl (run_add (c := ((k + 1 : Nat) : Int)) rfl rfl (by omega) (by omega)) ?_
            refine WL.val rfl (run_assign) ?_
            refine WL.nil ?_
            repeat (first | refine CW.seq ?_ | refine CW.block ?_ | refine CW.skip ?_ | refine CW.exit ?_)
            refine (show _ ∧ _ from ⟨rfl, _, ?_, k + 1, out2 ++ [l[k]], _, _, _, by omega, rfl, hw, by simp; omega, hoo2.append (Oks.one hok), ?_, Step.tail (Step.append_comm hs), rfl, rfl, rfl, rfl, rfl, trivial⟩)
            · omega
            · rw [List.length_append, rows_append, rows_one]
              exact hv45
    · obtain rfl : k = l.length := by omega
      rw [List.drop_length, withR] at hw
      cases put with
      | true =>
        rw [if_pos rfl, List.append_nil] at hw
        repeat (first | refine CW.seq ?_ | refine CW.block ?_ | refine CW.skip ?_ | refine CW.exit ?_ | refine CW.condT rfl ?_ | refine CW.condF rfl ?_)
        refine CW.reg ?_
        refine WL.val rfl (run_move) ?_
        first | refine WL.val rfl (run_notB rfl) ?_ | refine WL.val rfl (run_not rfl) ?_
        refine WL.nil ?_
        repeat (first | refine CW.seq ?_ | refine CW.block ?_ | refine CW.skip ?_ | refine CW.exit ?_ | refine CW.condT rfl ?_ | refine CW.condF rfl ?_)
        refine CW.reg ?_
        refine WL.val rfl (run_move) ?_
        refine WL.val rfl (run_assign) ?_
        refine WL.nil ?_
        repeat (first | refine CW.seq ?_ | refine CW.block ?_ | refine CW.skip ?_ | refine CW.exit ?_ | refine CW.condT rfl ?_ | refine CW.condF rfl ?_)
        refine CW.ret ?_
        refine fin_ret1 rfl ?_
        rw [hw]
        exact ⟨u, Lu, rfl, hu, hoo, hs.tail⟩
      | false =>
        rw [if_neg (by simp)] at hw
        repeat (first | refine CW.seq ?_ | refine CW.block ?_ | refine CW.skip ?_ | refine CW.exit ?_ | refine CW.condT rfl ?_ | refine CW.condF rfl ?_)
        refine CW.reg ?_
        refine WL.val rfl (run_move) ?_
        first | refine WL.val rfl (run_notB rfl) ?_ | refine WL.val rfl (run_not rfl) ?_
        refine WL.nil ?_
        repeat (first | refine CW.seq ?_ | refine CW.block ?_ | refine CW.skip ?_ | refine CW.exit ?_ | refine CW.condT rfl ?_ | refine CW.condF rfl ?_)
        refine CW.reg ?_
        refine WL.val rfl (run_move) ?_
        refine WL.val rfl (run_loadN ty48 rfl hxl hs.a0) ?_
        refine WL.buildSlice (cs := x.cells) Try.underlying22 ty48 rfl (by decide) rfl (filled1 hxl rfl) rfl hs (fun b50 w hs => ?_)
        have hsl : Sl w 34 (.slice (some ⟨b50, 0, none⟩) 1 1) 1 x.cells := .own1 hs (by rw [hxl])
        refine WL.append Try.underlying22 Try.underlying22 ty48 rfl (by decide) rfl rfl (hu) ((Step.append_comm (L1 := [_, _]) hs)) (hsl) (x.cells1) (by first | omega | (simp only [List.length_append, List.length_cons, List.length_nil]; omega)) rfl (fun v51 Lv51 w hv51 hs => ?_)
        refine WL.val rfl (run_assign) ?_
        refine WL.nil ?_
        repeat (first | refine CW.seq ?_ | refine CW.block ?_ | refine CW.skip ?_ | refine CW.exit ?_ | refine CW.condT rfl ?_ | refine CW.condF rfl ?_)
        refine CW.reg ?_
        refine WL.val rfl (run_move) ?_
        refine WL.val rfl (run_assign) ?_
        refine WL.nil ?_
        repeat (first | refine CW.seq ?_ | refine CW.block ?_ | refine CW.skip ?_ | refine CW.exit ?_ | refine CW.condT rfl ?_ | refine CW.condF rfl ?_)
        refine CW.ret ?_
        refine fin_ret1 rfl ?_
        rw [hw]
        exact ⟨_, Lv51, rfl, by rw [List.length_append, rows_append, rows_one]; exact hv51, hoo.append (Oks.one hx), Step.dropR hs⟩
end Go.Gx
