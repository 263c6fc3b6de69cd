/- The document's Decode: it computes decE, decL. -/
import Derived.Test.YtkdmkjlchlcebaaRR3
import Derived.Test.YtkdmkjlchlcebaaKnown
namespace Go.Gx
open Go.Proofs
set_option linter.unusedVariables false
set_option linter.unusedSimpArgs false
set_option maxRecDepth 100000

theorem bld_rr (a : Option Addr) (m c : Nat) (w : World) : (Instr.build 85 #[(0, .slice a m c)]).run Try.prog w = .ok (.agg #[.slice a m c, .int .i64 0, .int .i64 0]) w := by kernel_rfl

def DecRes (bs : List UInt8) (w0 : World) (e : Ending) (w' : World) : Prop := ∃ u Lv, e = .returned (.tuple #[u, .int .i64 (decE bs)]) ∧ OwnSl 48 34 u (decL bs).length (rows (decL bs)) Lv ∧ Oks (decL bs) ∧ (decL bs).length ≤ 1024 ∧ Step [] Lv w0 w'
theorem DecRes.err {bs : List UInt8} {w0 w' : World} {L : List (Nat × Obj)} {er : Int} (he : decE bs = er) (hne : er ≠ 0) (hs : Step [] L w0 w') : DecRes bs w0 (.returned (.tuple #[.slice none 0 0, .int .i64 er])) w' := by
  have hl : decL bs = [] := by unfold decL; rw [if_neg (by rw [he]; exact hne)]
  unfold DecRes
  rw [he, hl]
  exact ⟨_, _, rfl, .nil _ _, Oks.nil, by simp, hs.clear⟩

theorem decodeR_at {bs : List UInt8} {v : Value} (w0 : World) (hv : Sl w0 1 v bs.length (u8s bs)) (hroom : Room v) (hlen : bs.length ≤ 9223372036854775807) :
    Calls Try.prog 20 #[v] w0 (DecRes bs w0) := by
  have hs : Step [] [] w0 w0 := Step.refl w0
  obtain ⟨a, c, rfl⟩ : ∃ a c, v = .slice a bs.length c := by
    have hobt := id hv
    obtain ⟨_, ⟨_, c, rfl, h0⟩ | ⟨b, off, c, rfl, _⟩⟩ := hobt
    · exact ⟨_, _, by rw [h0]⟩
    · exact ⟨_, _, rfl⟩
  by_cases hbig : 1048576 < bs.length
  · have he : decE bs = 2 := if_pos hbig
    refine calls (n := 64) Try.func20 rfl rfl rfl ?_
    repeat (first | refine CW.seq ?_ | refine CW.block ?_ | refine CW.skip ?_ | refine CW.label ?_ | refine CW.exit ?_ | refine CW.condT rfl ?_ | refine CW.condF rfl ?_)
    refine CW.reg ?_
    refine WL.val rfl (run_assign) ?_
    refine WL.val rfl (run_assign) ?_
    refine WL.nil ?_
    repeat (first | refine CW.seq ?_ | refine CW.block ?_ | refine CW.skip ?_ | refine CW.label ?_ | refine CW.exit ?_ | refine CW.condT rfl ?_ | refine CW.condF rfl ?_)
    refine CW.reg ?_
    refine WL.val rfl (run_move) ?_
    refine WL.val rfl (run_lenSl Try.underlying29 rfl) ?_
    refine WL.val rfl (run_bT (run_gtr rfl rfl) (by omega)) ?_
    refine WL.nil ?_
    repeat (first | refine CW.seq ?_ | refine CW.block ?_ | refine CW.skip ?_ | refine CW.label ?_ | refine CW.exit ?_ | refine CW.condT rfl ?_ | refine CW.condF rfl ?_)
    refine CW.reg ?_
    refine WL.val rfl (run_assign) ?_
    refine WL.val rfl (run_assign) ?_
    refine WL.nil ?_
    repeat (first | refine CW.seq ?_ | refine CW.block ?_ | refine CW.skip ?_ | refine CW.label ?_ | refine CW.exit ?_ | refine CW.condT rfl ?_ | refine CW.condF rfl ?_)
    refine CW.ret ?_
    refine fin_ret2 rfl ?_
    exact .err he (by decide) hs
  · have he : decE bs = (readP bs).1 := if_neg hbig
    have herr : ∀ {er : Int}, decP bs = .error er → decE bs = er := fun h => by rw [he]; unfold readP; rw [h]
    refine calls (n := 64) Try.func20 rfl rfl rfl ?_
    repeat (first | refine CW.seq ?_ | refine CW.block ?_ | refine CW.skip ?_ | refine CW.label ?_ | refine CW.exit ?_ | refine CW.condT rfl ?_ | refine CW.condF rfl ?_)
    refine CW.reg ?_
    refine WL.val rfl (run_assign) ?_
    refine WL.val rfl (run_assign) ?_
    refine WL.nil ?_
    repeat (first | refine CW.seq ?_ | refine CW.block ?_ | refine CW.skip ?_ | refine CW.label ?_ | refine CW.exit ?_ | refine CW.condT rfl ?_ | refine CW.condF rfl ?_)
    refine CW.reg ?_
    refine WL.val rfl (run_move) ?_
    refine WL.val rfl (run_lenSl Try.underlying29 rfl) ?_
    refine WL.val rfl (run_bF (run_gtr rfl rfl) (by omega)) ?_
    refine WL.nil ?_
    repeat (first | refine CW.seq ?_ | refine CW.block ?_ | refine CW.skip ?_ | refine CW.label ?_ | refine CW.exit ?_ | refine CW.condT rfl ?_ | refine CW.condF rfl ?_)
    refine CW.reg ?_
    refine WL.val rfl (run_move) ?_
    refine WL.val rfl (run_build rfl (bld_rr _ _ _ _)) ?_
    refine WL.box (cs := [.slice a bs.length c, .int .i64 0, .int .i64 0]) rfl rfl rfl hs (fun b16 w hs => ?_)
    refine WL.val rfl (run_assign) ?_
    refine WL.nil ?_
    generalize b16 = b at *
    have hout : bs = [] ∨ Outside (.slice a bs.length c) [b] := (Outside.newer hv hs (fun k hk => by simpa using hk)).imp (fun e => by simpa [u8s] using e) id
    replace hs : Step [] [RRB b (.slice a bs.length c) 0 0] w0 w := hs
    have rd : ∀ {w : World} {p : Nat} {L : List (Nat × Obj)}, Step [] (RRB b (.slice a bs.length c) p 0 :: L) w0 w → RrOk w b bs (.slice a bs.length c) p := fun h => ⟨Step.own (L1 := [_]) h, hv.step0 h.clear, hout, hroom, by omega⟩
    cases h1 : numP bs 0 with
    | error er =>
      have hne : er ≠ 0 := by rcases numP_err h1 with h | h <;> omega
      repeat (first | refine CW.seq ?_ | refine CW.block ?_ | refine CW.skip ?_ | refine CW.label ?_ | refine CW.exit ?_ | refine CW.condT rfl ?_ | refine CW.condF rfl ?_)
      refine CW.reg ?_
      refine WL.val rfl (run_move) ?_
      refine WL.enter rfl (run_call en51 rfl rfl) (readNum_at h1 _ (rd hs) (by omega)) ?_
      rintro e w ⟨rfl, hq⟩
      refine ⟨_, rfl, ?_⟩
      replace hs := Step.call (L1 := [_]) hs hq
      refine WL.alloc ty73 rfl hs (fun b5 w hs => ?_)
      first | refine WL.storeAll ty73 rfl rfl ((rfl)) (itemV_c1 rfl) hs (by first | rfl | assumption) (fun w hs => ?_) | refine WL.storeAll_1 ty73 rfl rfl ((rfl)) (itemV_c1 rfl) hs (by first | rfl | assumption) (fun w hs => ?_) | refine WL.storeAll_2 ty73 rfl rfl ((rfl)) (itemV_c1 rfl) hs (by first | rfl | assumption) (fun w hs => ?_) | refine WL.storeAll_3 ty73 rfl rfl ((rfl)) (itemV_c1 rfl) hs (by first | rfl | assumption) (fun w hs => ?_) | refine WL.storeAll_4 ty73 rfl rfl ((rfl)) (itemV_c1 rfl) hs (by first | rfl | assumption) (fun w hs => ?_) | refine WL.storeAll ty73 rfl rfl ((rfl)) (itemV_c1 rfl) hs (by first | rfl | assumption) (fun w hs => ?_)
      refine WL.nil ?_
      repeat (first | refine CW.seq ?_ | refine CW.block ?_ | refine CW.skip ?_ | refine CW.label ?_ | refine CW.exit ?_ | refine CW.condT rfl ?_ | refine CW.condF rfl ?_)
      refine CW.reg ?_
      refine WL.val rfl (run_move) ?_
      refine WL.val rfl (run_nilCheck rfl) ?_
      refine WL.val rfl (run_field (o' := 2) Try.underlying85 rfl ty3 rfl rfl rfl) ?_
      first | refine WL.val rfl (run_load1 ty3 rfl (hs.c0 rfl)) ?_ | refine WL.val rfl (run_load1 ty3 rfl (hs.c1 rfl)) ?_ | refine WL.val rfl (run_load1 ty3 rfl (hs.c2 rfl)) ?_ | refine WL.val rfl (run_load1 ty3 rfl (hs.c3 rfl)) ?_ | refine WL.val rfl (run_load1 ty3 rfl (hs.c4 rfl)) ?_ | refine WL.val rfl (run_load1 ty3 rfl (hs.c5 rfl)) ?_ | refine WL.val rfl (run_load1 ty3 rfl (hs.c0 rfl)) ?_
      refine WL.val rfl (run_bT (run_neq rfl rfl) (by exact hne)) ?_
      refine WL.nil ?_
      repeat (first | refine CW.seq ?_ | refine CW.block ?_ | refine CW.skip ?_ | refine CW.label ?_ | refine CW.exit ?_ | refine CW.condT rfl ?_ | refine CW.condF rfl ?_)
      refine CW.quiet mixedP (by kernel_rfl) hs ?_
      refine QL.val rfl (fun w hs => run_move) ?_
      refine QL.val rfl (fun w hs => run_nilCheck rfl) ?_
      refine QL.val rfl (fun w hs => run_field (o' := 2) Try.underlying85 rfl ty3 rfl rfl rfl) ?_
      first | refine QL.val rfl (fun w hs => run_load1 ty3 rfl (hs.c0 rfl)) ?_ | refine QL.val rfl (fun w hs => run_load1 ty3 rfl (hs.c1 rfl)) ?_ | refine QL.val rfl (fun w hs => run_load1 ty3 rfl (hs.c2 rfl)) ?_ | refine QL.val rfl (fun w hs => run_load1 ty3 rfl (hs.c3 rfl)) ?_ | refine QL.val rfl (fun w hs => run_load1 ty3 rfl (hs.c4 rfl)) ?_ | refine QL.val rfl (fun w hs => run_load1 ty3 rfl (hs.c5 rfl)) ?_ | refine QL.val rfl (fun w hs => run_load1 ty3 rfl (hs.c0 rfl)) ?_
      refine QL.val rfl (fun w hs => run_assign) ?_
      refine QL.val rfl (fun w hs => run_assign) ?_
      refine QL.nil (fun w hs => ?_)
      repeat (first | refine CW.seq ?_ | refine CW.block ?_ | refine CW.skip ?_ | refine CW.label ?_ | refine CW.exit ?_ | refine CW.condT rfl ?_ | refine CW.condF rfl ?_)
      refine CW.ret ?_
      refine fin_ret2 rfl ?_
      exact .err (herr (by unfold decP; rw [h1])) hne hs
    | ok tp =>
      obtain ⟨t, p1⟩ := tp
      have hb1 := numP_ok h1
      repeat (first | refine CW.seq ?_ | refine CW.block ?_ | refine CW.skip ?_ | refine CW.label ?_ | refine CW.exit ?_ | refine CW.condT rfl ?_ | refine CW.condF rfl ?_)
      refine CW.reg ?_
      refine WL.val rfl (run_move) ?_
      refine WL.enter rfl (run_call en51 rfl rfl) (readNum_at h1 _ (rd hs) (by omega)) ?_
      rintro e w ⟨rfl, hq⟩
      refine ⟨_, rfl, ?_⟩
      replace hs := Step.call (L1 := [_]) hs hq
      refine WL.alloc ty73 rfl hs (fun b5 w hs => ?_)
      first | refine WL.storeAll ty73 rfl rfl ((rfl)) (itemV_c1 rfl) hs (by first | rfl | assumption) (fun w hs => ?_) | refine WL.storeAll_1 ty73 rfl rfl ((rfl)) (itemV_c1 rfl) hs (by first | rfl | assumption) (fun w hs => ?_) | refine WL.storeAll_2 ty73 rfl rfl ((rfl)) (itemV_c1 rfl) hs (by first | rfl | assumption) (fun w hs => ?_) | refine WL.storeAll_3 ty73 rfl rfl ((rfl)) (itemV_c1 rfl) hs (by first | rfl | assumption) (fun w hs => ?_) | refine WL.storeAll_4 ty73 rfl rfl ((rfl)) (itemV_c1 rfl) hs (by first | rfl | assumption) (fun w hs => ?_) | refine WL.storeAll ty73 rfl rfl ((rfl)) (itemV_c1 rfl) hs (by first | rfl | assumption) (fun w hs => ?_)
      refine WL.nil ?_
      repeat (first | refine CW.seq ?_ | refine CW.block ?_ | refine CW.skip ?_ | refine CW.label ?_ | refine CW.exit ?_ | refine CW.condT rfl ?_ | refine CW.condF rfl ?_)
      refine CW.reg ?_
      refine WL.val rfl (run_move) ?_
      refine WL.val rfl (run_nilCheck rfl) ?_
      refine WL.val rfl (run_field (o' := 2) Try.underlying85 rfl ty3 rfl rfl rfl) ?_
      first | refine WL.val rfl (run_load1 ty3 rfl (hs.c0 rfl)) ?_ | refine WL.val rfl (run_load1 ty3 rfl (hs.c1 rfl)) ?_ | refine WL.val rfl (run_load1 ty3 rfl (hs.c2 rfl)) ?_ | refine WL.val rfl (run_load1 ty3 rfl (hs.c3 rfl)) ?_ | refine WL.val rfl (run_load1 ty3 rfl (hs.c4 rfl)) ?_ | refine WL.val rfl (run_load1 ty3 rfl (hs.c5 rfl)) ?_ | refine WL.val rfl (run_load1 ty3 rfl (hs.c0 rfl)) ?_
      refine WL.val rfl (run_bF (run_neq rfl rfl) (by decide)) ?_
      refine WL.nil ?_
      by_cases ht : t = 1
      · subst ht
        repeat (first | refine CW.seq ?_ | refine CW.block ?_ | refine CW.skip ?_ | refine CW.label ?_ | refine CW.exit ?_ | refine CW.condT rfl ?_ | refine CW.condF rfl ?_)
        refine CW.reg ?_
        refine WL.val rfl (run_field (o' := 1) Try.underlying73 rfl ty3 rfl rfl rfl) ?_
        first | refine WL.val rfl (run_load1 ty3 rfl (hs.c0 rfl)) ?_ | refine WL.val rfl (run_load1 ty3 rfl (hs.c1 rfl)) ?_ | refine WL.val rfl (run_load1 ty3 rfl (hs.c2 rfl)) ?_ | refine WL.val rfl (run_load1 ty3 rfl (hs.c3 rfl)) ?_ | refine WL.val rfl (run_load1 ty3 rfl (hs.c4 rfl)) ?_ | refine WL.val rfl (run_load1 ty3 rfl (hs.c5 rfl)) ?_ | refine WL.val rfl (run_load1 ty3 rfl (hs.c0 rfl)) ?_
        refine WL.val rfl (run_bF (run_neq rfl rfl) (by decide)) ?_
        refine WL.nil ?_
        replace hs : Step [] [RRB b (.slice a bs.length c) p1 0] w0 w := hs.tail
        cases h2 : mostP 1024 bs p1 with
        | error er =>
          have hne : er ≠ 0 := by
            unfold mostP at h2
            split at h2
            · rename_i h3; injection h2 with h; subst h; rcases numP_err h3 with h | h <;> omega
            · split at h2
              · injection h2 with h; omega
              · cases h2
          repeat (first | refine CW.seq ?_ | refine CW.block ?_ | refine CW.skip ?_ | refine CW.label ?_ | refine CW.exit ?_ | refine CW.condT rfl ?_ | refine CW.condF rfl ?_)
          refine CW.reg ?_
          refine WL.val rfl (run_move) ?_
          refine WL.enter rfl (run_call en52 rfl rfl) (mostR_at h2 _ (rd hs) hb1.1) ?_
          rintro e w ⟨rfl, hq⟩
          refine ⟨_, rfl, ?_⟩
          replace hs := Step.call (L1 := [_]) hs hq
          refine WL.val rfl (run_assign) ?_
          refine WL.nil ?_
          repeat (first | refine CW.seq ?_ | refine CW.block ?_ | refine CW.skip ?_ | refine CW.label ?_ | refine CW.exit ?_ | refine CW.condT rfl ?_ | refine CW.condF rfl ?_)
          refine CW.reg ?_
          refine WL.val rfl (run_move) ?_
          refine WL.val rfl (run_nilCheck rfl) ?_
          refine WL.val rfl (run_field (o' := 2) Try.underlying85 rfl ty3 rfl rfl rfl) ?_
          first | refine WL.val rfl (run_load1 ty3 rfl (hs.c0 rfl)) ?_ | refine WL.val rfl (run_load1 ty3 rfl (hs.c1 rfl)) ?_ | refine WL.val rfl (run_load1 ty3 rfl (hs.c2 rfl)) ?_ | refine WL.val rfl (run_load1 ty3 rfl (hs.c3 rfl)) ?_ | refine WL.val rfl (run_load1 ty3 rfl (hs.c4 rfl)) ?_ | refine WL.val rfl (run_load1 ty3 rfl (hs.c5 rfl)) ?_ | refine WL.val rfl (run_load1 ty3 rfl (hs.c0 rfl)) ?_
          refine WL.val rfl (run_bT (run_neq rfl rfl) (by exact hne)) ?_
          refine WL.nil ?_
          repeat (first | refine CW.seq ?_ | refine CW.block ?_ | refine CW.skip ?_ | refine CW.label ?_ | refine CW.exit ?_ | refine CW.condT rfl ?_ | refine CW.condF rfl ?_)
          refine CW.quiet mixedP (by kernel_rfl) hs ?_
          refine QL.val rfl (fun w hs => run_move) ?_
          refine QL.val rfl (fun w hs => run_nilCheck rfl) ?_
          refine QL.val rfl (fun w hs => run_field (o' := 2) Try.underlying85 rfl ty3 rfl rfl rfl) ?_
          first | refine QL.val rfl (fun w hs => run_load1 ty3 rfl (hs.c0 rfl)) ?_ | refine QL.val rfl (fun w hs => run_load1 ty3 rfl (hs.c1 rfl)) ?_ | refine QL.val rfl (fun w hs => run_load1 ty3 rfl (hs.c2 rfl)) ?_ | refine QL.val rfl (fun w hs => run_load1 ty3 rfl (hs.c3 rfl)) ?_ | refine QL.val rfl (fun w hs => run_load1 ty3 rfl (hs.c4 rfl)) ?_ | refine QL.val rfl (fun w hs => run_load1 ty3 rfl (hs.c5 rfl)) ?_ | refine QL.val rfl (fun w hs => run_load1 ty3 rfl (hs.c0 rfl)) ?_
          refine QL.val rfl (fun w hs => run_assign) ?_
          refine QL.val rfl (fun w hs => run_assign) ?_
          refine QL.nil (fun w hs => ?_)
          repeat (first | refine CW.seq ?_ | refine CW.block ?_ | refine CW.skip ?_ | refine CW.label ?_ | refine CW.exit ?_ | refine CW.condT rfl ?_ | refine CW.condF rfl ?_)
          refine CW.ret ?_
          refine fin_ret2 rfl ?_
          exact .err (herr (by unfold decP; rw [h1]; simp [h2])) hne hs
        | ok nq =>
          obtain ⟨n, q0⟩ := nq
          have hb2 := mostP_ok h2
          have hdec : decP bs = entsP bs n [] q0 := by unfold decP; rw [h1]; simp [h2]
          repeat (first | refine CW.seq ?_ | refine CW.block ?_ | refine CW.skip ?_ | refine CW.label ?_ | refine CW.exit ?_ | refine CW.condT rfl ?_ | refine CW.condF rfl ?_)
          refine CW.reg ?_
          refine WL.val rfl (run_move) ?_
          refine WL.enter rfl (run_call en52 rfl rfl) (mostR_at h2 _ (rd hs) hb1.1) ?_
          rintro e w ⟨rfl, hq⟩
          refine ⟨_, rfl, ?_⟩
          replace hs := Step.call (L1 := [_]) hs hq
          refine WL.val rfl (run_assign) ?_
          refine WL.nil ?_
          repeat (first | refine CW.seq ?_ | refine CW.block ?_ | refine CW.skip ?_ | refine CW.label ?_ | refine CW.exit ?_ | refine CW.condT rfl ?_ | refine CW.condF rfl ?_)
          refine CW.reg ?_
          refine WL.val rfl (run_move) ?_
          refine WL.val rfl (run_nilCheck rfl) ?_
          refine WL.val rfl (run_field (o' := 2) Try.underlying85 rfl ty3 rfl rfl rfl) ?_
          first | refine WL.val rfl (run_load1 ty3 rfl (hs.c0 rfl)) ?_ | refine WL.val rfl (run_load1 ty3 rfl (hs.c1 rfl)) ?_ | refine WL.val rfl (run_load1 ty3 rfl (hs.c2 rfl)) ?_ | refine WL.val rfl (run_load1 ty3 rfl (hs.c3 rfl)) ?_ | refine WL.val rfl (run_load1 ty3 rfl (hs.c4 rfl)) ?_ | refine WL.val rfl (run_load1 ty3 rfl (hs.c5 rfl)) ?_ | refine WL.val rfl (run_load1 ty3 rfl (hs.c0 rfl)) ?_
          refine WL.val rfl (run_bF (run_neq rfl rfl) (by decide)) ?_
          refine WL.nil ?_
          repeat (first | refine CW.seq ?_ | refine CW.block ?_ | refine CW.skip ?_ | refine CW.label ?_ | refine CW.exit ?_ | refine CW.condT rfl ?_ | refine CW.condF rfl ?_)
          refine CW.reg ?_
          refine WL.val rfl (run_assign) ?_
          refine WL.nil ?_
          repeat (first | refine CW.seq ?_ | refine CW.block ?_ | refine CW.skip ?_ | refine CW.label ?_ | refine CW.exit ?_ | refine CW.condT rfl ?_ | refine CW.condF rfl ?_)
          refine CW.reg ?_
          refine WL.val rfl (run_assign) ?_
          refine WL.nil ?_
          repeat (first | refine CW.seq ?_ | refine CW.block ?_ | refine CW.skip ?_ | refine CW.label ?_ | refine CW.exit ?_ | refine CW.condT rfl ?_ | refine CW.condF rfl ?_)
          refine CW.loop (fun m f w' => ∃ i l q v Lv, i ≤ n ∧ m = n - i ∧ q ≤ bs.length ∧ l.length = i ∧ decP bs = preR l (entsP bs (n - i) (lastN l) q) ∧ OwnSl 48 34 v l.length (rows l) Lv ∧ Oks l ∧ Step [] (RRB b (.slice a bs.length c) q 0 :: Lv) w0 w' ∧ Holds f [(4, .pointer (some ⟨b, 0, none⟩)), (6, .int .i64 n), (7, v), (8, .int .i64 i)]) (m := n) ?_ ?_
          · exact ⟨0, [], q0, _, [], by omega, by omega, hb2.1, rfl, by rw [preR_nil]; exact hdec, .nil _ _, Oks.nil, hs, rfl, rfl, rfl, rfl, trivial⟩
          · rintro m f w ⟨i, l, q, v, Lv, hi, rfl, hq0, hll, hr, hvo, hok, hs, hf⟩
            have hobt := hf.chain
            obtain ⟨g, rfl⟩ := hobt
            repeat (first | refine CW.seq ?_ | refine CW.block ?_ | refine CW.skip ?_ | refine CW.label ?_ | refine CW.exit ?_ | refine CW.condT rfl ?_ | refine CW.condF rfl ?_)
            refine CW.reg ?_
            refine WL.val rfl (run_move) ?_
            refine WL.val rfl (run_move) ?_
            refine WL.val rfl (run_lss rfl rfl) ?_
            refine WL.nil ?_
            repeat (first | refine CW.seq ?_ | refine CW.block ?_ | refine CW.skip ?_ | refine CW.label ?_ | refine CW.exit ?_)
            first | refine CW.condP rfl (fun h => ?_) (fun h => ?_) | refine CW.cond rfl (fun h => ?_) (fun h => ?_)
            · have hlt : i < n := by omega
              have hobt : ∃ j, n - i = j + 1 := ⟨n - i - 1, by omega⟩
              obtain ⟨j, hj⟩ := hobt
              rw [hj] at hr
              have hs' := Step.append_comm (L1 := [_]) hs
              have hes : Es w v l := hvo.es hok (by omega) hs'
              have hvout : Outside v [b] := hvo.outside fun p hp => hs'.disj p hp
              have hobt := hvo.form
              obtain ⟨va, vc, rfl⟩ := hobt
              cases h3 : entP (lastN l) bs q with
              | error er =>
                rw [entsP_stop l h3] at hr
                have hne := entP_err h3
                repeat (first | refine CW.seq ?_ | refine CW.block ?_ | refine CW.skip ?_ | refine CW.label ?_ | refine CW.exit ?_ | refine CW.condT rfl ?_ | refine CW.condF rfl ?_)
                refine CW.reg ?_
                refine WL.val rfl (run_move) ?_
                refine WL.val rfl (run_move) ?_
                refine WL.enter rfl (run_call en53 rfl rfl) (one_at h3 _ (rd hs) hq0 hes hvout) ?_
                rintro e w ⟨o, rfl, hq⟩
                refine ⟨_, rfl, ?_⟩
                replace hs := Step.call (L1 := [_]) hs hq
                refine WL.val rfl (run_move) ?_
                refine WL.val rfl (run_extract rfl rfl) ?_
                refine WL.val rfl (run_extract rfl rfl) ?_
                refine WL.alloc ty48 rfl hs (fun b9 w hs => ?_)
                first | refine WL.storeAll ty48 rfl rfl ((rfl)) (Ent.cells1 _) hs (by first | rfl | assumption) (fun w hs => ?_) | refine WL.storeAll_1 ty48 rfl rfl ((rfl)) (Ent.cells1 _) hs (by first | rfl | assumption) (fun w hs => ?_) | refine WL.storeAll_2 ty48 rfl rfl ((rfl)) (Ent.cells1 _) hs (by first | rfl | assumption) (fun w hs => ?_) | refine WL.storeAll_3 ty48 rfl rfl ((rfl)) (Ent.cells1 _) hs (by first | rfl | assumption) (fun w hs => ?_) | refine WL.storeAll_4 ty48 rfl rfl ((rfl)) (Ent.cells1 _) hs (by first | rfl | assumption) (fun w hs => ?_) | refine WL.storeAll ty48 rfl rfl ((rfl)) (Ent.cells1 _) hs (by first | rfl | assumption) (fun w hs => ?_)
                refine WL.val rfl (run_assign) ?_
                refine WL.nil ?_
                repeat (first | refine CW.seq ?_ | refine CW.block ?_ | refine CW.skip ?_ | refine CW.label ?_ | refine CW.exit ?_ | refine CW.condT rfl ?_ | refine CW.condF rfl ?_)
                refine CW.reg ?_
                refine WL.val rfl (run_move) ?_
                refine WL.val rfl (run_bT (run_neq rfl rfl) (by exact hne)) ?_
                refine WL.nil ?_
                repeat (first | refine CW.seq ?_ | refine CW.block ?_ | refine CW.skip ?_ | refine CW.label ?_ | refine CW.exit ?_ | refine CW.condT rfl ?_ | refine CW.condF rfl ?_)
                refine CW.reg ?_
                refine WL.val rfl (run_move) ?_
                refine WL.val rfl (run_assign) ?_
                refine WL.val rfl (run_assign) ?_
                refine WL.nil ?_
                repeat (first | refine CW.seq ?_ | refine CW.block ?_ | refine CW.skip ?_ | refine CW.label ?_ | refine CW.exit ?_ | refine CW.condT rfl ?_ | refine CW.condF rfl ?_)
                refine CW.ret ?_
                refine fin_ret2 rfl ?_
                exact .err (herr hr) hne hs
              | ok xq =>
                obtain ⟨x, q'⟩ := xq
                rw [entsP_step l h3] at hr
                have hxo := entP_ok (by omega) h3
                have hxl := Ent.cells_len hxo.1
                repeat (first | refine CW.seq ?_ | refine CW.block ?_ | refine CW.skip ?_ | refine CW.label ?_ | refine CW.exit ?_ | refine CW.condT rfl ?_ | refine CW.condF rfl ?_)
                refine CW.reg ?_
                refine WL.val rfl (run_move) ?_
                refine WL.val rfl (run_move) ?_
                refine WL.enter rfl (run_call en53 rfl rfl) (one_at h3 _ (rd hs) hq0 hes hvout) ?_
                rintro e w ⟨rfl, hq⟩
                refine ⟨_, rfl, ?_⟩
                replace hs := Step.call (L1 := [_]) hs hq
                refine WL.val rfl (run_move) ?_
                refine WL.val rfl (run_extract rfl rfl) ?_
                refine WL.val rfl (run_extract rfl rfl) ?_
                refine WL.alloc ty48 rfl hs (fun b9 w hs => ?_)
                first | refine WL.storeAll ty48 rfl rfl ((hxl)) (x.cells1) hs (by first | rfl | assumption) (fun w hs => ?_) | refine WL.storeAll_1 ty48 rfl rfl ((hxl)) (x.cells1) hs (by first | rfl | assumption) (fun w hs => ?_) | refine WL.storeAll_2 ty48 rfl rfl ((hxl)) (x.cells1) hs (by first | rfl | assumption) (fun w hs => ?_) | refine WL.storeAll_3 ty48 rfl rfl ((hxl)) (x.cells1) hs (by first | rfl | assumption) (fun w hs => ?_) | refine WL.storeAll_4 ty48 rfl rfl ((hxl)) (x.cells1) hs (by first | rfl | assumption) (fun w hs => ?_) | refine WL.storeAll ty48 rfl rfl ((hxl)) (x.cells1) hs (by first | rfl | assumption) (fun w hs => ?_)
                refine WL.val rfl (run_assign) ?_
                refine WL.nil ?_
                repeat (first | refine CW.seq ?_ | refine CW.block ?_ | refine CW.skip ?_ | refine CW.label ?_ | refine CW.exit ?_ | refine CW.condT rfl ?_ | refine CW.condF rfl ?_)
                refine CW.reg ?_
                refine WL.val rfl (run_move) ?_
                refine WL.val rfl (run_bF (run_neq rfl rfl) (by decide)) ?_
                refine WL.nil ?_
                repeat (first | refine CW.seq ?_ | refine CW.block ?_ | refine CW.skip ?_ | refine CW.label ?_ | refine CW.exit ?_ | refine CW.condT rfl ?_ | refine CW.condF rfl ?_)
                refine CW.reg ?_
                refine WL.val rfl (run_move) ?_
                first | refine WL.val rfl (run_loadN ty48 rfl (by first | rfl | assumption | (simp; done)) hs.a0) ?_ | refine WL.val rfl (run_loadN ty48 rfl (by first | rfl | assumption | (simp; done)) hs.a1) ?_ | refine WL.val rfl (run_loadN ty48 rfl (by first | rfl | assumption | (simp; done)) hs.a2) ?_ | refine WL.val rfl (run_loadN ty48 rfl (by first | rfl | assumption | (simp; done)) hs.a3) ?_ | refine WL.val rfl (run_loadN ty48 rfl (by first | rfl | assumption | (simp; done)) hs.a4) ?_ | refine WL.val rfl (run_loadN ty48 rfl (by first | rfl | assumption | (simp; done)) hs.a5) ?_ | refine WL.val rfl (run_loadN ty48 rfl (by first | rfl | assumption | (simp; done)) hs.a0) ?_
                refine WL.buildSlice (cs := x.cells) Try.underlying22 ty48 rfl (by decide) rfl (filled1 hxl rfl) rfl hs (fun b58 w hs => ?_)
                have hsl : Sl w 34 (.slice (some ⟨b58, 0, none⟩) 1 1) 1 x.cells := .own1 hs (by rw [hxl])
                refine WL.append Try.underlying22 Try.underlying22 ty48 rfl (by decide) rfl rfl (hvo) ((Step.append_comm (L1 := [_, _, _]) hs)) (hsl) (x.cells1) (by first | omega | (simp only [List.length_append, List.length_cons, List.length_nil]; omega)) rfl (fun v59 Lv59 w hv59 hs => ?_)
                refine WL.val rfl (run_assign) ?_
                refine WL.nil ?_
                replace hs := Step.tail (Step.tail (Step.append_comm hs))
                repeat (first | refine CW.seq ?_ | refine CW.block ?_ | refine CW.skip ?_ | refine CW.label ?_ | refine CW.exit ?_ | refine CW.condT rfl ?_ | refine CW.condF rfl ?_)
                refine CW.reg ?_
                refine WL.val rfl (run_move) ?_
                refine WL.val rfl (run_add (c := ((i + 1 : Nat) : Int)) rfl rfl (by omega) (by omega)) ?_
                refine WL.val rfl (run_assign) ?_
                refine WL.nil ?_
                repeat (first | refine CW.seq ?_ | refine CW.block ?_ | refine CW.skip ?_ | refine CW.label ?_ | refine CW.exit ?_)
                refine (show _ ∧ _ from ⟨rfl, _, ?_, i + 1, l ++ [x], q', _, _, by omega, rfl, hxo.2.1, ?_, ?_, ?_, hok.append (Oks.one hxo.1), hs, rfl, rfl, rfl, rfl, trivial⟩)
                · omega
                · simp [hll]
                · rw [hr, lastN_snoc, show n - (i + 1) = j by omega]
                · rw [List.length_append, rows_append, rows_one]
                  exact hv59
            · obtain rfl : i = n := by omega
              have hr2 : decP bs = .ok (l, q) := by
                rw [hr, show i - i = 0 by omega]
                simp [entsP, preR]
              by_cases hlt : q < bs.length
              · repeat (first | refine CW.seq ?_ | refine CW.block ?_ | refine CW.skip ?_ | refine CW.label ?_ | refine CW.exit ?_ | refine CW.condT rfl ?_ | refine CW.condF rfl ?_)
                refine CW.reg ?_
                refine WL.val rfl (run_move) ?_
                refine WL.enter rfl (run_call en54 rfl rfl) (leftR_at _ (rd hs) hq0) ?_
                rintro e w ⟨rfl, hq⟩
                refine ⟨_, rfl, ?_⟩
                replace hs := Step.call (L1 := [_]) hs hq
                refine WL.val rfl (run_bT (run_gtr rfl rfl) (by omega)) ?_
                refine WL.nil ?_
                repeat (first | refine CW.seq ?_ | refine CW.block ?_ | refine CW.skip ?_ | refine CW.label ?_ | refine CW.exit ?_ | refine CW.condT rfl ?_ | refine CW.condF rfl ?_)
                refine CW.reg ?_
                refine WL.val rfl (run_assign) ?_
                refine WL.val rfl (run_assign) ?_
                refine WL.nil ?_
                repeat (first | refine CW.seq ?_ | refine CW.block ?_ | refine CW.skip ?_ | refine CW.label ?_ | refine CW.exit ?_ | refine CW.condT rfl ?_ | refine CW.condF rfl ?_)
                refine CW.ret ?_
                refine fin_ret2 rfl ?_
                exact .err (by rw [he]; unfold readP; rw [hr2]; simp [hlt]) (by decide) hs
              · repeat (first | refine CW.seq ?_ | refine CW.block ?_ | refine CW.skip ?_ | refine CW.label ?_ | refine CW.exit ?_ | refine CW.condT rfl ?_ | refine CW.condF rfl ?_)
                refine CW.reg ?_
                refine WL.val rfl (run_move) ?_
                refine WL.enter rfl (run_call en54 rfl rfl) (leftR_at _ (rd hs) hq0) ?_
                rintro e w ⟨rfl, hq⟩
                refine ⟨_, rfl, ?_⟩
                replace hs := Step.call (L1 := [_]) hs hq
                refine WL.val rfl (run_bF (run_gtr rfl rfl) (by omega)) ?_
                refine WL.nil ?_
                repeat (first | refine CW.seq ?_ | refine CW.block ?_ | refine CW.skip ?_ | refine CW.label ?_ | refine CW.exit ?_ | refine CW.condT rfl ?_ | refine CW.condF rfl ?_)
                refine CW.reg ?_
                refine WL.val rfl (run_move) ?_
                refine WL.val rfl (run_assign) ?_
                refine WL.val rfl (run_assign) ?_
                refine WL.nil ?_
                repeat (first | refine CW.seq ?_ | refine CW.block ?_ | refine CW.skip ?_ | refine CW.label ?_ | refine CW.exit ?_ | refine CW.condT rfl ?_ | refine CW.condF rfl ?_)
                refine CW.ret ?_
                refine fin_ret2 rfl ?_
                have he0 : decE bs = 0 := by rw [he]; unfold readP; rw [hr2]; simp [hlt]
                have hl : decL bs = l := by unfold decL; rw [if_pos he0]; unfold readP; rw [hr2]; simp [hlt]
                unfold DecRes
                rw [he0, hl]
                exact ⟨v, Lv, rfl, hvo, hok, by omega, hs.tail⟩
      · repeat (first | refine CW.seq ?_ | refine CW.block ?_ | refine CW.skip ?_ | refine CW.label ?_ | refine CW.exit ?_ | refine CW.condT rfl ?_ | refine CW.condF rfl ?_)
        refine CW.reg ?_
        refine WL.val rfl (run_field (o' := 1) Try.underlying73 rfl ty3 rfl rfl rfl) ?_
        first | refine WL.val rfl (run_load1 ty3 rfl (hs.c0 rfl)) ?_ | refine WL.val rfl (run_load1 ty3 rfl (hs.c1 rfl)) ?_ | refine WL.val rfl (run_load1 ty3 rfl (hs.c2 rfl)) ?_ | refine WL.val rfl (run_load1 ty3 rfl (hs.c3 rfl)) ?_ | refine WL.val rfl (run_load1 ty3 rfl (hs.c4 rfl)) ?_ | refine WL.val rfl (run_load1 ty3 rfl (hs.c5 rfl)) ?_ | refine WL.val rfl (run_load1 ty3 rfl (hs.c0 rfl)) ?_
        refine WL.val rfl (run_bT (run_neq rfl rfl) (by show (t : Int) ≠ 1; omega)) ?_
        refine WL.nil ?_
        repeat (first | refine CW.seq ?_ | refine CW.block ?_ | refine CW.skip ?_ | refine CW.label ?_ | refine CW.exit ?_ | refine CW.condT rfl ?_ | refine CW.condF rfl ?_)
        refine CW.reg ?_
        refine WL.val rfl (run_assign) ?_
        refine WL.val rfl (run_assign) ?_
        refine WL.nil ?_
        repeat (first | refine CW.seq ?_ | refine CW.block ?_ | refine CW.skip ?_ | refine CW.label ?_ | refine CW.exit ?_ | refine CW.condT rfl ?_ | refine CW.condF rfl ?_)
        refine CW.ret ?_
        refine fin_ret2 rfl ?_
        exact .err (herr (by unfold decP; rw [h1]; simp only; rw [if_neg ht])) (by decide) hs
end Go.Gx
