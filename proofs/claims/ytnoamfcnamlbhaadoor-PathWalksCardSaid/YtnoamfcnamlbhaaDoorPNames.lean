/- Names, as an iterator: what it hands to yield. -/
import Derived.Test.YtnoamfcnamlbhaaDoorRange
import Derived.Test.YtnoamfcnamlbhaaDoorPBack
namespace Go.Gx
open Go.Proofs Go.RowKit
set_option linter.unusedVariables false
set_option linter.unusedSimpArgs false
set_option maxRecDepth 100000

theorem heap_kept {S : List Nat} {L : List (Nat × Obj)} {w w' : World} {b : Nat} {o : Obj} (h : w.heap[b]? = some o) (hs : Step S L w w') (hb : b ∉ S) : w'.heap[b]? = some o := by
  rw [hs.chg.block b (lt_of_get h) hb]
  exact h

set_option maxHeartbeats 2000000 in
theorem names1_iter {s : List UInt8} {b l : Nat} (W0 : World) (hcell : W0.cell? ⟨b, 0, none⟩ = some (str s)) (hg : Gl W0) (hs1 : s.length < 4294967281)
    {J : Nat → List (Nat × Obj) → World → Prop} {Jx : World → Prop} (hJ : ∀ k L W W', J k L W → Step [] [] W W' → J k L W')
    {L0 : List (Nat × Obj)} (hL0 : ∀ p ∈ L0, p.1 < W0.heap.size) (h0 : J 0 L0 W0)
    (hY : ∀ k p L W, (partsL s)[k]? = some p → J k L W → Yields Tryd.prog l #[str p] W fun go W' => if go = true then ∃ L', Step (L.map (·.1)) L' W W' ∧ J (k + 1) L' W' else Jx W') :
    Calls Tryd.prog 44 #[.func (.yield l) #[] #[], .pointer (some ⟨b, 0, none⟩)] W0 fun e W' => (∃ v, e = .returned v) ∧ ((∃ L, J (partsL s).length L W') ∨ Jx W') := by
  have hpl := partsL_len s
  have hobt : ∃ x, partsL s = x := ⟨_, rfl⟩
  obtain ⟨x, hx⟩ := hobt
  have c1 := fun w hg => parts_spec (s := s) w hg hs1
  simp only [hx] at c1 hpl hY ⊢
  have hs : Step [] [] W0 W0 := Step.refl W0
  by_cases hx0 : x = []
  · subst hx0
    refine calls (n := 17) Tryd.func44 rfl rfl rfl ?_
    repeat (first | refine CW.seq ?_ | refine CW.block ?_ | refine CW.skip ?_ | refine CW.label ?_ | refine CW.exit ?_ | refine CW.condT rfl ?_ | refine CW.condF rfl ?_)
    refine CW.reg ?_
    refine WL.val rfl (run_load1 ty9 rfl (hcell)) ?_
    refine WL.enter rfl (run_call en34 rfl rfl) (c1 _ hg) ?_
    rintro e w ⟨u, Lu, rfl, hu, hqs⟩
    refine ⟨_, rfl, ?_⟩
    have hxx := cellsOf hu hqs
    obtain ⟨a, c, hq3, hcl, hcx⟩ := hxx
    subst hq3
    refine WL.val rfl (run_lenSl Tryd.underlying34 rfl) ?_
    refine WL.val rfl (run_move) ?_
    refine WL.nil ?_
    have h1 := hJ _ _ _ _ h0 (hqs.dropR (L1 := []))
    repeat (first | refine CW.seq ?_ | refine CW.block ?_ | refine CW.skip ?_ | refine CW.label ?_ | refine CW.exit ?_ | refine CW.condT rfl ?_ | refine CW.condF rfl ?_)
    refine CW.loop (fun m f w' => m = 0 ∧ J 0 L0 w' ∧ Holds f [(7, .int .i64 0), (8, .int .i64 0)]) (m := 0) ?_ ?_
    · exact ⟨rfl, h1, rfl, rfl, trivial⟩
    · rintro m f w' ⟨rfl, h1, hf⟩
      have hobt := hf.chain
      obtain ⟨g, rfl⟩ := hobt
      repeat (first | refine CW.seq ?_ | refine CW.block ?_ | refine CW.skip ?_ | refine CW.label ?_ | refine CW.exit ?_ | refine CW.condT rfl ?_ | refine CW.condF rfl ?_)
      refine CW.reg ?_
      refine WL.val rfl (run_bF (run_lss rfl rfl) (by omega)) ?_
      refine WL.nil ?_
      repeat (first | refine CW.seq ?_ | refine CW.block ?_ | refine CW.skip ?_ | refine CW.label ?_ | refine CW.exit ?_ | refine CW.condT rfl ?_ | refine CW.condF rfl ?_)
      exact fin_end0 rfl ⟨⟨_, rfl⟩, .inl ⟨_, h1⟩⟩
  · refine calls (n := 17) Tryd.func44 rfl rfl rfl ?_
    repeat (first | refine CW.seq ?_ | refine CW.block ?_ | refine CW.skip ?_ | refine CW.label ?_ | refine CW.exit ?_ | refine CW.condT rfl ?_ | refine CW.condF rfl ?_)
    refine CW.reg ?_
    refine WL.val rfl (run_load1 ty9 rfl (hcell)) ?_
    refine WL.enter rfl (run_call en34 rfl rfl) (c1 _ hg) ?_
    rintro e w ⟨u, Lu, rfl, hu, hqs⟩
    refine ⟨_, rfl, ?_⟩
    have hsm := hu.some1 (List.length_pos_iff.2 hx0)
    obtain ⟨bp, cap, more, hq2, hqL, hcp⟩ := hsm
    subst hq2
    refine WL.val rfl (run_lenSl Tryd.underlying34 rfl) ?_
    refine WL.val rfl (run_move) ?_
    refine WL.nil ?_
    have h1 := hJ _ _ _ _ h0 (hqs.dropR (L1 := []))
    have hbn : W0.heap.size ≤ bp := by
      rcases hqs.new (bp, blk 9 (strs x ++ more)) (by rw [hqL]; simp) with h | h
      · cases h
      · exact h
    rw [hqL] at hqs
    have hbk := hqs.hd
    have hbL : bp ∉ L0.map (·.1) := fun hm => by
      have hobt := List.mem_map.1 hm
      obtain ⟨p, hp, rfl⟩ := hobt
      have := hL0 p hp
      omega
    repeat (first | refine CW.seq ?_ | refine CW.block ?_ | refine CW.skip ?_ | refine CW.label ?_ | refine CW.exit ?_ | refine CW.condT rfl ?_ | refine CW.condF rfl ?_)
    refine CW.loop (fun m f w' => ∃ k L, k ≤ x.length ∧ m = x.length - k ∧ J k L w' ∧ bp ∉ L.map (·.1) ∧ w'.heap[bp]? = some (blk 9 (strs x ++ more)) ∧ Holds f [(0, .func (.yield l) #[] #[]), (6, .slice (some ⟨bp, 0, none⟩) x.length cap), (7, .int .i64 x.length), (8, .int .i64 k)]) (m := x.length) ?_ ?_
    · exact ⟨0, L0, Nat.zero_le _, rfl, h1, hbL, hbk, rfl, rfl, rfl, rfl, trivial⟩
    · rintro m f w' ⟨k, L, hk, rfl, hJk, hbL, hbk, hf⟩
      have hobt := hf.chain
      obtain ⟨g, rfl⟩ := hobt
      by_cases hlt : k < x.length
      · have hobt : ∃ p, x[k]? = some p := ⟨_, List.getElem?_eq_getElem hlt⟩
        obtain ⟨p, hp⟩ := hobt
        have hcp : w'.cell? ⟨bp, 0 + k * 1, none⟩ = some (str p) := by
          rw [cell_blk hbk, Nat.zero_add, Nat.mul_one, List.getElem?_append_left (by rw [strs_len]; exact hlt)]
          simp [strs, hp]
        repeat (first | refine CW.seq ?_ | refine CW.block ?_ | refine CW.skip ?_ | refine CW.label ?_ | refine CW.exit ?_ | refine CW.condT rfl ?_ | refine CW.condF rfl ?_)
        refine CW.reg ?_
        refine WL.val rfl (run_bT (run_lss rfl rfl) (by omega)) ?_
        refine WL.nil ?_
        repeat (first | refine CW.seq ?_ | refine CW.block ?_ | refine CW.skip ?_ | refine CW.label ?_ | refine CW.exit ?_ | refine CW.condT rfl ?_ | refine CW.condF rfl ?_)
        refine CW.reg ?_
        first | refine WL.val rfl (run_ixSlN Tryd.underlying34 ty9 rfl rfl (by omega)) ?_ | refine WL.val rfl (run_ixSl Tryd.underlying34 ty9 rfl rfl (by omega)) ?_
        refine WL.val rfl (run_load1 ty9 rfl (hcp)) ?_
        refine WL.val rfl (run_assign) ?_
        refine WL.nil ?_
        repeat (first | refine CW.seq ?_ | refine CW.block ?_ | refine CW.skip ?_ | refine CW.label ?_ | refine CW.exit ?_ | refine CW.condT rfl ?_ | refine CW.condF rfl ?_)
        refine CW.regY ?_
        refine WLI.val rfl rfl run_move ?_
        refine WLI.val rfl rfl run_move ?_
        refine WLI.yield rfl rfl rfl (hY k p L w' hp hJk) ?_
        intro go w2 hgo
        cases go with
        | true =>
          rw [if_pos rfl] at hgo
          obtain ⟨L', hst, hJ'⟩ := hgo
          refine WLI.val rfl rfl (run_not rfl) ?_
          refine WLI.nil ?_
          repeat (first | refine CW.seq ?_ | refine CW.block ?_ | refine CW.skip ?_ | refine CW.label ?_ | refine CW.exit ?_ | refine CW.condT rfl ?_ | refine CW.condF rfl ?_)
          refine CW.reg ?_
          refine WL.val rfl (run_add (c := ((k + 1 : Nat) : Int)) rfl rfl (by omega) (by omega)) ?_
          refine WL.val rfl (run_move) ?_
          refine WL.nil ?_
          repeat (first | refine CW.seq ?_ | refine CW.block ?_ | refine CW.skip ?_ | refine CW.label ?_ | refine CW.exit ?_)
          refine (show _ ∧ _ from ⟨rfl, _, ?_, k + 1, L', by omega, rfl, hJ', fun hm => ?_, heap_kept hbk hst hbL, rfl, rfl, rfl, rfl, trivial⟩)
          · omega
          · have hobt := List.mem_map.1 hm
            obtain ⟨q, hq, hqe⟩ := hobt
            rcases hst.new q hq with h | h
            · rw [hqe] at h; exact hbL h
            · have := lt_of_get hbk; omega
        | false =>
          rw [if_neg (by simp)] at hgo
          refine WLI.val rfl rfl (run_not rfl) ?_
          refine WLI.nil ?_
          repeat (first | refine CW.seq ?_ | refine CW.block ?_ | refine CW.skip ?_ | refine CW.label ?_ | refine CW.exit ?_ | refine CW.condT rfl ?_ | refine CW.condF rfl ?_)
          refine CW.ret ?_
          exact fin_ret0 rfl ⟨⟨_, rfl⟩, .inr hgo⟩
      · obtain rfl : k = x.length := by omega
        repeat (first | refine CW.seq ?_ | refine CW.block ?_ | refine CW.skip ?_ | refine CW.label ?_ | refine CW.exit ?_ | refine CW.condT rfl ?_ | refine CW.condF rfl ?_)
        refine CW.reg ?_
        refine WL.val rfl (run_bF (run_lss rfl rfl) (by omega)) ?_
        refine WL.nil ?_
        repeat (first | refine CW.seq ?_ | refine CW.block ?_ | refine CW.skip ?_ | refine CW.label ?_ | refine CW.exit ?_ | refine CW.condT rfl ?_ | refine CW.condF rfl ?_)
        exact fin_end0 rfl ⟨⟨_, rfl⟩, .inl ⟨_, hJk⟩⟩
end Go.Gx
