/- Lists of bytes that were handed out, written full and grown in turns: walked. Lists of names that were handed out, written full and grown in turns: walked. Lists of items that were handed out, written full and grown in turns: walked. Lists of lists that were handed out; two lists of texts alike. VfsOwn, walked. -/
import Derived.Test.YtepaojbhjgefiaaDoorB1
/-! Gr4 -/
namespace Go.Gx
open Go.Proofs
set_option linter.unusedVariables false
set_option linter.unusedSimpArgs false
set_option maxRecDepth 100000
set_option maxHeartbeats 8000000 in
theorem grownBytes_spec0 {aA : Option Addr} {cA : Nat} {w0 : World} :
    Calls Tryd.prog 17 #[.slice aA 0 cA] w0 fun e w' => e = .returned (.bool true) ∧ Step [] [] w0 w' := by
  have hs : Step [] [] w0 w0 := Step.refl w0
  have hav : ∀ w : World, Sl w 1 (.slice aA 0 cA) 0 [] := fun w => ⟨rfl, .inl ⟨aA, cA, rfl, rfl⟩⟩
  refine calls (n := 138) Tryd.func17 rfl rfl rfl ?_
  refine CW.seq <| CW.reg <| WL.val rfl (run_assign) <| WL.nil <| CW.seq <| CW.seq <| CW.reg <| WL.val rfl (run_assign) <| WL.nil <| CW.block ?_
  refine CW.loop (fun m f w' => m = 0 ∧ Step [] [] w0 w' ∧ Holds f [(0, .slice aA 0 cA), (3, .int .i64 0)]) (m := 0) ?_ ?_
  · exact ⟨rfl, hs, rfl, rfl, trivial⟩
  clear hs
  rintro m f w ⟨rfl, hs, hf⟩
  have hobt := hf.chain
  obtain ⟨g, rfl⟩ := hobt
  refine CW.seq <| CW.seq <| CW.reg <| WL.val rfl (run_move) <| WL.val rfl (run_move) <| WL.val rfl (run_lenSl Tryd.underlying42 rfl) <| WL.val rfl (run_bF (run_lss rfl rfl) (by omega)) <| WL.nil ?_
  repeat (first | refine CW.seq ?_ | refine CW.exit ?_ | refine CW.condF rfl ?_)
  refine CW.reg <| WL.val rfl (run_assign) <| WL.nil <| CW.seq <| CW.reg <| WL.val rfl (run_move) <| WL.val rfl (run_move) ?_
  refine WL.append Tryd.underlying42 Tryd.underlying42 ty34 rfl (by decide) rfl rfl (OwnSl.nil _ _) (hs) (hav w) (Cells1.of_all rfl) (by first | omega | (simp only [List.length_append, List.length_cons, List.length_nil]; omega)) rfl (fun v39 Lv39 w hv39 hs => ?_)
  refine WL.val rfl (run_assign) <| WL.nil ?_
  replace hs := hs.clear
  have hobt := hv39.form
  obtain ⟨am, cm, rfl⟩ := hobt
  refine CW.seq <| CW.seq <| CW.reg <| WL.val rfl (run_assign) <| WL.nil <| CW.block ?_
  refine CW.loop (fun m f w' => ∃ k : Nat, k ≤ 40 ∧ m = 40 - k ∧ Step [] [] w0 w' ∧ Holds f [(0, .slice aA 0 cA), (6, .int .i64 (k : Nat))]) (m := 40) ?_ ?_
  · exact ⟨0, by omega, rfl, hs, rfl, rfl, trivial⟩
  clear hs
  rintro m f w ⟨k, hk, rfl, hs, hf⟩
  have hobt := hf.chain
  obtain ⟨g, rfl⟩ := hobt
  by_cases hkM : k < 40
  · refine CW.seq <| CW.seq <| CW.reg <| WL.val rfl (run_move) <| WL.val rfl (run_bT (run_lss rfl rfl) (by omega)) <| WL.nil ?_
    refine CW.cond rfl (fun h => ?_) (fun h => ?_)
    · repeat (first | refine CW.seq ?_ | refine CW.block ?_ | refine CW.skip ?_)
      refine CW.reg <| WL.val rfl (run_assign) <| WL.nil <| CW.block ?_
      refine CW.loop (fun m f w' => m = 0 ∧ Step [] [] w0 w' ∧ Holds f [(0, .slice aA 0 cA), (6, .int .i64 (k : Nat)), (7, .int .i64 0)]) (m := 0) ?_ ?_
      · exact ⟨rfl, hs, rfl, rfl, rfl, trivial⟩
      clear hs
      rintro m f w ⟨rfl, hs, hf⟩
      have hobt := hf.chain
      obtain ⟨g, rfl⟩ := hobt
      refine CW.seq <| CW.seq <| CW.reg <| WL.val rfl (run_move) <| WL.val rfl (run_move) <| WL.val rfl (run_lenSl Tryd.underlying42 rfl) <| WL.val rfl (run_bF (run_lss rfl rfl) (by omega)) <| WL.nil ?_
      repeat (first | refine CW.exit ?_ | refine CW.condF rfl ?_)
      refine CW.reg <| WL.val rfl (run_move) <| WL.val rfl (run_add (c := ((k + 1 : Nat) : Int)) rfl rfl (by omega) (by omega)) <| WL.val rfl (run_assign) <| WL.nil ?_
      refine (show _ ∧ _ from ⟨rfl, _, ?_, k + 1, by omega, rfl, hs, rfl, rfl, trivial⟩)
      omega
    · cases h
  · obtain rfl : k = 40 := by omega
    refine CW.seq <| CW.seq <| CW.reg <| WL.val rfl (run_move) <| WL.val rfl (run_bF (run_lss rfl rfl) (by omega)) <| WL.nil ?_
    repeat (first | refine CW.seq ?_ | refine CW.exit ?_ | refine CW.condF rfl ?_)
    refine CW.reg <| WL.val rfl (run_assign) <| WL.nil <| CW.block ?_
    refine CW.loop (fun m f w' => m = 0 ∧ Step [] [] w0 w' ∧ Holds f [(0, .slice aA 0 cA), (8, .int .i64 0)]) (m := 0) ?_ ?_
    · exact ⟨rfl, hs, rfl, rfl, trivial⟩
    clear hs
    rintro m f w ⟨rfl, hs, hf⟩
    have hobt := hf.chain
    obtain ⟨g, rfl⟩ := hobt
    refine CW.seq <| CW.seq <| CW.reg <| WL.val rfl (run_move) <| WL.val rfl (run_move) <| WL.val rfl (run_lenSl Tryd.underlying42 rfl) <| WL.val rfl (run_bF (run_lss rfl rfl) (by omega)) <| WL.nil ?_
    repeat (first | refine CW.seq ?_ | refine CW.exit ?_ | refine CW.condF rfl ?_)
    refine CW.reg <| WL.val rfl (run_assign) <| WL.nil ?_
    refine CW.ret ?_
    refine fin_ret1 rfl ?_
    exact ⟨rfl, hs⟩
section
variable {N : Nat} {bA oA cA : Nat} {vs : Nat → Value} {ns : Nat → Nat} {xs : Nat → List Value} {Ls : Nat → List (Nat × Obj)} {w0 : World}
set_option maxHeartbeats 8000000 in
theorem grownBytes_spec (hN : N ≤ 1000) (hN0 : 0 < N) (ha : At w0 bA oA ((List.range N).map vs)) (hO : ∀ i, i < N → OwnSl 5 1 (vs i) (ns i) (xs i) (Ls i)) (hn : ∀ i, i < N → ns i ≤ 2000000) (hw : Step ((allL Ls N).map (·.1)) (allL Ls N) w0 w0) (hbA : bA ∉ (allL Ls N).map (·.1)) :
    Calls Tryd.prog 17 #[.slice (some ⟨bA, oA, none⟩) N cA] w0 fun e w' => e = .returned (.bool true) ∧ Step ((allL Ls N).map (·.1)) [] w0 w' := by
  have hs : Step ((allL Ls N).map (·.1)) (allL Ls N) w0 w0 := hw
  have hobt : ∃ S, (allL Ls N).map (·.1) = S := ⟨_, rfl⟩
  obtain ⟨S, hS⟩ := hobt
  rw [hS] at hs hbA ⊢
  have hvl : ((List.range N).map vs).length = N := by simp
  have hcell : ∀ {i : Nat} {X : List (Nat × Obj)} {w : World}, i < N → Step S X w0 w → w.cell? ⟨bA, oA + i * 1, none⟩ = some (vs i) := fun {i X w} hi hs => by
    rw [Nat.mul_one]
    exact (ha.step hs hbA).cell (by rw [List.getElem?_map, List.getElem?_range hi]; rfl)
  refine calls (n := 138) Tryd.func17 rfl rfl rfl ?_
  refine CW.seq <| CW.reg <| WL.val rfl (run_assign) <| WL.nil ?_
  refine CW.seqM (fun f w => ∃ Lc : Nat → List (Nat × Obj), (∀ q, q < N → OwnSl 5 1 (vs q) (ns q) (gs (gB1 q) (ns q)) (Lc q)) ∧ Step S (allL Lc N) w0 w ∧ Holds f [(0, .slice (some ⟨bA, oA, none⟩) N cA)]) ?_ ?_
  · refine CW.seq <| CW.reg <| WL.val rfl (run_assign) <| WL.nil <| CW.block ?_
    refine CW.loop (fun m f w' => ∃ (i : Nat) (Lc : Nat → List (Nat × Obj)) (ys : Nat → List Value), i ≤ N ∧ m = N - i ∧ (∀ q, q < i → ys q = (gs (gB1 q) (ns q))) ∧ (∀ q, q < N → OwnSl 5 1 (vs q) (ns q) (ys q) (Lc q)) ∧ Step S (allL Lc N) w0 w' ∧ Holds f [(0, .slice (some ⟨bA, oA, none⟩) N cA), (3, .int .i64 (i : Nat))]) (m := N) ?_ ?_
    · exact ⟨0, Ls, xs, Nat.zero_le _, rfl, fun q hq => (by omega), hO, hs, rfl, rfl, trivial⟩
    · rintro m f w ⟨i, Lc, ys, hi, rfl, hy, ho, hs, hf⟩
      have hobt := hf.chain
      obtain ⟨g, rfl⟩ := hobt
      by_cases hlt : i < N
      · refine CW.seq <| CW.seq <| CW.reg <| WL.val rfl (run_move) <| WL.val rfl (run_move) <| WL.val rfl (run_lenSl Tryd.underlying42 rfl) <| WL.val rfl (run_bT (run_lss rfl rfl) (by omega)) <| WL.nil ?_
        refine CW.cond rfl (fun h => ?_) (fun h => ?_)
        · have hoi := ho i hlt
          have hni := hn i hlt
          have hobt := hoi.form
          obtain ⟨ai, ci, hvi⟩ := hobt
          have hvc : ∀ {X : List (Nat × Obj)} {w : World}, Step S X w0 w → w.cell? ⟨bA, oA + i * 1, none⟩ = some (.slice ai (ns i) ci) := fun hs => (hcell hlt hs).trans (congrArg some hvi)
          refine CW.skip ?_
          refine CW.seqM (fun f w => ∃ L', OwnSl 5 1 (vs i) (ns i) (gs (gB1 i) (ns i)) L' ∧ Step S (L' ++ othL Lc i N) w0 w ∧ Holds f [(0, .slice (some ⟨bA, oA, none⟩) N cA), (3, .int .i64 (i : Nat))]) ?_ ?_
          · have hop : Step S (Lc i ++ othL Lc i N) w0 w := Step.openA (A := []) hlt hs
            clear hs
            have hs := hop
            by_cases h0 : ns i = 0
            · repeat (first | refine CW.seq ?_ | refine CW.block ?_)
              refine CW.reg <| WL.val rfl (run_assign) <| WL.nil <| CW.block ?_
              refine CW.loop (fun m f w' => m = 0 ∧ Step S (Lc i ++ othL Lc i N) w0 w' ∧ Holds f [(0, .slice (some ⟨bA, oA, none⟩) N cA), (3, .int .i64 (i : Nat)), (4, .int .i64 0)]) (m := 0) ?_ ?_
              · exact ⟨rfl, hs, rfl, rfl, rfl, trivial⟩
              · rintro m f w ⟨rfl, hs, hf⟩
                have hobt := hf.chain
                obtain ⟨g, rfl⟩ := hobt
                refine CW.seq <| CW.seq <| CW.reg <| WL.val rfl (run_move) <| WL.val rfl (run_move) <| WL.val rfl (run_move) <| WL.val rfl (run_ixSlN Tryd.underlying42 ty34 rfl rfl (by omega)) <| WL.val rfl (run_load1 ty34 rfl ((hvc hs))) <| WL.val rfl (run_lenSl Tryd.underlying34 rfl) <| WL.val rfl (run_bF (run_lss rfl rfl) (by omega)) <| WL.nil ?_
                repeat (first | refine CW.exit ?_ | refine CW.condF rfl ?_)
                refine ⟨rfl, Lc i, ?_, hs, rfl, rfl, trivial⟩
                have e1 := hoi.1
                rw [h0, Nat.zero_mul] at e1
                have e2 : ys i = gs (gB1 i) (ns i) := by rw [List.eq_nil_of_length_eq_zero e1, h0]; rfl
                rw [← e2]
                exact hoi
            · have hobt := hoi.some1 (by omega)
              obtain ⟨b, cap, more, hvb, hLb, hcap⟩ := hobt
              have hyl := hoi.1
              rw [hLb] at hs
              have hvb' : ∀ {X : List (Nat × Obj)} {w : World}, Step S X w0 w → w.cell? ⟨bA, oA + i * 1, none⟩ = some (.slice (some ⟨b, 0, none⟩) (ns i) cap) := fun hs => (hcell hlt hs).trans (congrArg some hvb)
              repeat (first | refine CW.seq ?_ | refine CW.block ?_)
              refine CW.reg <| WL.val rfl (run_assign) <| WL.nil <| CW.block ?_
              refine CW.loop (fun m f w' => ∃ (k : Nat) (Z : List Value), k ≤ ns i ∧ m = ns i - k ∧ Z.length = (ns i - k) * 1 ∧ Step S ((b, blk 5 (gs (gB1 i) k ++ (Z ++ more))) :: othL Lc i N) w0 w' ∧ Holds f [(0, .slice (some ⟨bA, oA, none⟩) N cA), (3, .int .i64 (i : Nat)), (4, .int .i64 (k : Nat))]) (m := ns i) ?_ ?_
              · exact ⟨0, ys i, Nat.zero_le _, rfl, hyl, hs, rfl, rfl, rfl, trivial⟩
              · clear hs
                rintro m f w ⟨k, Z, hk, rfl, hZ, hs, hf⟩
                have hobt := hf.chain
                obtain ⟨g, rfl⟩ := hobt
                by_cases hkl : k < ns i
                · have hgl := gs_len (gB1_len i) k
                  have hbl : (gs (gB1 i) k ++ (Z ++ more)).length = k * 1 + (ns i - k) * 1 + more.length := by rw [List.length_append, List.length_append, hgl, hZ]; omega
                  refine CW.seq <| CW.seq <| CW.reg <| WL.val rfl (run_move) <| WL.val rfl (run_move) <| WL.val rfl (run_move) <| WL.val rfl (run_ixSlN Tryd.underlying42 ty34 rfl rfl (by omega)) <| WL.val rfl (run_load1 ty34 rfl ((hvb' hs))) <| WL.val rfl (run_lenSl Tryd.underlying34 rfl) <| WL.val rfl (run_bT (run_lss rfl rfl) (by omega)) <| WL.nil ?_
                  refine CW.cond rfl (fun h => ?_) (fun h => ?_)
                  · repeat (first | refine CW.seq ?_ | refine CW.block ?_ | refine CW.skip ?_)
                    refine CW.reg <| WL.val rfl (run_move) <| WL.val rfl (run_move) <| WL.val rfl (run_ixSlN Tryd.underlying42 ty34 rfl rfl (by omega)) <| WL.val rfl (run_load1 ty34 rfl ((hvb' hs))) <| WL.val rfl (run_move) <| WL.val rfl (run_move) <| WL.val rfl (run_mul (c := ((i * 37 : Nat) : Int)) rfl rfl (by omega) (by omega)) <| WL.val rfl (run_move) <| WL.val rfl (run_add (c := ((i * 37 + k : Nat) : Int)) rfl rfl (by omega) (by omega)) <| WL.val rfl (run_convU8 Tryd.underlying3 Tryd.underlying5 rfl) <| WL.val rfl (run_ixSlN Tryd.underlying34 ty5 rfl rfl (by omega)) ?_
                    refine WL.store1 ty5 rfl rfl (rfl) hs (by first | (simp; done) | omega | (simp only [List.length_append, List.length_replicate, List.length_cons, List.length_nil, List.length_set]; omega) | (simp [Ent.cells, u8s]; done) | exact Nat.le_of_ble_eq_true rfl) (fun w hs => ?_)
                    refine WL.nil ?_
                    replace hs : Step S ((b, blk 5 (gs (gB1 i) (k + 1) ++ (Z.drop 1 ++ more))) :: othL Lc i N) w0 w := by
                      rw [← gs_set rfl (gB1_len i) (by omega)]
                      exact hs
                    refine CW.reg <| WL.val rfl (run_move) <| WL.val rfl (run_add (c := ((k + 1 : Nat) : Int)) rfl rfl (by omega) (by omega)) <| WL.val rfl (run_assign) <| WL.nil ?_
                    refine (show _ ∧ _ from ⟨rfl, _, ?_, k + 1, Z.drop 1, by omega, rfl, (by rw [List.length_drop, hZ]; omega), hs, rfl, rfl, rfl, trivial⟩)
                    omega
                  · cases h
                · obtain rfl : k = ns i := by omega
                  refine CW.seq <| CW.seq <| CW.reg <| WL.val rfl (run_move) <| WL.val rfl (run_move) <| WL.val rfl (run_move) <| WL.val rfl (run_ixSlN Tryd.underlying42 ty34 rfl rfl (by omega)) <| WL.val rfl (run_load1 ty34 rfl ((hvb' hs))) <| WL.val rfl (run_lenSl Tryd.underlying34 rfl) <| WL.val rfl (run_bF (run_lss rfl rfl) (by omega)) <| WL.nil ?_
                  repeat (first | refine CW.exit ?_ | refine CW.condF rfl ?_)
                  have hZ0 : Z = [] := List.eq_nil_of_length_eq_zero (by rw [hZ, Nat.sub_self, Nat.zero_mul])
                  rw [hZ0, List.nil_append] at hs
                  refine ⟨rfl, [_], ⟨gs_len (gB1_len i) _, .inr ⟨b, cap, more, hvb, rfl, ?_⟩⟩, hs, rfl, rfl, trivial⟩
                  rw [List.length_append, gs_len (gB1_len i)]
                  rw [List.length_append, hyl] at hcap
                  exact hcap
          clear hs hf
          rintro f w ⟨L', hown, hs, hf⟩
          have hobt := hf.chain
          obtain ⟨g, rfl⟩ := hobt
          replace hs : Step S (allL (putL Lc i L') N) w0 w := Step.shutA (A := []) hlt hs
          refine CW.reg <| WL.val rfl (run_move) <| WL.val rfl (run_add (c := ((i + 1 : Nat) : Int)) rfl rfl (by omega) (by omega)) <| WL.val rfl (run_assign) <| WL.nil ?_
          refine (show _ ∧ _ from ⟨rfl, _, ?_, i + 1, putL Lc i L', (fun q => if q = i then gs (gB1 i) (ns i) else ys q), by omega, rfl, ?_, ?_, hs, rfl, rfl, trivial⟩)
          · omega
          · intro q hq
            by_cases hqi : q = i
            · subst hqi; simp
            · simp only [hqi, if_false]
              exact hy q (by omega)
          · intro q hq
            by_cases hqi : q = i
            · subst hqi; simp only [putL, if_true]; exact hown
            · simp only [putL, hqi, if_false]; exact ho q hq
        · cases h
      · obtain rfl : i = N := by omega
        refine CW.seq <| CW.seq <| CW.reg <| WL.val rfl (run_move) <| WL.val rfl (run_move) <| WL.val rfl (run_lenSl Tryd.underlying42 rfl) <| WL.val rfl (run_bF (run_lss rfl rfl) (by omega)) <| WL.nil ?_
        repeat (first | refine CW.exit ?_ | refine CW.condF rfl ?_)
        exact ⟨rfl, Lc, fun q hq => by rw [← hy q hq]; exact ho q hq, hs, rfl, trivial⟩
  clear hs
  rintro f w ⟨Lc, ho, hs, hf⟩
  have hobt := hf.chain
  obtain ⟨g, rfl⟩ := hobt
  refine CW.seq <| CW.reg <| WL.val rfl (run_assign) <| WL.nil ?_
  have hcv : Cells1 ((List.range N).map vs) := fun v hv => by
    have hobt := List.mem_map.1 hv
    obtain ⟨q, hq, rfl⟩ := hobt
    exact (ho q (by simpa using hq)).one
  have hav : ∀ {X : List (Nat × Obj)} {w : World}, Step S X w0 w → Sl w 1 (.slice (some ⟨bA, oA, none⟩) N cA) N ((List.range N).map vs) := fun hs => .mk (by simp) (ha.step hs hbA)
  refine CW.seq <| CW.reg <| WL.val rfl (run_move) <| WL.val rfl (run_move) ?_
  refine WL.append Tryd.underlying42 Tryd.underlying42 ty34 rfl (by decide) rfl rfl (OwnSl.nil _ _) (hs) (hav hs) (hcv) (by first | omega | (simp only [List.length_append, List.length_cons, List.length_nil]; omega)) rfl (fun v39 Lv39 w hv39 hs => ?_)
  refine WL.val rfl (run_assign) <| WL.nil ?_
  rw [Nat.zero_add, List.nil_append] at hv39
  have hobt := hv39.some1 hN0
  obtain ⟨bm, cm, room, hvm, hLm, hcm⟩ := hobt
  rw [hLm] at hs
  replace hs : Step S ((bm, blk 34 ((List.range N).map vs ++ room)) :: allL Lc N) w0 w := hs
  have hvc : ∀ {i : Nat} {X : List (Nat × Obj)} {w : World}, i < N → Step S X w0 w → ∃ a c, vs i = .slice a (ns i) c ∧ w.cell? ⟨bA, oA + i * 1, none⟩ = some (.slice a (ns i) c) := fun {i X w} hi hs => by
    have hobt := (ho i hi).form
    obtain ⟨a, c, hvi⟩ := hobt
    exact ⟨a, c, hvi, (hcell hi hs).trans (congrArg some hvi)⟩
  refine CW.seqM (fun f w => ∃ (us : Nat → Value) (L2 : Nat → List (Nat × Obj)), (∀ q, q < N → Tw 5 1 (vs q) (us q) (ns q) 40 (gs (gB1 q) (ns q)) (gs (gB2 q) 40) (L2 q)) ∧ Step S ((bm, blk 34 ((List.range N).map us ++ room)) :: allL L2 N) w0 w ∧ Holds f [(0, .slice (some ⟨bA, oA, none⟩) N cA), (5, .slice (some ⟨bm, 0, none⟩) N cm)]) ?_ ?_
  · refine CW.seq <| CW.reg <| WL.val rfl (run_assign) <| WL.nil <| CW.block ?_
    refine CW.loop (fun m f w' => ∃ (k : Nat) (us : Nat → Value) (L2 : Nat → List (Nat × Obj)), k ≤ 40 ∧ m = 40 - k ∧ (∀ q, q < N → Tw 5 1 (vs q) (us q) (ns q) k (gs (gB1 q) (ns q)) (gs (gB2 q) k) (L2 q)) ∧ Step S ((bm, blk 34 ((List.range N).map us ++ room)) :: allL L2 N) w0 w' ∧ Holds f [(0, .slice (some ⟨bA, oA, none⟩) N cA), (5, .slice (some ⟨bm, 0, none⟩) N cm), (6, .int .i64 (k : Nat))]) (m := 40) ?_ ?_
    · exact ⟨0, vs, Lc, by omega, rfl, fun q hq => Tw.start (ho q hq), hs, rfl, hvm, rfl, trivial⟩
    · clear hs
      rintro m f w ⟨k, us, L2, hk, rfl, hT, hs, hf⟩
      have hobt := hf.chain
      obtain ⟨g, rfl⟩ := hobt
      by_cases hk20 : k < 40
      · refine CW.seq <| CW.seq <| CW.reg <| WL.val rfl (run_move) <| WL.val rfl (run_bT (run_lss rfl rfl) (by omega)) <| WL.nil ?_
        refine CW.cond rfl (fun h => ?_) (fun h => ?_)
        · repeat (first | refine CW.seq ?_ | refine CW.block ?_ | refine CW.skip ?_)
          refine CW.reg <| WL.val rfl (run_assign) <| WL.nil <| CW.block ?_
          refine CW.loop (fun m f w' => ∃ (i : Nat) (us : Nat → Value) (L2 : Nat → List (Nat × Obj)), i ≤ N ∧ m = N - i ∧ (∀ q, q < N → q < i → Tw 5 1 (vs q) (us q) (ns q) (k + 1) (gs (gB1 q) (ns q)) (gs (gB2 q) (k + 1)) (L2 q)) ∧ (∀ q, q < N → i ≤ q → Tw 5 1 (vs q) (us q) (ns q) k (gs (gB1 q) (ns q)) (gs (gB2 q) k) (L2 q)) ∧ Step S ((bm, blk 34 ((List.range N).map us ++ room)) :: allL L2 N) w0 w' ∧ Holds f [(0, .slice (some ⟨bA, oA, none⟩) N cA), (5, .slice (some ⟨bm, 0, none⟩) N cm), (6, .int .i64 (k : Nat)), (7, .int .i64 (i : Nat))]) (m := N) ?_ ?_
          · exact ⟨0, us, L2, Nat.zero_le _, rfl, fun q _ h => (by omega), fun q hq _ => hT q hq, hs, rfl, rfl, rfl, rfl, trivial⟩
          · clear hs hT
            rintro m f w ⟨i, us, L2, hi, rfl, hT1, hT0, hs, hf⟩
            have hobt := hf.chain
            obtain ⟨g, rfl⟩ := hobt
            by_cases hlt : i < N
            · have hTi := hT0 i hlt (Nat.le_refl _)
              have hni := hn i hlt
              have hobt := hTi.formR
              obtain ⟨au, cu, hui⟩ := hobt
              have hmg : ((List.range N).map us ++ room)[0 + i * 1]? = some (.slice au (ns i + k) cu) := (map_get hlt).trans (congrArg some hui)
              have hml2 : ((List.range N).map us ++ room).length = N + room.length := by simp
              rw [hui] at hTi
              refine CW.seq <| CW.seq <| CW.reg <| WL.val rfl (run_move) <| WL.val rfl (run_move) <| WL.val rfl (run_lenSl Tryd.underlying42 rfl) <| WL.val rfl (run_bT (run_lss rfl rfl) (by omega)) <| WL.nil ?_
              refine CW.cond rfl (fun h => ?_) (fun h => ?_)
              · repeat (first | refine CW.seq ?_ | refine CW.block ?_ | refine CW.skip ?_)
                refine CW.reg <| WL.val rfl (run_move) <| WL.val rfl (run_move) <| WL.val rfl (run_move) <| WL.val rfl (run_move) <| WL.val rfl (run_ixSlN Tryd.underlying42 ty34 rfl rfl (by omega)) <| WL.val rfl (run_load1 ty34 rfl (hs.c0 hmg)) <| WL.val rfl (run_move) <| WL.val rfl (run_mul (c := ((i * 37 : Nat) : Int)) rfl rfl (by omega) (by omega)) <| WL.val rfl (run_sub (c := (255 - (i : Int) * 37)) rfl rfl (by omega) (by omega)) <| WL.val rfl (run_move) <| WL.val rfl (run_sub (c := (255 - (i : Int) * 37 - (k : Int))) rfl rfl (by omega) (by omega)) ?_
                refine WL.val rfl (run_convM Tryd.underlying3 Tryd.underlying5 rfl) ?_
                refine WL.buildSlice (cs := (gB2 i k)) Tryd.underlying34 ty5 rfl (by decide) rfl (filled_s _ _ rfl) rfl hs (fun b62 w hs => ?_)
                have hsl : Sl w 1 (.slice (some ⟨b62, 0, none⟩) 1 1) 1 (gB2 i k) := .own1 hs rfl
                refine WL.appendTw Tryd.underlying34 Tryd.underlying34 ty5 rfl (by decide) rfl rfl (hTi) (Step.openA (A := [_, _]) hlt hs) (hsl) (by decide) (Cells1.of_all rfl) (by omega) rfl (fun u63 L63 w hu63 hs => ?_)
                refine WL.val rfl (run_ixSlN Tryd.underlying42 ty34 rfl rfl (by omega)) ?_
                refine WL.store1 ty34 rfl rfl (hu63.oneR) ((Step.front (L63 ++ [_]) (p := (bm, blk 34 ((List.range N).map us ++ room))) (by rw [List.append_assoc]; exact hs))) (by first | (simp; done) | omega | (simp only [List.length_append, List.length_replicate, List.length_cons, List.length_nil, List.length_set]; omega) | (simp [Ent.cells, u8s]; done) | exact Nat.le_of_ble_eq_true rfl) (fun w hs => ?_)
                refine WL.nil ?_
                rw [set_map hlt] at hs
                replace hs := Step.dropX (A := _ :: L63) (B := othL L2 i N) (by simpa [List.append_assoc] using hs)
                replace hs := Step.shutA (A := [_]) hlt (hs.perm List.perm_middle.symm)
                rw [← gs_succ] at hu63
                refine CW.reg <| WL.val rfl (run_move) <| WL.val rfl (run_add (c := ((i + 1 : Nat) : Int)) rfl rfl (by omega) (by omega)) <| WL.val rfl (run_assign) <| WL.nil ?_
                refine (show _ ∧ _ from ⟨rfl, _, ?_, i + 1, (fun q => if q = i then u63 else us q), putL L2 i L63, by omega, rfl, ?_, ?_, hs, rfl, rfl, rfl, rfl, trivial⟩)
                · omega
                · intro q hq hqi
                  by_cases hqe : q = i
                  · subst hqe; simp only [putL, if_true]; exact hu63
                  · simp only [putL, hqe, if_false]; exact hT1 q hq (by omega)
                · intro q hq hqi
                  have hqe : q ≠ i := by omega
                  simp only [putL, hqe, if_false]
                  exact hT0 q hq (by omega)
              · cases h
            · obtain rfl : i = N := by omega
              refine CW.seq <| CW.seq <| CW.reg <| WL.val rfl (run_move) <| WL.val rfl (run_move) <| WL.val rfl (run_lenSl Tryd.underlying42 rfl) <| WL.val rfl (run_bF (run_lss rfl rfl) (by omega)) <| WL.nil ?_
              repeat (first | refine CW.exit ?_ | refine CW.condF rfl ?_)
              refine CW.reg <| WL.val rfl (run_move) <| WL.val rfl (run_add (c := ((k + 1 : Nat) : Int)) rfl rfl (by omega) (by omega)) <| WL.val rfl (run_assign) <| WL.nil ?_
              refine (show _ ∧ _ from ⟨rfl, _, ?_, k + 1, us, L2, by omega, rfl, (fun q hq => hT1 q hq hq), hs, rfl, rfl, rfl, trivial⟩)
              omega
        · cases h
      · obtain rfl : k = 40 := by omega
        refine CW.seq <| CW.seq <| CW.reg <| WL.val rfl (run_move) <| WL.val rfl (run_bF (run_lss rfl rfl) (by omega)) <| WL.nil ?_
        repeat (first | refine CW.exit ?_ | refine CW.condF rfl ?_)
        exact ⟨rfl, us, L2, hT, hs, rfl, rfl, trivial⟩
  clear hs hf
  rintro f w ⟨us, L2, hT, hs, hf⟩
  have hobt := hf.chain
  obtain ⟨g, rfl⟩ := hobt
  refine CW.seqM (fun f w => Step S ((bm, blk 34 ((List.range N).map us ++ room)) :: allL L2 N) w0 w) ?_ ?_
  · refine CW.seq <| CW.reg <| WL.val rfl (run_assign) <| WL.nil <| CW.block ?_
    refine CW.loop (fun m f w' => ∃ i : Nat, i ≤ N ∧ m = N - i ∧ Step S ((bm, blk 34 ((List.range N).map us ++ room)) :: allL L2 N) w0 w' ∧ Holds f [(0, .slice (some ⟨bA, oA, none⟩) N cA), (5, .slice (some ⟨bm, 0, none⟩) N cm), (8, .int .i64 (i : Nat))]) (m := N) ?_ ?_
    · exact ⟨0, Nat.zero_le _, rfl, hs, rfl, rfl, rfl, trivial⟩
    · clear hs
      rintro m f w ⟨i, hi, rfl, hs, hf⟩
      have hobt := hf.chain
      obtain ⟨g, rfl⟩ := hobt
      by_cases hlt : i < N
      · have hTi := hT i hlt
        have hni := hn i hlt
        have hobt := hvc hlt hs
        obtain ⟨av, cv, hvi, -⟩ := hobt
        have hcv : ∀ {X : List (Nat × Obj)} {w : World}, Step S X w0 w → w.cell? ⟨bA, oA + i * 1, none⟩ = some (.slice av (ns i) cv) := fun hs => (hcell hlt hs).trans (congrArg some hvi)
        have hR0 := hTi.right (w := w) fun p hp => hs.has p (List.mem_cons_of_mem _ (allL_mem hlt hp))
        have hobt := hR0.baseB (by omega)
        obtain ⟨bu, ou, cu, hui⟩ := hobt
        have hR : ∀ {w : World}, (∀ p ∈ L2 i, w.heap[p.1]? = some p.2) → At w bu ou (gs (gB1 i) (ns i) ++ gs (gB2 i) 40) := fun h => by
          have h1 := hTi.right h
          rw [hui] at h1
          exact h1.atB (by omega)
        have hmg : ((List.range N).map us ++ room)[0 + i * 1]? = some (.slice (some ⟨bu, ou, none⟩) (ns i + 40) cu) := (map_get hlt).trans (congrArg some hui)
        refine CW.seq <| CW.seq <| CW.reg <| WL.val rfl (run_move) <| WL.val rfl (run_move) <| WL.val rfl (run_lenSl Tryd.underlying42 rfl) <| WL.val rfl (run_bT (run_lss rfl rfl) (by omega)) <| WL.nil ?_
        refine CW.cond rfl (fun h => ?_) (fun h => ?_)
        · repeat (first | refine CW.seq ?_ | refine CW.block ?_ | refine CW.skip ?_)
          refine CW.reg <| WL.val rfl (run_move) <| WL.val rfl (run_move) <| WL.val rfl (run_ixSlN Tryd.underlying42 ty34 rfl rfl (by omega)) <| WL.val rfl (run_load1 ty34 rfl ((hcv hs))) <| WL.val rfl (run_lenSl Tryd.underlying34 rfl) <| WL.val rfl (run_assign) <| WL.nil <| CW.seq <| CW.reg <| WL.val rfl (run_assign) <| WL.nil ?_
          refine CW.block ?_
          refine CW.loop (fun m f w' => ∃ k : Nat, k ≤ ns i + 40 ∧ m = ns i + 40 - k ∧ Step S ((bm, blk 34 ((List.range N).map us ++ room)) :: allL L2 N) w0 w' ∧ Holds f [(0, .slice (some ⟨bA, oA, none⟩) N cA), (5, .slice (some ⟨bm, 0, none⟩) N cm), (8, .int .i64 (i : Nat)), (9, .int .i64 (ns i : Nat)), (10, .int .i64 (k : Nat))]) (m := ns i + 40) ?_ ?_
          · exact ⟨0, Nat.zero_le _, rfl, hs, rfl, rfl, rfl, rfl, rfl, trivial⟩
          · clear hs
            rintro m f w ⟨k, hk, rfl, hs, hf⟩
            have hobt := hf.chain
            obtain ⟨g, rfl⟩ := hobt
            by_cases hkl : k < ns i + 40
            · refine CW.seq <| CW.seq <| CW.reg <| WL.val rfl (run_move) <| WL.val rfl (run_move) <| WL.val rfl (run_add (c := ((ns i + 40 : Nat) : Int)) rfl rfl (by omega) (by omega)) <| WL.val rfl (run_bT (run_lss rfl rfl) (by omega)) <| WL.nil ?_
              refine CW.cond rfl (fun h => ?_) (fun h => ?_)
              · by_cases hkn : k < ns i
                · have hL0 := hTi.left (w := w) fun p hp => hs.has p (List.mem_cons_of_mem _ (allL_mem hlt hp))
                  have hobt := hL0.baseB (by omega)
                  obtain ⟨bv, ov, cv', hvb⟩ := hobt
                  have hLt : ∀ {w : World}, (∀ p ∈ L2 i, w.heap[p.1]? = some p.2) → At w bv ov (gs (gB1 i) (ns i)) := fun h => by
                    have h1 := hTi.left h
                    rw [hvb] at h1
                    exact h1.atB (by omega)
                  have hcb : ∀ {X : List (Nat × Obj)} {w : World}, Step S X w0 w → w.cell? ⟨bA, oA + i * 1, none⟩ = some (.slice (some ⟨bv, ov, none⟩) (ns i) cv') := fun hs => (hcell hlt hs).trans (congrArg some hvb)
                  repeat (first | refine CW.seq ?_ | refine CW.block ?_ | refine CW.skip ?_)
                  refine CW.reg <| WL.val rfl (run_move) <| WL.val rfl (run_move) <| WL.val rfl (run_bT (run_lss rfl rfl) (by omega)) <| WL.val rfl (run_move) ?_
                  refine WL.yes rfl rfl rfl ?_; refine WL.val rfl (run_move) ?_
                  refine WL.yes rfl rfl rfl ?_; refine WL.val rfl (run_move) ?_
                  refine WL.yes rfl rfl rfl ?_; (first | refine WL.val rfl (run_ixSlN Tryd.underlying42 ty34 rfl rfl (by omega)) ?_ | refine WL.val rfl (run_ixSl Tryd.underlying42 ty34 rfl rfl (by omega)) ?_)
                  refine WL.yes rfl rfl rfl <| WL.val rfl (run_load1 ty34 rfl ((hcb hs))) ?_
                  refine WL.yes rfl rfl rfl ?_; refine WL.val rfl (run_move) ?_
                  refine WL.yes rfl rfl rfl ?_; (first | refine WL.val rfl (run_ixSlN Tryd.underlying34 ty5 rfl rfl (by omega)) ?_ | refine WL.val rfl (run_ixSl Tryd.underlying34 ty5 rfl rfl (by omega)) ?_)
                  refine WL.yes rfl rfl rfl <| WL.val rfl (run_load1 ty5 rfl ((hLt (fun p hp => hs.has p (List.mem_cons_of_mem _ (allL_mem hlt hp)))).gs0 (gB1_len i) (by omega) rfl)) ?_
                  refine WL.yes rfl rfl rfl ?_; refine WL.val rfl (run_move) ?_
                  refine WL.yes rfl rfl rfl <| WL.val rfl (run_mul (c := ((i * 37 : Nat) : Int)) rfl rfl (by omega) (by omega)) ?_
                  refine WL.yes rfl rfl rfl ?_; refine WL.val rfl (run_move) ?_
                  refine WL.yes rfl rfl rfl <| WL.val rfl (run_add (c := ((i * 37 + k : Nat) : Int)) rfl rfl (by omega) (by omega)) ?_
                  refine WL.yes rfl rfl rfl ?_; (first | refine WL.val rfl (run_convU8 Tryd.underlying3 Tryd.underlying5 rfl) ?_ | refine WL.val rfl (run_convInt Tryd.underlying3 Tryd.underlying5 rfl) ?_)
                  refine WL.yes rfl rfl rfl <| WL.val rfl (run_bF (run_neq rfl rfl) (by exact fun h => h rfl)) ?_
                  refine WL.yes rfl rfl rfl ?_; refine WL.val rfl (run_move) ?_
                  refine WL.yes rfl rfl rfl ?_; refine WL.val rfl (run_move) ?_
                  refine WL.yes rfl rfl rfl ?_; refine WL.val rfl (run_move) ?_
                  refine WL.yes rfl rfl rfl ?_; (first | refine WL.val rfl (run_ixSlN Tryd.underlying42 ty34 rfl rfl (by omega)) ?_ | refine WL.val rfl (run_ixSl Tryd.underlying42 ty34 rfl rfl (by omega)) ?_)
                  refine WL.yes rfl rfl rfl <| WL.val rfl (run_load1 ty34 rfl (hs.c0 hmg)) ?_
                  refine WL.yes rfl rfl rfl ?_; refine WL.val rfl (run_move) ?_
                  refine WL.yes rfl rfl rfl ?_; (first | refine WL.val rfl (run_ixSlN Tryd.underlying34 ty5 rfl rfl (by omega)) ?_ | refine WL.val rfl (run_ixSl Tryd.underlying34 ty5 rfl rfl (by omega)) ?_)
                  refine WL.yes rfl rfl rfl <| WL.val rfl (run_load1 ty5 rfl ((hR (fun p hp => hs.has p (List.mem_cons_of_mem _ (allL_mem hlt hp)))).gs1 (gB1_len i) (by omega) rfl)) ?_
                  refine WL.yes rfl rfl rfl ?_; refine WL.val rfl (run_move) ?_
                  refine WL.yes rfl rfl rfl <| WL.val rfl (run_mul (c := ((i * 37 : Nat) : Int)) rfl rfl (by omega) (by omega)) ?_
                  refine WL.yes rfl rfl rfl ?_; refine WL.val rfl (run_move) ?_
                  refine WL.yes rfl rfl rfl <| WL.val rfl (run_add (c := ((i * 37 + k : Nat) : Int)) rfl rfl (by omega) (by omega)) ?_
                  refine WL.yes rfl rfl rfl ?_; (first | refine WL.val rfl (run_convU8 Tryd.underlying3 Tryd.underlying5 rfl) ?_ | refine WL.val rfl (run_convInt Tryd.underlying3 Tryd.underlying5 rfl) ?_)
                  refine WL.yes rfl rfl rfl <| WL.val rfl (run_bF (run_neq rfl rfl) (by exact fun h => h rfl)) ?_
                  refine WL.yes rfl rfl rfl ?_; (first | refine WL.val rfl (run_pickT rfl) ?_ | refine WL.val rfl (run_pickF rfl) ?_)
                  refine WL.val rfl (run_pickT rfl) <| WL.val rfl (run_move) ?_
                  refine WL.yes rfl rfl rfl ?_; refine WL.val rfl (run_move) ?_
                  refine WL.yes rfl rfl rfl ?_; refine WL.val rfl (run_move) ?_
                  refine WL.yes rfl rfl rfl <| WL.val rfl (run_bF (run_geq rfl rfl) (by omega)) ?_
                  refine WL.yes rfl rfl rfl ?_; refine WL.val rfl (run_move) ?_
                  refine WL.no rfl rfl rfl (.inl rfl) <| WL.no rfl rfl rfl (.inl rfl) <| WL.no rfl rfl rfl (.inl rfl) <| WL.no rfl rfl rfl (.inl rfl) <| WL.no rfl rfl rfl (.inl rfl) <| WL.no rfl rfl rfl (.inl rfl) <| WL.no rfl rfl rfl (.inl rfl) <| WL.no rfl rfl rfl (.inl rfl) <| WL.no rfl rfl rfl (.inl rfl) <| WL.no rfl rfl rfl (.inl rfl) <| WL.no rfl rfl rfl (.inl rfl) <| WL.no rfl rfl rfl (.inl rfl) ?_
                  refine WL.no rfl rfl rfl (.inl rfl) <| WL.no rfl rfl rfl (.inl rfl) <| WL.no rfl rfl rfl (.inl rfl) <| WL.no rfl rfl rfl (.inl rfl) ?_
                  refine WL.yes rfl rfl rfl ?_; (first | refine WL.val rfl (run_pickT rfl) ?_ | refine WL.val rfl (run_pickF rfl) ?_)
                  refine WL.val rfl (run_pickF rfl) <| WL.nil ?_
                  refine CW.cond rfl (fun h => ?_) (fun h => ?_)
                  · cases h
                  refine CW.skip <| CW.reg <| WL.val rfl (run_move) <| WL.val rfl (run_add (c := ((k + 1 : Nat) : Int)) rfl rfl (by omega) (by omega)) <| WL.val rfl (run_assign) <| WL.nil ?_
                  refine (show _ ∧ _ from ⟨rfl, _, ?_, k + 1, by omega, rfl, hs, rfl, rfl, rfl, rfl, rfl, trivial⟩)
                  omega
                · have hobt : ∃ j, k = ns i + j := ⟨k - ns i, by omega⟩
                  obtain ⟨j, rfl⟩ := hobt
                  repeat (first | refine CW.seq ?_ | refine CW.block ?_ | refine CW.skip ?_)
                  refine CW.reg <| WL.val rfl (run_move) <| WL.val rfl (run_move) <| WL.val rfl (run_bF (run_lss rfl rfl) (by omega)) <| WL.val rfl (run_move) <| WL.no rfl rfl rfl (.inl rfl) <| WL.no rfl rfl rfl (.inl rfl) <| WL.no rfl rfl rfl (.inl rfl) <| WL.no rfl rfl rfl (.inl rfl) <| WL.no rfl rfl rfl (.inl rfl) <| WL.no rfl rfl rfl (.inl rfl) <| WL.no rfl rfl rfl (.inl rfl) ?_
                  refine WL.no rfl rfl rfl (.inl rfl) <| WL.no rfl rfl rfl (.inl rfl) <| WL.no rfl rfl rfl (.inl rfl) <| WL.no rfl rfl rfl (.inl rfl) <| WL.no rfl rfl rfl (.inl rfl) <| WL.no rfl rfl rfl (.inl rfl) <| WL.no rfl rfl rfl (.inl rfl) <| WL.no rfl rfl rfl (.inr rfl) <| WL.no rfl rfl rfl (.inr rfl) <| WL.no rfl rfl rfl (.inr rfl) <| WL.no rfl rfl rfl (.inr rfl) <| WL.no rfl rfl rfl (.inr rfl) ?_
                  refine WL.no rfl rfl rfl (.inr rfl) <| WL.no rfl rfl rfl (.inr rfl) <| WL.no rfl rfl rfl (.inr rfl) <| WL.no rfl rfl rfl (.inr rfl) <| WL.no rfl rfl rfl (.inr rfl) <| WL.no rfl rfl rfl (.inr rfl) <| WL.no rfl rfl rfl (.inr rfl) <| WL.no rfl rfl rfl (.inr rfl) <| WL.no rfl rfl rfl (.inl rfl) <| WL.val rfl (run_pickF rfl) <| WL.val rfl (run_move) ?_
                  refine WL.yes rfl rfl rfl ?_; refine WL.val rfl (run_move) ?_
                  refine WL.yes rfl rfl rfl ?_; refine WL.val rfl (run_move) ?_
                  refine WL.yes rfl rfl rfl <| WL.val rfl (run_bT (run_geq rfl rfl) (by omega)) ?_
                  refine WL.yes rfl rfl rfl ?_; refine WL.val rfl (run_move) ?_
                  refine WL.yes rfl rfl rfl ?_; refine WL.val rfl (run_move) ?_
                  refine WL.yes rfl rfl rfl ?_; refine WL.val rfl (run_move) ?_
                  refine WL.yes rfl rfl rfl ?_; (first | refine WL.val rfl (run_ixSlN Tryd.underlying42 ty34 rfl rfl (by omega)) ?_ | refine WL.val rfl (run_ixSl Tryd.underlying42 ty34 rfl rfl (by omega)) ?_)
                  refine WL.yes rfl rfl rfl <| WL.val rfl (run_load1 ty34 rfl (hs.c0 hmg)) ?_
                  refine WL.yes rfl rfl rfl ?_; refine WL.val rfl (run_move) ?_
                  refine WL.yes rfl rfl rfl ?_; (first | refine WL.val rfl (run_ixSlN Tryd.underlying34 ty5 rfl rfl (by omega)) ?_ | refine WL.val rfl (run_ixSl Tryd.underlying34 ty5 rfl rfl (by omega)) ?_)
                  refine WL.yes rfl rfl rfl <| WL.val rfl (run_load1 ty5 rfl ((hR (fun p hp => hs.has p (List.mem_cons_of_mem _ (allL_mem hlt hp)))).gs2 (gB1_len i) (gB2_len i) (by omega) rfl)) ?_
                  refine WL.yes rfl rfl rfl ?_; refine WL.val rfl (run_move) ?_
                  refine WL.yes rfl rfl rfl <| WL.val rfl (run_mul (c := ((i * 37 : Nat) : Int)) rfl rfl (by omega) (by omega)) <| WL.yes rfl rfl rfl <| WL.val rfl (run_sub (c := (255 - (i : Int) * 37)) rfl rfl (by omega) (by omega)) ?_
                  refine WL.yes rfl rfl rfl ?_; refine WL.val rfl (run_move) ?_
                  refine WL.yes rfl rfl rfl ?_; refine WL.val rfl (run_move) ?_
                  refine WL.yes rfl rfl rfl <| WL.val rfl (run_sub (c := ((j : Nat) : Int)) rfl rfl (by omega) (by omega)) <| WL.yes rfl rfl rfl <| WL.val rfl (run_sub (c := (255 - (i : Int) * 37 - (j : Int))) rfl rfl (by omega) (by omega)) <| WL.yes rfl rfl rfl <| WL.val rfl (run_convM Tryd.underlying3 Tryd.underlying5 rfl) <| WL.yes rfl rfl rfl <| WL.val rfl (run_bF (run_neq rfl rfl) (by exact fun h => h rfl)) ?_
                  refine WL.yes rfl rfl rfl ?_; (first | refine WL.val rfl (run_pickT rfl) ?_ | refine WL.val rfl (run_pickF rfl) ?_)
                  refine WL.val rfl (run_pickF rfl) <| WL.nil ?_
                  refine CW.cond rfl (fun h => ?_) (fun h => ?_)
                  · cases h
                  refine CW.skip <| CW.reg <| WL.val rfl (run_move) <| WL.val rfl (run_add (c := ((ns i + j + 1 : Nat) : Int)) rfl rfl (by omega) (by omega)) <| WL.val rfl (run_assign) <| WL.nil ?_
                  refine (show _ ∧ _ from ⟨rfl, _, ?_, ns i + j + 1, by omega, rfl, hs, rfl, rfl, rfl, rfl, rfl, trivial⟩)
                  omega
              · cases h
            · obtain rfl : k = ns i + 40 := by omega
              refine CW.seq <| CW.seq <| CW.reg <| WL.val rfl (run_move) <| WL.val rfl (run_move) <| WL.val rfl (run_add (c := ((ns i + 40 : Nat) : Int)) rfl rfl (by omega) (by omega)) <| WL.val rfl (run_bF (run_lss rfl rfl) (by omega)) <| WL.nil ?_
              repeat (first | refine CW.exit ?_ | refine CW.condF rfl ?_)
              refine CW.reg <| WL.val rfl (run_move) <| WL.val rfl (run_add (c := ((i + 1 : Nat) : Int)) rfl rfl (by omega) (by omega)) <| WL.val rfl (run_assign) <| WL.nil ?_
              refine (show _ ∧ _ from ⟨rfl, _, ?_, i + 1, by omega, rfl, hs, rfl, rfl, rfl, trivial⟩)
              omega
        · cases h
      · obtain rfl : i = N := by omega
        refine CW.seq <| CW.seq <| CW.reg <| WL.val rfl (run_move) <| WL.val rfl (run_move) <| WL.val rfl (run_lenSl Tryd.underlying42 rfl) <| WL.val rfl (run_bF (run_lss rfl rfl) (by omega)) <| WL.nil ?_
        repeat (first | refine CW.exit ?_ | refine CW.condF rfl ?_)
        exact ⟨rfl, hs⟩
  clear hs
  intro f w hs
  refine CW.seq <| CW.reg <| WL.val rfl (run_assign) <| WL.nil ?_
  refine CW.ret ?_
  refine fin_ret1 rfl ?_
  exact ⟨rfl, hs.clear⟩
end
end Go.Gx
/-! Gr5 -/
namespace Go.Gx
open Go.Proofs
set_option linter.unusedVariables false
set_option linter.unusedSimpArgs false
set_option maxRecDepth 100000
set_option maxHeartbeats 8000000 in
theorem grownNames_spec0 {aA : Option Addr} {cA : Nat} {w0 : World} :
    Calls Tryd.prog 18 #[.slice aA 0 cA] w0 fun e w' => e = .returned (.bool true) ∧ Step [] [] w0 w' := by
  have hs : Step [] [] w0 w0 := Step.refl w0
  have hav : ∀ w : World, Sl w 1 (.slice aA 0 cA) 0 [] := fun w => ⟨rfl, .inl ⟨aA, cA, rfl, rfl⟩⟩
  refine calls (n := 124) Tryd.func18 rfl rfl rfl ?_
  refine CW.seq <| CW.reg <| WL.val rfl (run_assign) <| WL.nil <| CW.seq <| CW.seq <| CW.reg <| WL.val rfl (run_assign) <| WL.nil <| CW.block ?_
  refine CW.loop (fun m f w' => m = 0 ∧ Step [] [] w0 w' ∧ Holds f [(0, .slice aA 0 cA), (3, .int .i64 0)]) (m := 0) ?_ ?_
  · exact ⟨rfl, hs, rfl, rfl, trivial⟩
  clear hs
  rintro m f w ⟨rfl, hs, hf⟩
  have hobt := hf.chain
  obtain ⟨g, rfl⟩ := hobt
  refine CW.seq <| CW.seq <| CW.reg <| WL.val rfl (run_move) <| WL.val rfl (run_move) <| WL.val rfl (run_lenSl Tryd.underlying43 rfl) <| WL.val rfl (run_bF (run_lss rfl rfl) (by omega)) <| WL.nil ?_
  repeat (first | refine CW.seq ?_ | refine CW.exit ?_ | refine CW.condF rfl ?_)
  refine CW.reg <| WL.val rfl (run_assign) <| WL.nil <| CW.seq <| CW.reg <| WL.val rfl (run_move) <| WL.val rfl (run_move) ?_
  refine WL.append Tryd.underlying43 Tryd.underlying43 ty51 rfl (by decide) rfl rfl (OwnSl.nil _ _) (hs) (hav w) (Cells1.of_all rfl) (by first | omega | (simp only [List.length_append, List.length_cons, List.length_nil]; omega)) rfl (fun v40 Lv40 w hv40 hs => ?_)
  refine WL.val rfl (run_assign) <| WL.nil ?_
  replace hs := hs.clear
  have hobt := hv40.form
  obtain ⟨am, cm, rfl⟩ := hobt
  refine CW.seq <| CW.seq <| CW.reg <| WL.val rfl (run_assign) <| WL.nil <| CW.block ?_
  refine CW.loop (fun m f w' => ∃ k : Nat, k ≤ 20 ∧ m = 20 - k ∧ Step [] [] w0 w' ∧ Holds f [(0, .slice aA 0 cA), (6, .int .i64 (k : Nat))]) (m := 20) ?_ ?_
  · exact ⟨0, by omega, rfl, hs, rfl, rfl, trivial⟩
  clear hs
  rintro m f w ⟨k, hk, rfl, hs, hf⟩
  have hobt := hf.chain
  obtain ⟨g, rfl⟩ := hobt
  by_cases hkM : k < 20
  · refine CW.seq <| CW.seq <| CW.reg <| WL.val rfl (run_move) <| WL.val rfl (run_bT (run_lss rfl rfl) (by omega)) <| WL.nil ?_
    refine CW.cond rfl (fun h => ?_) (fun h => ?_)
    · repeat (first | refine CW.seq ?_ | refine CW.block ?_ | refine CW.skip ?_)
      refine CW.reg <| WL.val rfl (run_assign) <| WL.nil <| CW.block ?_
      refine CW.loop (fun m f w' => m = 0 ∧ Step [] [] w0 w' ∧ Holds f [(0, .slice aA 0 cA), (6, .int .i64 (k : Nat)), (7, .int .i64 0)]) (m := 0) ?_ ?_
      · exact ⟨rfl, hs, rfl, rfl, rfl, trivial⟩
      clear hs
      rintro m f w ⟨rfl, hs, hf⟩
      have hobt := hf.chain
      obtain ⟨g, rfl⟩ := hobt
      refine CW.seq <| CW.seq <| CW.reg <| WL.val rfl (run_move) <| WL.val rfl (run_move) <| WL.val rfl (run_lenSl Tryd.underlying43 rfl) <| WL.val rfl (run_bF (run_lss rfl rfl) (by omega)) <| WL.nil ?_
      repeat (first | refine CW.exit ?_ | refine CW.condF rfl ?_)
      refine CW.reg <| WL.val rfl (run_move) <| WL.val rfl (run_add (c := ((k + 1 : Nat) : Int)) rfl rfl (by omega) (by omega)) <| WL.val rfl (run_assign) <| WL.nil ?_
      refine (show _ ∧ _ from ⟨rfl, _, ?_, k + 1, by omega, rfl, hs, rfl, rfl, trivial⟩)
      omega
    · cases h
  · obtain rfl : k = 20 := by omega
    refine CW.seq <| CW.seq <| CW.reg <| WL.val rfl (run_move) <| WL.val rfl (run_bF (run_lss rfl rfl) (by omega)) <| WL.nil ?_
    repeat (first | refine CW.seq ?_ | refine CW.exit ?_ | refine CW.condF rfl ?_)
    refine CW.reg <| WL.val rfl (run_assign) <| WL.nil <| CW.block ?_
    refine CW.loop (fun m f w' => m = 0 ∧ Step [] [] w0 w' ∧ Holds f [(0, .slice aA 0 cA), (8, .int .i64 0)]) (m := 0) ?_ ?_
    · exact ⟨rfl, hs, rfl, rfl, trivial⟩
    clear hs
    rintro m f w ⟨rfl, hs, hf⟩
    have hobt := hf.chain
    obtain ⟨g, rfl⟩ := hobt
    refine CW.seq <| CW.seq <| CW.reg <| WL.val rfl (run_move) <| WL.val rfl (run_move) <| WL.val rfl (run_lenSl Tryd.underlying43 rfl) <| WL.val rfl (run_bF (run_lss rfl rfl) (by omega)) <| WL.nil ?_
    repeat (first | refine CW.seq ?_ | refine CW.exit ?_ | refine CW.condF rfl ?_)
    refine CW.reg <| WL.val rfl (run_assign) <| WL.nil ?_
    refine CW.ret ?_
    refine fin_ret1 rfl ?_
    exact ⟨rfl, hs⟩
section
variable {N : Nat} {bA oA cA : Nat} {vs : Nat → Value} {ns : Nat → Nat} {xs : Nat → List Value} {Ls : Nat → List (Nat × Obj)} {w0 : World}
set_option maxHeartbeats 8000000 in
theorem grownNames_spec (hN : N ≤ 1000) (hN0 : 0 < N) (ha : At w0 bA oA ((List.range N).map vs)) (hO : ∀ i, i < N → OwnSl 9 1 (vs i) (ns i) (xs i) (Ls i)) (hn : ∀ i, i < N → ns i ≤ 2000000) (hw : Step ((allL Ls N).map (·.1)) (allL Ls N) w0 w0) (hbA : bA ∉ (allL Ls N).map (·.1)) :
    Calls Tryd.prog 18 #[.slice (some ⟨bA, oA, none⟩) N cA] w0 fun e w' => e = .returned (.bool true) ∧ Step ((allL Ls N).map (·.1)) [] w0 w' := by
  have hs : Step ((allL Ls N).map (·.1)) (allL Ls N) w0 w0 := hw
  have hobt : ∃ S, (allL Ls N).map (·.1) = S := ⟨_, rfl⟩
  obtain ⟨S, hS⟩ := hobt
  rw [hS] at hs hbA ⊢
  have hvl : ((List.range N).map vs).length = N := by simp
  have hcell : ∀ {i : Nat} {X : List (Nat × Obj)} {w : World}, i < N → Step S X w0 w → w.cell? ⟨bA, oA + i * 1, none⟩ = some (vs i) := fun {i X w} hi hs => by
    rw [Nat.mul_one]
    exact (ha.step hs hbA).cell (by rw [List.getElem?_map, List.getElem?_range hi]; rfl)
  refine calls (n := 124) Tryd.func18 rfl rfl rfl ?_
  refine CW.seq <| CW.reg <| WL.val rfl (run_assign) <| WL.nil ?_
  refine CW.seqM (fun f w => ∃ Lc : Nat → List (Nat × Obj), (∀ q, q < N → OwnSl 9 1 (vs q) (ns q) (gs (gN1 q) (ns q)) (Lc q)) ∧ Step S (allL Lc N) w0 w ∧ Holds f [(0, .slice (some ⟨bA, oA, none⟩) N cA)]) ?_ ?_
  · refine CW.seq <| CW.reg <| WL.val rfl (run_assign) <| WL.nil <| CW.block ?_
    refine CW.loop (fun m f w' => ∃ (i : Nat) (Lc : Nat → List (Nat × Obj)) (ys : Nat → List Value), i ≤ N ∧ m = N - i ∧ (∀ q, q < i → ys q = (gs (gN1 q) (ns q))) ∧ (∀ q, q < N → OwnSl 9 1 (vs q) (ns q) (ys q) (Lc q)) ∧ Step S (allL Lc N) w0 w' ∧ Holds f [(0, .slice (some ⟨bA, oA, none⟩) N cA), (3, .int .i64 (i : Nat))]) (m := N) ?_ ?_
    · exact ⟨0, Ls, xs, Nat.zero_le _, rfl, fun q hq => (by omega), hO, hs, rfl, rfl, trivial⟩
    · rintro m f w ⟨i, Lc, ys, hi, rfl, hy, ho, hs, hf⟩
      have hobt := hf.chain
      obtain ⟨g, rfl⟩ := hobt
      by_cases hlt : i < N
      · refine CW.seq <| CW.seq <| CW.reg <| WL.val rfl (run_move) <| WL.val rfl (run_move) <| WL.val rfl (run_lenSl Tryd.underlying43 rfl) <| WL.val rfl (run_bT (run_lss rfl rfl) (by omega)) <| WL.nil ?_
        refine CW.cond rfl (fun h => ?_) (fun h => ?_)
        · have hoi := ho i hlt
          have hni := hn i hlt
          have hobt := hoi.form
          obtain ⟨ai, ci, hvi⟩ := hobt
          have hvc : ∀ {X : List (Nat × Obj)} {w : World}, Step S X w0 w → w.cell? ⟨bA, oA + i * 1, none⟩ = some (.slice ai (ns i) ci) := fun hs => (hcell hlt hs).trans (congrArg some hvi)
          refine CW.skip ?_
          refine CW.seqM (fun f w => ∃ L', OwnSl 9 1 (vs i) (ns i) (gs (gN1 i) (ns i)) L' ∧ Step S (L' ++ othL Lc i N) w0 w ∧ Holds f [(0, .slice (some ⟨bA, oA, none⟩) N cA), (3, .int .i64 (i : Nat))]) ?_ ?_
          · have hop : Step S (Lc i ++ othL Lc i N) w0 w := Step.openA (A := []) hlt hs
            clear hs
            have hs := hop
            by_cases h0 : ns i = 0
            · repeat (first | refine CW.seq ?_ | refine CW.block ?_)
              refine CW.reg <| WL.val rfl (run_assign) <| WL.nil <| CW.block ?_
              refine CW.loop (fun m f w' => m = 0 ∧ Step S (Lc i ++ othL Lc i N) w0 w' ∧ Holds f [(0, .slice (some ⟨bA, oA, none⟩) N cA), (3, .int .i64 (i : Nat)), (4, .int .i64 0)]) (m := 0) ?_ ?_
              · exact ⟨rfl, hs, rfl, rfl, rfl, trivial⟩
              · rintro m f w ⟨rfl, hs, hf⟩
                have hobt := hf.chain
                obtain ⟨g, rfl⟩ := hobt
                refine CW.seq <| CW.seq <| CW.reg <| WL.val rfl (run_move) <| WL.val rfl (run_move) <| WL.val rfl (run_move) <| WL.val rfl (run_ixSlN Tryd.underlying43 ty51 rfl rfl (by omega)) <| WL.val rfl (run_load1 ty51 rfl ((hvc hs))) <| WL.val rfl (run_lenSl Tryd.underlying51 rfl) <| WL.val rfl (run_bF (run_lss rfl rfl) (by omega)) <| WL.nil ?_
                repeat (first | refine CW.exit ?_ | refine CW.condF rfl ?_)
                refine ⟨rfl, Lc i, ?_, hs, rfl, rfl, trivial⟩
                have e1 := hoi.1
                rw [h0, Nat.zero_mul] at e1
                have e2 : ys i = gs (gN1 i) (ns i) := by rw [List.eq_nil_of_length_eq_zero e1, h0]; rfl
                rw [← e2]
                exact hoi
            · have hobt := hoi.some1 (by omega)
              obtain ⟨b, cap, more, hvb, hLb, hcap⟩ := hobt
              have hyl := hoi.1
              rw [hLb] at hs
              have hvb' : ∀ {X : List (Nat × Obj)} {w : World}, Step S X w0 w → w.cell? ⟨bA, oA + i * 1, none⟩ = some (.slice (some ⟨b, 0, none⟩) (ns i) cap) := fun hs => (hcell hlt hs).trans (congrArg some hvb)
              repeat (first | refine CW.seq ?_ | refine CW.block ?_)
              refine CW.reg <| WL.val rfl (run_assign) <| WL.nil <| CW.block ?_
              refine CW.loop (fun m f w' => ∃ (k : Nat) (Z : List Value), k ≤ ns i ∧ m = ns i - k ∧ Z.length = (ns i - k) * 1 ∧ Step S ((b, blk 9 (gs (gN1 i) k ++ (Z ++ more))) :: othL Lc i N) w0 w' ∧ Holds f [(0, .slice (some ⟨bA, oA, none⟩) N cA), (3, .int .i64 (i : Nat)), (4, .int .i64 (k : Nat))]) (m := ns i) ?_ ?_
              · exact ⟨0, ys i, Nat.zero_le _, rfl, hyl, hs, rfl, rfl, rfl, trivial⟩
              · clear hs
                rintro m f w ⟨k, Z, hk, rfl, hZ, hs, hf⟩
                have hobt := hf.chain
                obtain ⟨g, rfl⟩ := hobt
                by_cases hkl : k < ns i
                · have hgl := gs_len (gN1_len i) k
                  have hbl : (gs (gN1 i) k ++ (Z ++ more)).length = k * 1 + (ns i - k) * 1 + more.length := by rw [List.length_append, List.length_append, hgl, hZ]; omega
                  have hml : (markL (1000 * i + k)).length ≤ 11 := markL_len 10 _ (by omega)
                  have hmk := fun w => mark_spec 10 (1000 * i + k) w (by omega) (by omega)
                  refine CW.seq <| CW.seq <| CW.reg <| WL.val rfl (run_move) <| WL.val rfl (run_move) <| WL.val rfl (run_move) <| WL.val rfl (run_ixSlN Tryd.underlying43 ty51 rfl rfl (by omega)) <| WL.val rfl (run_load1 ty51 rfl ((hvb' hs))) <| WL.val rfl (run_lenSl Tryd.underlying51 rfl) <| WL.val rfl (run_bT (run_lss rfl rfl) (by omega)) <| WL.nil ?_
                  refine CW.cond rfl (fun h => ?_) (fun h => ?_)
                  · repeat (first | refine CW.seq ?_ | refine CW.block ?_ | refine CW.skip ?_)
                    refine CW.any (A := fun w => w.cell? ⟨bA, oA + i * 1, none⟩ = some (.slice (some ⟨b, 0, none⟩) (ns i) cap)) (C := fun w => w.cell? ⟨bA, oA + i * 1, none⟩ = some (.slice (some ⟨b, 0, none⟩) (ns i) cap)) 1000000 12 mixedP rfl ?_
                    replace hs := hs.drew
                    refine AL.val 0 rfl (by kernel_rfl) rfl (fun w hs => run_move) ?_
                    refine AL.val 1 rfl (by kernel_rfl) rfl (fun w hs => run_move) ?_
                    refine AL.val 2 rfl (by kernel_rfl) rfl (fun w hs => run_ixSlN Tryd.underlying43 ty51 rfl rfl (by omega)) ?_
                    refine AL.val 3 rfl (by kernel_rfl) rfl (fun w hs => run_load1 ty51 rfl (hs)) ?_
                    refine AL.val 4 rfl (by kernel_rfl) rfl (fun w hs => run_move) ?_
                    refine AL.val 5 rfl (by kernel_rfl) rfl (fun w hs => run_move) ?_
                    refine AL.val 6 rfl (by kernel_rfl) rfl (fun w hs => run_mul (c := ((1000 * i : Nat) : Int)) rfl rfl (by omega) (by omega)) ?_
                    refine AL.val 7 rfl (by kernel_rfl) rfl (fun w hs => run_move) ?_
                    refine AL.val 8 rfl (by kernel_rfl) rfl (fun w hs => run_add (c := ((1000 * i + k : Nat) : Int)) rfl rfl (by omega) (by omega)) ?_
                    refine AL.one 9 (by kernel_rfl) rfl (hvb' hs) (hvb' hs) ?_
                    refine WL.enter rfl (run_call en43 rfl rfl) (hmk _) ?_
                    rintro e w ⟨rfl, hq⟩
                    refine ⟨_, rfl, ?_⟩
                    replace hs := hs.call0 hq
                    refine WL.nil ?_
                    refine ⟨rfl, ?_⟩
                    refine AL.val 10 rfl (by kernel_rfl) rfl (fun w hs => run_ixSlN Tryd.underlying51 ty9 rfl rfl (by omega)) ?_
                    refine AL.one 11 (by kernel_rfl) rfl (hvb' hs) (hvb' hs) ?_
                    refine WL.store1 ty9 rfl rfl (rfl) hs (by first | (simp; done) | omega | (simp only [List.length_append, List.length_replicate, List.length_cons, List.length_nil, List.length_set]; omega) | (simp [Ent.cells, u8s]; done) | exact Nat.le_of_ble_eq_true rfl) (fun w hs => ?_)
                    refine WL.nil ?_
                    refine ⟨rfl, ?_⟩
                    refine AL.end (by kernel_rfl) (hvb' hs) (hvb' hs) ?_
                    replace hs : Step S ((b, blk 9 (gs (gN1 i) (k + 1) ++ (Z.drop 1 ++ more))) :: othL Lc i N) w0 w := by
                      rw [← gs_set rfl (gN1_len i) (by omega)]
                      exact hs
                    refine CW.reg <| WL.val rfl (run_move) <| WL.val rfl (run_add (c := ((k + 1 : Nat) : Int)) rfl rfl (by omega) (by omega)) <| WL.val rfl (run_assign) <| WL.nil ?_
                    refine (show _ ∧ _ from ⟨rfl, _, ?_, k + 1, Z.drop 1, by omega, rfl, (by rw [List.length_drop, hZ]; omega), hs, rfl, rfl, rfl, trivial⟩)
                    omega
                  · cases h
                · obtain rfl : k = ns i := by omega
                  refine CW.seq <| CW.seq <| CW.reg <| WL.val rfl (run_move) <| WL.val rfl (run_move) <| WL.val rfl (run_move) <| WL.val rfl (run_ixSlN Tryd.underlying43 ty51 rfl rfl (by omega)) <| WL.val rfl (run_load1 ty51 rfl ((hvb' hs))) <| WL.val rfl (run_lenSl Tryd.underlying51 rfl) <| WL.val rfl (run_bF (run_lss rfl rfl) (by omega)) <| WL.nil ?_
                  repeat (first | refine CW.exit ?_ | refine CW.condF rfl ?_)
                  have hZ0 : Z = [] := List.eq_nil_of_length_eq_zero (by rw [hZ, Nat.sub_self, Nat.zero_mul])
                  rw [hZ0, List.nil_append] at hs
                  refine ⟨rfl, [_], ⟨gs_len (gN1_len i) _, .inr ⟨b, cap, more, hvb, rfl, ?_⟩⟩, hs, rfl, rfl, trivial⟩
                  rw [List.length_append, gs_len (gN1_len i)]
                  rw [List.length_append, hyl] at hcap
                  exact hcap
          clear hs hf
          rintro f w ⟨L', hown, hs, hf⟩
          have hobt := hf.chain
          obtain ⟨g, rfl⟩ := hobt
          replace hs : Step S (allL (putL Lc i L') N) w0 w := Step.shutA (A := []) hlt hs
          refine CW.reg <| WL.val rfl (run_move) <| WL.val rfl (run_add (c := ((i + 1 : Nat) : Int)) rfl rfl (by omega) (by omega)) <| WL.val rfl (run_assign) <| WL.nil ?_
          refine (show _ ∧ _ from ⟨rfl, _, ?_, i + 1, putL Lc i L', (fun q => if q = i then gs (gN1 i) (ns i) else ys q), by omega, rfl, ?_, ?_, hs, rfl, rfl, trivial⟩)
          · omega
          · intro q hq
            by_cases hqi : q = i
            · subst hqi; simp
            · simp only [hqi, if_false]
              exact hy q (by omega)
          · intro q hq
            by_cases hqi : q = i
            · subst hqi; simp only [putL, if_true]; exact hown
            · simp only [putL, hqi, if_false]; exact ho q hq
        · cases h
      · obtain rfl : i = N := by omega
        refine CW.seq <| CW.seq <| CW.reg <| WL.val rfl (run_move) <| WL.val rfl (run_move) <| WL.val rfl (run_lenSl Tryd.underlying43 rfl) <| WL.val rfl (run_bF (run_lss rfl rfl) (by omega)) <| WL.nil ?_
        repeat (first | refine CW.exit ?_ | refine CW.condF rfl ?_)
        exact ⟨rfl, Lc, fun q hq => by rw [← hy q hq]; exact ho q hq, hs, rfl, trivial⟩
  clear hs
  rintro f w ⟨Lc, ho, hs, hf⟩
  have hobt := hf.chain
  obtain ⟨g, rfl⟩ := hobt
  refine CW.seq <| CW.reg <| WL.val rfl (run_assign) <| WL.nil ?_
  have hcv : Cells1 ((List.range N).map vs) := fun v hv => by
    have hobt := List.mem_map.1 hv
    obtain ⟨q, hq, rfl⟩ := hobt
    exact (ho q (by simpa using hq)).one
  have hav : ∀ {X : List (Nat × Obj)} {w : World}, Step S X w0 w → Sl w 1 (.slice (some ⟨bA, oA, none⟩) N cA) N ((List.range N).map vs) := fun hs => .mk (by simp) (ha.step hs hbA)
  refine CW.seq <| CW.reg <| WL.val rfl (run_move) <| WL.val rfl (run_move) ?_
  refine WL.append Tryd.underlying43 Tryd.underlying43 ty51 rfl (by decide) rfl rfl (OwnSl.nil _ _) (hs) (hav hs) (hcv) (by first | omega | (simp only [List.length_append, List.length_cons, List.length_nil]; omega)) rfl (fun v40 Lv40 w hv40 hs => ?_)
  refine WL.val rfl (run_assign) <| WL.nil ?_
  rw [Nat.zero_add, List.nil_append] at hv40
  have hobt := hv40.some1 hN0
  obtain ⟨bm, cm, room, hvm, hLm, hcm⟩ := hobt
  rw [hLm] at hs
  replace hs : Step S ((bm, blk 51 ((List.range N).map vs ++ room)) :: allL Lc N) w0 w := hs
  have hvc : ∀ {i : Nat} {X : List (Nat × Obj)} {w : World}, i < N → Step S X w0 w → ∃ a c, vs i = .slice a (ns i) c ∧ w.cell? ⟨bA, oA + i * 1, none⟩ = some (.slice a (ns i) c) := fun {i X w} hi hs => by
    have hobt := (ho i hi).form
    obtain ⟨a, c, hvi⟩ := hobt
    exact ⟨a, c, hvi, (hcell hi hs).trans (congrArg some hvi)⟩
  refine CW.seqM (fun f w => ∃ (us : Nat → Value) (L2 : Nat → List (Nat × Obj)), (∀ q, q < N → Tw 9 1 (vs q) (us q) (ns q) 20 (gs (gN1 q) (ns q)) (gs (gN2 q) 20) (L2 q)) ∧ Step S ((bm, blk 51 ((List.range N).map us ++ room)) :: allL L2 N) w0 w ∧ Holds f [(0, .slice (some ⟨bA, oA, none⟩) N cA), (5, .slice (some ⟨bm, 0, none⟩) N cm)]) ?_ ?_
  · refine CW.seq <| CW.reg <| WL.val rfl (run_assign) <| WL.nil <| CW.block ?_
    refine CW.loop (fun m f w' => ∃ (k : Nat) (us : Nat → Value) (L2 : Nat → List (Nat × Obj)), k ≤ 20 ∧ m = 20 - k ∧ (∀ q, q < N → Tw 9 1 (vs q) (us q) (ns q) k (gs (gN1 q) (ns q)) (gs (gN2 q) k) (L2 q)) ∧ Step S ((bm, blk 51 ((List.range N).map us ++ room)) :: allL L2 N) w0 w' ∧ Holds f [(0, .slice (some ⟨bA, oA, none⟩) N cA), (5, .slice (some ⟨bm, 0, none⟩) N cm), (6, .int .i64 (k : Nat))]) (m := 20) ?_ ?_
    · exact ⟨0, vs, Lc, by omega, rfl, fun q hq => Tw.start (ho q hq), hs, rfl, hvm, rfl, trivial⟩
    · clear hs
      rintro m f w ⟨k, us, L2, hk, rfl, hT, hs, hf⟩
      have hobt := hf.chain
      obtain ⟨g, rfl⟩ := hobt
      by_cases hk20 : k < 20
      · refine CW.seq <| CW.seq <| CW.reg <| WL.val rfl (run_move) <| WL.val rfl (run_bT (run_lss rfl rfl) (by omega)) <| WL.nil ?_
        refine CW.cond rfl (fun h => ?_) (fun h => ?_)
        · repeat (first | refine CW.seq ?_ | refine CW.block ?_ | refine CW.skip ?_)
          refine CW.reg <| WL.val rfl (run_assign) <| WL.nil <| CW.block ?_
          refine CW.loop (fun m f w' => ∃ (i : Nat) (us : Nat → Value) (L2 : Nat → List (Nat × Obj)), i ≤ N ∧ m = N - i ∧ (∀ q, q < N → q < i → Tw 9 1 (vs q) (us q) (ns q) (k + 1) (gs (gN1 q) (ns q)) (gs (gN2 q) (k + 1)) (L2 q)) ∧ (∀ q, q < N → i ≤ q → Tw 9 1 (vs q) (us q) (ns q) k (gs (gN1 q) (ns q)) (gs (gN2 q) k) (L2 q)) ∧ Step S ((bm, blk 51 ((List.range N).map us ++ room)) :: allL L2 N) w0 w' ∧ Holds f [(0, .slice (some ⟨bA, oA, none⟩) N cA), (5, .slice (some ⟨bm, 0, none⟩) N cm), (6, .int .i64 (k : Nat)), (7, .int .i64 (i : Nat))]) (m := N) ?_ ?_
          · exact ⟨0, us, L2, Nat.zero_le _, rfl, fun q _ h => (by omega), fun q hq _ => hT q hq, hs, rfl, rfl, rfl, rfl, trivial⟩
          · clear hs hT
            rintro m f w ⟨i, us, L2, hi, rfl, hT1, hT0, hs, hf⟩
            have hobt := hf.chain
            obtain ⟨g, rfl⟩ := hobt
            by_cases hlt : i < N
            · have hTi := hT0 i hlt (Nat.le_refl _)
              have hni := hn i hlt
              have hobt := hTi.formR
              obtain ⟨au, cu, hui⟩ := hobt
              have hmg : ((List.range N).map us ++ room)[0 + i * 1]? = some (.slice au (ns i + k) cu) := (map_get hlt).trans (congrArg some hui)
              have hml2 : ((List.range N).map us ++ room).length = N + room.length := by simp
              rw [hui] at hTi
              have hml : (markL (1000 * i + k)).length ≤ 11 := markL_len 10 _ (by omega)
              have hmk := fun w => mark_spec 10 (1000 * i + k) w (by omega) (by omega)
              refine CW.seq <| CW.seq <| CW.reg <| WL.val rfl (run_move) <| WL.val rfl (run_move) <| WL.val rfl (run_lenSl Tryd.underlying43 rfl) <| WL.val rfl (run_bT (run_lss rfl rfl) (by omega)) <| WL.nil ?_
              refine CW.cond rfl (fun h => ?_) (fun h => ?_)
              · repeat (first | refine CW.seq ?_ | refine CW.block ?_ | refine CW.skip ?_)
                refine CW.any (A := fun w => True) (C := fun w => w.heap[bm]? = some (blk 51 ((List.range N).map us ++ room))) 15 16 mixedP rfl ?_
                replace hs := hs.drew
                refine AL.val 0 rfl (by kernel_rfl) rfl (fun w hs => run_move) ?_
                refine AL.val 1 rfl (by kernel_rfl) rfl (fun w hs => run_move) ?_
                refine AL.val 2 rfl (by kernel_rfl) rfl (fun w hs => run_move) ?_
                refine AL.val 3 rfl (by kernel_rfl) rfl (fun w hs => run_move) ?_
                refine AL.val 4 rfl (by kernel_rfl) rfl (fun w hs => run_ixSlN Tryd.underlying43 ty51 rfl rfl (by omega)) ?_
                refine AL.val 5 rfl (by kernel_rfl) rfl (fun w hs => run_load1 ty51 rfl ((by rw [cell_blk hs]; exact hmg))) ?_
                refine AL.val 6 rfl (by kernel_rfl) rfl (fun w hs => run_move) ?_
                refine AL.val 7 rfl (by kernel_rfl) rfl (fun w hs => run_mul (c := ((1000 * i : Nat) : Int)) rfl rfl (by omega) (by omega)) ?_
                refine AL.val 8 rfl (by kernel_rfl) rfl (fun w hs => run_move) ?_
                refine AL.val 9 rfl (by kernel_rfl) rfl (fun w hs => run_add (c := ((1000 * i + k : Nat) : Int)) rfl rfl (by omega) (by omega)) ?_
                refine AL.one 10 (by kernel_rfl) rfl (trivial) (hs.get (by simp)) ?_
                refine WL.enter rfl (run_call en43 rfl rfl) (hmk _) ?_
                rintro e w ⟨rfl, hq⟩
                refine ⟨_, rfl, ?_⟩
                replace hs := hs.call0 hq
                refine WL.nil ?_
                refine ⟨rfl, ?_⟩
                refine AL.val 11 rfl (by kernel_rfl) rfl (fun w hs => run_strAdd rfl rfl (by first | omega | (simp; omega) | simp)) ?_
                refine AL.one 12 (by kernel_rfl) rfl (trivial) (hs.get (by simp)) ?_
                refine WL.buildSlice (cs := (gN2 i k)) Tryd.underlying51 ty9 rfl (by decide) rfl (filled_s _ _ rfl) rfl hs (fun b63 w hs => ?_)
                have hsl : Sl w 1 (.slice (some ⟨b63, 0, none⟩) 1 1) 1 (gN2 i k) := .own1 hs rfl
                refine WL.nil ?_
                refine ⟨rfl, ?_⟩
                refine AL.one 13 (by kernel_rfl) rfl (trivial) (hs.get (by simp)) ?_
                refine WL.appendTw Tryd.underlying51 Tryd.underlying51 ty9 rfl (by decide) rfl rfl (hTi) (Step.openA (A := [_, _]) hlt hs) (hsl) (by decide) (Cells1.of_all rfl) (by omega) rfl (fun u64 L64 w hu64 hs => ?_)
                refine WL.nil ?_
                refine ⟨rfl, ?_⟩
                refine AL.val 14 rfl (by kernel_rfl) rfl (fun w hs => run_ixSlN Tryd.underlying43 ty51 rfl rfl (by omega)) ?_
                refine AL.one 15 (by kernel_rfl) rfl (trivial) (hs.get (by simp)) ?_
                refine WL.store1 ty51 rfl rfl (hu64.oneR) ((Step.front (L64 ++ [_]) (p := (bm, blk 51 ((List.range N).map us ++ room))) (by rw [List.append_assoc]; exact hs))) (by first | (simp; done) | omega | (simp only [List.length_append, List.length_replicate, List.length_cons, List.length_nil, List.length_set]; omega) | (simp [Ent.cells, u8s]; done) | exact Nat.le_of_ble_eq_true rfl) (fun w hs => ?_)
                refine WL.nil ?_
                refine ⟨rfl, ?_⟩
                refine AL.relax (by kernel_rfl) ?_
                refine AL.end (by kernel_rfl) (trivial) (trivial) ?_
                rw [set_map hlt] at hs
                replace hs := Step.dropX (A := _ :: L64) (B := othL L2 i N) (by simpa [List.append_assoc] using hs)
                replace hs := Step.shutA (A := [_]) hlt (hs.perm List.perm_middle.symm)
                rw [← gs_succ] at hu64
                refine CW.reg <| WL.val rfl (run_move) <| WL.val rfl (run_add (c := ((i + 1 : Nat) : Int)) rfl rfl (by omega) (by omega)) <| WL.val rfl (run_assign) <| WL.nil ?_
                refine (show _ ∧ _ from ⟨rfl, _, ?_, i + 1, (fun q => if q = i then u64 else us q), putL L2 i L64, by omega, rfl, ?_, ?_, hs, rfl, rfl, rfl, rfl, trivial⟩)
                · omega
                · intro q hq hqi
                  by_cases hqe : q = i
                  · subst hqe; simp only [putL, if_true]; exact hu64
                  · simp only [putL, hqe, if_false]; exact hT1 q hq (by omega)
                · intro q hq hqi
                  have hqe : q ≠ i := by omega
                  simp only [putL, hqe, if_false]
                  exact hT0 q hq (by omega)
              · cases h
            · obtain rfl : i = N := by omega
              refine CW.seq <| CW.seq <| CW.reg <| WL.val rfl (run_move) <| WL.val rfl (run_move) <| WL.val rfl (run_lenSl Tryd.underlying43 rfl) <| WL.val rfl (run_bF (run_lss rfl rfl) (by omega)) <| WL.nil ?_
              repeat (first | refine CW.exit ?_ | refine CW.condF rfl ?_)
              refine CW.reg <| WL.val rfl (run_move) <| WL.val rfl (run_add (c := ((k + 1 : Nat) : Int)) rfl rfl (by omega) (by omega)) <| WL.val rfl (run_assign) <| WL.nil ?_
              refine (show _ ∧ _ from ⟨rfl, _, ?_, k + 1, us, L2, by omega, rfl, (fun q hq => hT1 q hq hq), hs, rfl, rfl, rfl, trivial⟩)
              omega
        · cases h
      · obtain rfl : k = 20 := by omega
        refine CW.seq <| CW.seq <| CW.reg <| WL.val rfl (run_move) <| WL.val rfl (run_bF (run_lss rfl rfl) (by omega)) <| WL.nil ?_
        repeat (first | refine CW.exit ?_ | refine CW.condF rfl ?_)
        exact ⟨rfl, us, L2, hT, hs, rfl, rfl, trivial⟩
  clear hs hf
  rintro f w ⟨us, L2, hT, hs, hf⟩
  have hobt := hf.chain
  obtain ⟨g, rfl⟩ := hobt
  refine CW.seqM (fun f w => Step S ((bm, blk 51 ((List.range N).map us ++ room)) :: allL L2 N) w0 w) ?_ ?_
  · refine CW.seq <| CW.reg <| WL.val rfl (run_assign) <| WL.nil <| CW.block ?_
    refine CW.loop (fun m f w' => ∃ i : Nat, i ≤ N ∧ m = N - i ∧ Step S ((bm, blk 51 ((List.range N).map us ++ room)) :: allL L2 N) w0 w' ∧ Holds f [(0, .slice (some ⟨bA, oA, none⟩) N cA), (5, .slice (some ⟨bm, 0, none⟩) N cm), (8, .int .i64 (i : Nat))]) (m := N) ?_ ?_
    · exact ⟨0, Nat.zero_le _, rfl, hs, rfl, rfl, rfl, trivial⟩
    · clear hs
      rintro m f w ⟨i, hi, rfl, hs, hf⟩
      have hobt := hf.chain
      obtain ⟨g, rfl⟩ := hobt
      by_cases hlt : i < N
      · have hTi := hT i hlt
        have hni := hn i hlt
        have hobt := hvc hlt hs
        obtain ⟨av, cv, hvi, -⟩ := hobt
        have hcv : ∀ {X : List (Nat × Obj)} {w : World}, Step S X w0 w → w.cell? ⟨bA, oA + i * 1, none⟩ = some (.slice av (ns i) cv) := fun hs => (hcell hlt hs).trans (congrArg some hvi)
        have hR0 := hTi.right (w := w) fun p hp => hs.has p (List.mem_cons_of_mem _ (allL_mem hlt hp))
        have hobt := hR0.baseB (by omega)
        obtain ⟨bu, ou, cu, hui⟩ := hobt
        have hR : ∀ {w : World}, (∀ p ∈ L2 i, w.heap[p.1]? = some p.2) → At w bu ou (gs (gN1 i) (ns i) ++ gs (gN2 i) 20) := fun h => by
          have h1 := hTi.right h
          rw [hui] at h1
          exact h1.atB (by omega)
        have hmg : ((List.range N).map us ++ room)[0 + i * 1]? = some (.slice (some ⟨bu, ou, none⟩) (ns i + 20) cu) := (map_get hlt).trans (congrArg some hui)
        refine CW.seq <| CW.seq <| CW.reg <| WL.val rfl (run_move) <| WL.val rfl (run_move) <| WL.val rfl (run_lenSl Tryd.underlying43 rfl) <| WL.val rfl (run_bT (run_lss rfl rfl) (by omega)) <| WL.nil ?_
        refine CW.cond rfl (fun h => ?_) (fun h => ?_)
        · repeat (first | refine CW.seq ?_ | refine CW.block ?_ | refine CW.skip ?_)
          refine CW.reg <| WL.val rfl (run_move) <| WL.val rfl (run_move) <| WL.val rfl (run_ixSlN Tryd.underlying43 ty51 rfl rfl (by omega)) <| WL.val rfl (run_load1 ty51 rfl ((hcv hs))) <| WL.val rfl (run_lenSl Tryd.underlying51 rfl) <| WL.val rfl (run_assign) <| WL.nil <| CW.seq <| CW.reg <| WL.val rfl (run_assign) <| WL.nil ?_
          refine CW.block ?_
          refine CW.loop (fun m f w' => ∃ k : Nat, k ≤ ns i + 20 ∧ m = ns i + 20 - k ∧ Step S ((bm, blk 51 ((List.range N).map us ++ room)) :: allL L2 N) w0 w' ∧ Holds f [(0, .slice (some ⟨bA, oA, none⟩) N cA), (5, .slice (some ⟨bm, 0, none⟩) N cm), (8, .int .i64 (i : Nat)), (9, .int .i64 (ns i : Nat)), (10, .int .i64 (k : Nat))]) (m := ns i + 20) ?_ ?_
          · exact ⟨0, Nat.zero_le _, rfl, hs, rfl, rfl, rfl, rfl, rfl, trivial⟩
          · clear hs
            rintro m f w ⟨k, hk, rfl, hs, hf⟩
            have hobt := hf.chain
            obtain ⟨g, rfl⟩ := hobt
            by_cases hkl : k < ns i + 20
            · refine CW.seq <| CW.seq <| CW.reg <| WL.val rfl (run_move) <| WL.val rfl (run_move) <| WL.val rfl (run_add (c := ((ns i + 20 : Nat) : Int)) rfl rfl (by omega) (by omega)) <| WL.val rfl (run_bT (run_lss rfl rfl) (by omega)) <| WL.nil ?_
              refine CW.cond rfl (fun h => ?_) (fun h => ?_)
              · by_cases hkn : k < ns i
                · have hL0 := hTi.left (w := w) fun p hp => hs.has p (List.mem_cons_of_mem _ (allL_mem hlt hp))
                  have hobt := hL0.baseB (by omega)
                  obtain ⟨bv, ov, cv', hvb⟩ := hobt
                  have hLt : ∀ {w : World}, (∀ p ∈ L2 i, w.heap[p.1]? = some p.2) → At w bv ov (gs (gN1 i) (ns i)) := fun h => by
                    have h1 := hTi.left h
                    rw [hvb] at h1
                    exact h1.atB (by omega)
                  have hcb : ∀ {X : List (Nat × Obj)} {w : World}, Step S X w0 w → w.cell? ⟨bA, oA + i * 1, none⟩ = some (.slice (some ⟨bv, ov, none⟩) (ns i) cv') := fun hs => (hcell hlt hs).trans (congrArg some hvb)
                  have hml : (markL (1000 * i + k)).length ≤ 11 := markL_len 10 _ (by omega)
                  have hmk := fun w => mark_spec 10 (1000 * i + k) w (by omega) (by omega)
                  repeat (first | refine CW.seq ?_ | refine CW.block ?_ | refine CW.skip ?_)
                  refine CW.reg <| WL.val rfl (run_move) <| WL.val rfl (run_mul (c := ((1000 * i : Nat) : Int)) rfl rfl (by omega) (by omega)) <| WL.val rfl (run_move) <| WL.val rfl (run_add (c := ((1000 * i + k : Nat) : Int)) rfl rfl (by omega) (by omega)) ?_
                  refine WL.enter rfl (run_call en43 rfl rfl) (hmk _) ?_
                  rintro e w ⟨rfl, hq⟩
                  refine ⟨_, rfl, ?_⟩
                  replace hs := hs.call0 hq
                  refine WL.val rfl (run_assign) <| WL.nil <| CW.seq <| CW.seq <| CW.reg <| WL.val rfl (run_move) <| WL.val rfl (run_move) <| WL.val rfl (run_bF (run_geq rfl rfl) (by omega)) <| WL.nil ?_
                  repeat (first | refine CW.seq ?_ | refine CW.skip ?_ | refine CW.condF rfl ?_)
                  refine CW.reg <| WL.val rfl (run_move) <| WL.val rfl (run_move) <| WL.val rfl (run_ixSlN Tryd.underlying43 ty51 rfl rfl (by omega)) <| WL.val rfl (run_load1 ty51 rfl (hs.c0 hmg)) <| WL.val rfl (run_move) <| WL.val rfl (run_ixSlN Tryd.underlying51 ty9 rfl rfl (by omega)) <| WL.val rfl (run_load1 ty9 rfl ((hR (fun p hp => hs.has p (List.mem_cons_of_mem _ (allL_mem hlt hp)))).gs1 (gN1_len i) (by omega) rfl)) <| WL.val rfl (run_move) <| WL.val rfl (run_bF (run_strNe rfl rfl) (by exact fun h => h rfl)) <| WL.val rfl (run_move) ?_
                  refine WL.yes rfl rfl rfl ?_; refine WL.val rfl (run_move) ?_
                  refine WL.yes rfl rfl rfl ?_; refine WL.val rfl (run_move) ?_
                  refine WL.yes rfl rfl rfl <| WL.val rfl (run_bT (run_lss rfl rfl) (by omega)) ?_
                  refine WL.yes rfl rfl rfl ?_; refine WL.val rfl (run_move) ?_
                  refine WL.yes rfl rfl rfl ?_; refine WL.val rfl (run_move) ?_
                  refine WL.yes rfl rfl rfl ?_; refine WL.val rfl (run_move) ?_
                  refine WL.yes rfl rfl rfl ?_; (first | refine WL.val rfl (run_ixSlN Tryd.underlying43 ty51 rfl rfl (by omega)) ?_ | refine WL.val rfl (run_ixSl Tryd.underlying43 ty51 rfl rfl (by omega)) ?_)
                  refine WL.yes rfl rfl rfl <| WL.val rfl (run_load1 ty51 rfl ((hcb hs))) ?_
                  refine WL.yes rfl rfl rfl ?_; refine WL.val rfl (run_move) ?_
                  refine WL.yes rfl rfl rfl ?_; (first | refine WL.val rfl (run_ixSlN Tryd.underlying51 ty9 rfl rfl (by omega)) ?_ | refine WL.val rfl (run_ixSl Tryd.underlying51 ty9 rfl rfl (by omega)) ?_)
                  refine WL.yes rfl rfl rfl <| WL.val rfl (run_load1 ty9 rfl ((hLt (fun p hp => hs.has p (List.mem_cons_of_mem _ (allL_mem hlt hp)))).gs0 (gN1_len i) (by omega) rfl)) ?_
                  refine WL.yes rfl rfl rfl ?_; refine WL.val rfl (run_move) ?_
                  refine WL.yes rfl rfl rfl <| WL.val rfl (run_bF (run_strNe rfl rfl) (by exact fun h => h rfl)) ?_
                  refine WL.yes rfl rfl rfl ?_; (first | refine WL.val rfl (run_pickT rfl) ?_ | refine WL.val rfl (run_pickF rfl) ?_)
                  refine WL.val rfl (run_pickF rfl) <| WL.nil ?_
                  refine CW.cond rfl (fun h => ?_) (fun h => ?_)
                  · cases h
                  refine CW.skip <| CW.reg <| WL.val rfl (run_move) <| WL.val rfl (run_add (c := ((k + 1 : Nat) : Int)) rfl rfl (by omega) (by omega)) <| WL.val rfl (run_assign) <| WL.nil ?_
                  refine (show _ ∧ _ from ⟨rfl, _, ?_, k + 1, by omega, rfl, hs, rfl, rfl, rfl, rfl, rfl, trivial⟩)
                  omega
                · have hobt : ∃ j, k = ns i + j := ⟨k - ns i, by omega⟩
                  obtain ⟨j, rfl⟩ := hobt
                  have hml : (markL (1000 * i + (ns i + j))).length ≤ 11 := markL_len 10 _ (by omega)
                  have hmk := fun w => mark_spec 10 (1000 * i + (ns i + j)) w (by omega) (by omega)
                  have hml2 : (markL (1000 * i + j)).length ≤ 11 := markL_len 10 _ (by omega)
                  have hmk2 := fun w => mark_spec 10 (1000 * i + j) w (by omega) (by omega)
                  repeat (first | refine CW.seq ?_ | refine CW.block ?_ | refine CW.skip ?_)
                  refine CW.reg <| WL.val rfl (run_move) <| WL.val rfl (run_mul (c := ((1000 * i : Nat) : Int)) rfl rfl (by omega) (by omega)) <| WL.val rfl (run_move) <| WL.val rfl (run_add (c := ((1000 * i + (ns i + j) : Nat) : Int)) rfl rfl (by omega) (by omega)) ?_
                  refine WL.enter rfl (run_call en43 rfl rfl) (hmk _) ?_
                  rintro e w ⟨rfl, hq⟩
                  refine ⟨_, rfl, ?_⟩
                  replace hs := hs.call0 hq
                  refine WL.val rfl (run_assign) <| WL.nil <| CW.seq <| CW.seq <| CW.reg <| WL.val rfl (run_move) <| WL.val rfl (run_move) <| WL.val rfl (run_bT (run_geq rfl rfl) (by omega)) <| WL.nil <| CW.condT rfl <| CW.reg <| WL.val rfl (run_move) <| WL.val rfl (run_mul (c := ((1000 * i : Nat) : Int)) rfl rfl (by omega) (by omega)) ?_
                  refine WL.val rfl (run_move) <| WL.val rfl (run_add (c := ((1000 * i + (ns i + j) : Nat) : Int)) rfl rfl (by omega) (by omega)) <| WL.val rfl (run_move) <| WL.val rfl (run_sub (c := ((1000 * i + j : Nat) : Int)) rfl rfl (by omega) (by omega)) ?_
                  refine WL.enter rfl (run_call en43 rfl rfl) (hmk2 _) ?_
                  rintro e w ⟨rfl, hq⟩
                  refine ⟨_, rfl, ?_⟩
                  replace hs := hs.call0 hq
                  refine WL.val rfl (run_strAdd rfl rfl (by first | omega | (simp; omega) | simp)) <| WL.val rfl (run_assign) <| WL.nil <| CW.seq <| CW.reg <| WL.val rfl (run_move) <| WL.val rfl (run_move) <| WL.val rfl (run_ixSlN Tryd.underlying43 ty51 rfl rfl (by omega)) <| WL.val rfl (run_load1 ty51 rfl (hs.c0 hmg)) <| WL.val rfl (run_move) <| WL.val rfl (run_ixSlN Tryd.underlying51 ty9 rfl rfl (by omega)) <| WL.val rfl (run_load1 ty9 rfl ((hR (fun p hp => hs.has p (List.mem_cons_of_mem _ (allL_mem hlt hp)))).gs2 (gN1_len i) (gN2_len i) (by omega) rfl)) ?_
                  refine WL.val rfl (run_move) <| WL.val rfl (run_bF (run_strNe rfl rfl) (by exact fun h => h rfl)) <| WL.val rfl (run_move) ?_
                  refine WL.yes rfl rfl rfl ?_; refine WL.val rfl (run_move) ?_
                  refine WL.yes rfl rfl rfl ?_; refine WL.val rfl (run_move) ?_
                  refine WL.yes rfl rfl rfl <| WL.val rfl (run_bF (run_lss rfl rfl) (by omega)) ?_
                  refine WL.yes rfl rfl rfl ?_; refine WL.val rfl (run_move) ?_
                  refine WL.no rfl rfl rfl (.inl rfl) <| WL.no rfl rfl rfl (.inl rfl) <| WL.no rfl rfl rfl (.inl rfl) <| WL.no rfl rfl rfl (.inl rfl) <| WL.no rfl rfl rfl (.inl rfl) <| WL.no rfl rfl rfl (.inl rfl) <| WL.no rfl rfl rfl (.inl rfl) <| WL.no rfl rfl rfl (.inl rfl) <| WL.no rfl rfl rfl (.inl rfl) ?_
                  refine WL.yes rfl rfl rfl ?_; (first | refine WL.val rfl (run_pickT rfl) ?_ | refine WL.val rfl (run_pickF rfl) ?_)
                  refine WL.val rfl (run_pickF rfl) <| WL.nil ?_
                  refine CW.cond rfl (fun h => ?_) (fun h => ?_)
                  · cases h
                  refine CW.skip <| CW.reg <| WL.val rfl (run_move) <| WL.val rfl (run_add (c := ((ns i + j + 1 : Nat) : Int)) rfl rfl (by omega) (by omega)) <| WL.val rfl (run_assign) <| WL.nil ?_
                  refine (show _ ∧ _ from ⟨rfl, _, ?_, ns i + j + 1, by omega, rfl, hs, rfl, rfl, rfl, rfl, rfl, trivial⟩)
                  omega
              · cases h
            · obtain rfl : k = ns i + 20 := by omega
              refine CW.seq <| CW.seq <| CW.reg <| WL.val rfl (run_move) <| WL.val rfl (run_move) <| WL.val rfl (run_add (c := ((ns i + 20 : Nat) : Int)) rfl rfl (by omega) (by omega)) <| WL.val rfl (run_bF (run_lss rfl rfl) (by omega)) <| WL.nil ?_
              repeat (first | refine CW.exit ?_ | refine CW.condF rfl ?_)
              refine CW.reg <| WL.val rfl (run_move) <| WL.val rfl (run_add (c := ((i + 1 : Nat) : Int)) rfl rfl (by omega) (by omega)) <| WL.val rfl (run_assign) <| WL.nil ?_
              refine (show _ ∧ _ from ⟨rfl, _, ?_, i + 1, by omega, rfl, hs, rfl, rfl, rfl, trivial⟩)
              omega
        · cases h
      · obtain rfl : i = N := by omega
        refine CW.seq <| CW.seq <| CW.reg <| WL.val rfl (run_move) <| WL.val rfl (run_move) <| WL.val rfl (run_lenSl Tryd.underlying43 rfl) <| WL.val rfl (run_bF (run_lss rfl rfl) (by omega)) <| WL.nil ?_
        repeat (first | refine CW.exit ?_ | refine CW.condF rfl ?_)
        exact ⟨rfl, hs⟩
  clear hs
  intro f w hs
  refine CW.seq <| CW.reg <| WL.val rfl (run_assign) <| WL.nil ?_
  refine CW.ret ?_
  refine fin_ret1 rfl ?_
  exact ⟨rfl, hs.clear⟩
end
end Go.Gx
/-! Gr6 -/
namespace Go.Gx
open Go.Proofs
set_option linter.unusedVariables false
set_option linter.unusedSimpArgs false
set_option maxRecDepth 100000
set_option maxHeartbeats 8000000 in
theorem grownItems_spec0 {aA : Option Addr} {cA : Nat} {w0 : World} :
    Calls Tryd.prog 19 #[.slice aA 0 cA] w0 fun e w' => e = .returned (.bool true) ∧ Step [] [] w0 w' := by
  have hs : Step [] [] w0 w0 := Step.refl w0
  have hav : ∀ w : World, Sl w 1 (.slice aA 0 cA) 0 [] := fun w => ⟨rfl, .inl ⟨aA, cA, rfl, rfl⟩⟩
  refine calls (n := 128) Tryd.func19 rfl rfl rfl ?_
  refine CW.seq <| CW.reg <| WL.val rfl (run_assign) <| WL.nil <| CW.seq <| CW.seq <| CW.reg <| WL.val rfl (run_assign) <| WL.nil <| CW.block ?_
  refine CW.loop (fun m f w' => m = 0 ∧ Step [] [] w0 w' ∧ Holds f [(0, .slice aA 0 cA), (3, .int .i64 0)]) (m := 0) ?_ ?_
  · exact ⟨rfl, hs, rfl, rfl, trivial⟩
  clear hs
  rintro m f w ⟨rfl, hs, hf⟩
  have hobt := hf.chain
  obtain ⟨g, rfl⟩ := hobt
  refine CW.seq <| CW.seq <| CW.reg <| WL.val rfl (run_move) <| WL.val rfl (run_move) <| WL.val rfl (run_lenSl Tryd.underlying44 rfl) <| WL.val rfl (run_bF (run_lss rfl rfl) (by omega)) <| WL.nil ?_
  repeat (first | refine CW.seq ?_ | refine CW.exit ?_ | refine CW.condF rfl ?_)
  refine CW.reg <| WL.val rfl (run_assign) <| WL.nil <| CW.seq <| CW.reg <| WL.val rfl (run_move) <| WL.val rfl (run_move) ?_
  refine WL.append Tryd.underlying44 Tryd.underlying44 ty40 rfl (by decide) rfl rfl (OwnSl.nil _ _) (hs) (hav w) (Cells1.of_all rfl) (by first | omega | (simp only [List.length_append, List.length_cons, List.length_nil]; omega)) rfl (fun v41 Lv41 w hv41 hs => ?_)
  refine WL.val rfl (run_assign) <| WL.nil ?_
  replace hs := hs.clear
  have hobt := hv41.form
  obtain ⟨am, cm, rfl⟩ := hobt
  refine CW.seq <| CW.seq <| CW.reg <| WL.val rfl (run_assign) <| WL.nil <| CW.block ?_
  refine CW.loop (fun m f w' => ∃ k : Nat, k ≤ 20 ∧ m = 20 - k ∧ Step [] [] w0 w' ∧ Holds f [(0, .slice aA 0 cA), (6, .int .i64 (k : Nat))]) (m := 20) ?_ ?_
  · exact ⟨0, by omega, rfl, hs, rfl, rfl, trivial⟩
  clear hs
  rintro m f w ⟨k, hk, rfl, hs, hf⟩
  have hobt := hf.chain
  obtain ⟨g, rfl⟩ := hobt
  by_cases hkM : k < 20
  · refine CW.seq <| CW.seq <| CW.reg <| WL.val rfl (run_move) <| WL.val rfl (run_bT (run_lss rfl rfl) (by omega)) <| WL.nil ?_
    refine CW.cond rfl (fun h => ?_) (fun h => ?_)
    · repeat (first | refine CW.seq ?_ | refine CW.block ?_ | refine CW.skip ?_)
      refine CW.reg <| WL.val rfl (run_assign) <| WL.nil <| CW.block ?_
      refine CW.loop (fun m f w' => m = 0 ∧ Step [] [] w0 w' ∧ Holds f [(0, .slice aA 0 cA), (6, .int .i64 (k : Nat)), (7, .int .i64 0)]) (m := 0) ?_ ?_
      · exact ⟨rfl, hs, rfl, rfl, rfl, trivial⟩
      clear hs
      rintro m f w ⟨rfl, hs, hf⟩
      have hobt := hf.chain
      obtain ⟨g, rfl⟩ := hobt
      refine CW.seq <| CW.seq <| CW.reg <| WL.val rfl (run_move) <| WL.val rfl (run_move) <| WL.val rfl (run_lenSl Tryd.underlying44 rfl) <| WL.val rfl (run_bF (run_lss rfl rfl) (by omega)) <| WL.nil ?_
      repeat (first | refine CW.exit ?_ | refine CW.condF rfl ?_)
      refine CW.reg <| WL.val rfl (run_move) <| WL.val rfl (run_add (c := ((k + 1 : Nat) : Int)) rfl rfl (by omega) (by omega)) <| WL.val rfl (run_assign) <| WL.nil ?_
      refine (show _ ∧ _ from ⟨rfl, _, ?_, k + 1, by omega, rfl, hs, rfl, rfl, trivial⟩)
      omega
    · cases h
  · obtain rfl : k = 20 := by omega
    refine CW.seq <| CW.seq <| CW.reg <| WL.val rfl (run_move) <| WL.val rfl (run_bF (run_lss rfl rfl) (by omega)) <| WL.nil ?_
    repeat (first | refine CW.seq ?_ | refine CW.exit ?_ | refine CW.condF rfl ?_)
    refine CW.reg <| WL.val rfl (run_assign) <| WL.nil <| CW.block ?_
    refine CW.loop (fun m f w' => m = 0 ∧ Step [] [] w0 w' ∧ Holds f [(0, .slice aA 0 cA), (8, .int .i64 0)]) (m := 0) ?_ ?_
    · exact ⟨rfl, hs, rfl, rfl, trivial⟩
    clear hs
    rintro m f w ⟨rfl, hs, hf⟩
    have hobt := hf.chain
    obtain ⟨g, rfl⟩ := hobt
    refine CW.seq <| CW.seq <| CW.reg <| WL.val rfl (run_move) <| WL.val rfl (run_move) <| WL.val rfl (run_lenSl Tryd.underlying44 rfl) <| WL.val rfl (run_bF (run_lss rfl rfl) (by omega)) <| WL.nil ?_
    repeat (first | refine CW.seq ?_ | refine CW.exit ?_ | refine CW.condF rfl ?_)
    refine CW.reg <| WL.val rfl (run_assign) <| WL.nil ?_
    refine CW.ret ?_
    refine fin_ret1 rfl ?_
    exact ⟨rfl, hs⟩
section
variable {N : Nat} {bA oA cA : Nat} {vs : Nat → Value} {ns : Nat → Nat} {xs : Nat → List Value} {Ls : Nat → List (Nat × Obj)} {w0 : World}
set_option maxHeartbeats 8000000 in
theorem grownItems_spec (hN : N ≤ 1000) (hN0 : 0 < N) (ha : At w0 bA oA ((List.range N).map vs)) (hO : ∀ i, i < N → OwnSl 50 3 (vs i) (ns i) (xs i) (Ls i)) (hn : ∀ i, i < N → ns i ≤ 2000000) (hw : Step ((allL Ls N).map (·.1)) (allL Ls N) w0 w0) (hbA : bA ∉ (allL Ls N).map (·.1)) :
    Calls Tryd.prog 19 #[.slice (some ⟨bA, oA, none⟩) N cA] w0 fun e w' => e = .returned (.bool true) ∧ Step ((allL Ls N).map (·.1)) [] w0 w' := by
  have hs : Step ((allL Ls N).map (·.1)) (allL Ls N) w0 w0 := hw
  have hobt : ∃ S, (allL Ls N).map (·.1) = S := ⟨_, rfl⟩
  obtain ⟨S, hS⟩ := hobt
  rw [hS] at hs hbA ⊢
  have hvl : ((List.range N).map vs).length = N := by simp
  have hcell : ∀ {i : Nat} {X : List (Nat × Obj)} {w : World}, i < N → Step S X w0 w → w.cell? ⟨bA, oA + i * 1, none⟩ = some (vs i) := fun {i X w} hi hs => by
    rw [Nat.mul_one]
    exact (ha.step hs hbA).cell (by rw [List.getElem?_map, List.getElem?_range hi]; rfl)
  refine calls (n := 128) Tryd.func19 rfl rfl rfl ?_
  refine CW.seq <| CW.reg <| WL.val rfl (run_assign) <| WL.nil ?_
  refine CW.seqM (fun f w => ∃ Lc : Nat → List (Nat × Obj), (∀ q, q < N → OwnSl 50 3 (vs q) (ns q) (gs (gI1 q) (ns q)) (Lc q)) ∧ Step S (allL Lc N) w0 w ∧ Holds f [(0, .slice (some ⟨bA, oA, none⟩) N cA)]) ?_ ?_
  · refine CW.seq <| CW.reg <| WL.val rfl (run_assign) <| WL.nil <| CW.block ?_
    refine CW.loop (fun m f w' => ∃ (i : Nat) (Lc : Nat → List (Nat × Obj)) (ys : Nat → List Value), i ≤ N ∧ m = N - i ∧ (∀ q, q < i → ys q = (gs (gI1 q) (ns q))) ∧ (∀ q, q < N → OwnSl 50 3 (vs q) (ns q) (ys q) (Lc q)) ∧ Step S (allL Lc N) w0 w' ∧ Holds f [(0, .slice (some ⟨bA, oA, none⟩) N cA), (3, .int .i64 (i : Nat))]) (m := N) ?_ ?_
    · exact ⟨0, Ls, xs, Nat.zero_le _, rfl, fun q hq => (by omega), hO, hs, rfl, rfl, trivial⟩
    · rintro m f w ⟨i, Lc, ys, hi, rfl, hy, ho, hs, hf⟩
      have hobt := hf.chain
      obtain ⟨g, rfl⟩ := hobt
      by_cases hlt : i < N
      · refine CW.seq <| CW.seq <| CW.reg <| WL.val rfl (run_move) <| WL.val rfl (run_move) <| WL.val rfl (run_lenSl Tryd.underlying44 rfl) <| WL.val rfl (run_bT (run_lss rfl rfl) (by omega)) <| WL.nil ?_
        refine CW.cond rfl (fun h => ?_) (fun h => ?_)
        · have hoi := ho i hlt
          have hni := hn i hlt
          have hobt := hoi.form
          obtain ⟨ai, ci, hvi⟩ := hobt
          have hvc : ∀ {X : List (Nat × Obj)} {w : World}, Step S X w0 w → w.cell? ⟨bA, oA + i * 1, none⟩ = some (.slice ai (ns i) ci) := fun hs => (hcell hlt hs).trans (congrArg some hvi)
          refine CW.skip ?_
          refine CW.seqM (fun f w => ∃ L', OwnSl 50 3 (vs i) (ns i) (gs (gI1 i) (ns i)) L' ∧ Step S (L' ++ othL Lc i N) w0 w ∧ Holds f [(0, .slice (some ⟨bA, oA, none⟩) N cA), (3, .int .i64 (i : Nat))]) ?_ ?_
          · have hop : Step S (Lc i ++ othL Lc i N) w0 w := Step.openA (A := []) hlt hs
            clear hs
            have hs := hop
            by_cases h0 : ns i = 0
            · repeat (first | refine CW.seq ?_ | refine CW.block ?_)
              refine CW.reg <| WL.val rfl (run_assign) <| WL.nil <| CW.block ?_
              refine CW.loop (fun m f w' => m = 0 ∧ Step S (Lc i ++ othL Lc i N) w0 w' ∧ Holds f [(0, .slice (some ⟨bA, oA, none⟩) N cA), (3, .int .i64 (i : Nat)), (4, .int .i64 0)]) (m := 0) ?_ ?_
              · exact ⟨rfl, hs, rfl, rfl, rfl, trivial⟩
              · rintro m f w ⟨rfl, hs, hf⟩
                have hobt := hf.chain
                obtain ⟨g, rfl⟩ := hobt
                refine CW.seq <| CW.seq <| CW.reg <| WL.val rfl (run_move) <| WL.val rfl (run_move) <| WL.val rfl (run_move) <| WL.val rfl (run_ixSlN Tryd.underlying44 ty40 rfl rfl (by omega)) <| WL.val rfl (run_load1 ty40 rfl ((hvc hs))) <| WL.val rfl (run_lenSl Tryd.underlying40 rfl) <| WL.val rfl (run_bF (run_lss rfl rfl) (by omega)) <| WL.nil ?_
                repeat (first | refine CW.exit ?_ | refine CW.condF rfl ?_)
                refine ⟨rfl, Lc i, ?_, hs, rfl, rfl, trivial⟩
                have e1 := hoi.1
                rw [h0, Nat.zero_mul] at e1
                have e2 : ys i = gs (gI1 i) (ns i) := by rw [List.eq_nil_of_length_eq_zero e1, h0]; rfl
                rw [← e2]
                exact hoi
            · have hobt := hoi.some1 (by omega)
              obtain ⟨b, cap, more, hvb, hLb, hcap⟩ := hobt
              have hyl := hoi.1
              rw [hLb] at hs
              have hvb' : ∀ {X : List (Nat × Obj)} {w : World}, Step S X w0 w → w.cell? ⟨bA, oA + i * 1, none⟩ = some (.slice (some ⟨b, 0, none⟩) (ns i) cap) := fun hs => (hcell hlt hs).trans (congrArg some hvb)
              repeat (first | refine CW.seq ?_ | refine CW.block ?_)
              refine CW.reg <| WL.val rfl (run_assign) <| WL.nil <| CW.block ?_
              refine CW.loop (fun m f w' => ∃ (k : Nat) (Z : List Value), k ≤ ns i ∧ m = ns i - k ∧ Z.length = (ns i - k) * 3 ∧ Step S ((b, blk 50 (gs (gI1 i) k ++ (Z ++ more))) :: othL Lc i N) w0 w' ∧ Holds f [(0, .slice (some ⟨bA, oA, none⟩) N cA), (3, .int .i64 (i : Nat)), (4, .int .i64 (k : Nat))]) (m := ns i) ?_ ?_
              · exact ⟨0, ys i, Nat.zero_le _, rfl, hyl, hs, rfl, rfl, rfl, trivial⟩
              · clear hs
                rintro m f w ⟨k, Z, hk, rfl, hZ, hs, hf⟩
                have hobt := hf.chain
                obtain ⟨g, rfl⟩ := hobt
                by_cases hkl : k < ns i
                · have hgl := gs_len (gI1_len i) k
                  have hbl : (gs (gI1 i) k ++ (Z ++ more)).length = k * 3 + (ns i - k) * 3 + more.length := by rw [List.length_append, List.length_append, hgl, hZ]; omega
                  have hml : (markL (1000 * i + k)).length ≤ 11 := markL_len 10 _ (by omega)
                  have hmk := fun w => mark_spec 10 (1000 * i + k) w (by omega) (by omega)
                  refine CW.seq <| CW.seq <| CW.reg <| WL.val rfl (run_move) <| WL.val rfl (run_move) <| WL.val rfl (run_move) <| WL.val rfl (run_ixSlN Tryd.underlying44 ty40 rfl rfl (by omega)) <| WL.val rfl (run_load1 ty40 rfl ((hvb' hs))) <| WL.val rfl (run_lenSl Tryd.underlying40 rfl) <| WL.val rfl (run_bT (run_lss rfl rfl) (by omega)) <| WL.nil ?_
                  refine CW.cond rfl (fun h => ?_) (fun h => ?_)
                  · repeat (first | refine CW.seq ?_ | refine CW.block ?_ | refine CW.skip ?_)
                    refine CW.any (A := fun w => w.cell? ⟨bA, oA + i * 1, none⟩ = some (.slice (some ⟨b, 0, none⟩) (ns i) cap)) (C := fun w => w.cell? ⟨bA, oA + i * 1, none⟩ = some (.slice (some ⟨b, 0, none⟩) (ns i) cap)) 1000000 13 mixedP rfl ?_
                    replace hs := hs.drew
                    refine AL.val 0 rfl (by kernel_rfl) rfl (fun w hs => run_move) ?_
                    refine AL.val 1 rfl (by kernel_rfl) rfl (fun w hs => run_move) ?_
                    refine AL.val 2 rfl (by kernel_rfl) rfl (fun w hs => run_ixSlN Tryd.underlying44 ty40 rfl rfl (by omega)) ?_
                    refine AL.val 3 rfl (by kernel_rfl) rfl (fun w hs => run_load1 ty40 rfl (hs)) ?_
                    refine AL.val 4 rfl (by kernel_rfl) rfl (fun w hs => run_move) ?_
                    refine AL.val 5 rfl (by kernel_rfl) rfl (fun w hs => run_move) ?_
                    refine AL.val 6 rfl (by kernel_rfl) rfl (fun w hs => run_mul (c := ((1000 * i : Nat) : Int)) rfl rfl (by omega) (by omega)) ?_
                    refine AL.val 7 rfl (by kernel_rfl) rfl (fun w hs => run_move) ?_
                    refine AL.val 8 rfl (by kernel_rfl) rfl (fun w hs => run_add (c := ((1000 * i + k : Nat) : Int)) rfl rfl (by omega) (by omega)) ?_
                    refine AL.one 9 (by kernel_rfl) rfl (hvb' hs) (hvb' hs) ?_
                    refine WL.enter rfl (run_call en43 rfl rfl) (hmk _) ?_
                    rintro e w ⟨rfl, hq⟩
                    refine ⟨_, rfl, ?_⟩
                    replace hs := hs.call0 hq
                    refine WL.nil ?_
                    refine ⟨rfl, ?_⟩
                    refine AL.val 10 rfl (by kernel_rfl) rfl (fun w hs => run_build rfl (bld_gI _ _)) ?_
                    refine AL.val 11 rfl (by kernel_rfl) rfl (fun w hs => run_ixSlN Tryd.underlying40 ty50 rfl rfl (by omega)) ?_
                    refine AL.one 12 (by kernel_rfl) rfl (hvb' hs) (hvb' hs) ?_
                    refine WL.storeN ty50 rfl rfl (rfl) (Cells1.of_all rfl) (hs) (by first | (simp; done) | omega | (simp only [List.length_append, List.length_replicate, List.length_cons, List.length_nil, List.length_set]; omega) | (simp [Ent.cells, u8s]; done) | exact Nat.le_of_ble_eq_true rfl) (fun w hs => ?_)
                    refine WL.nil ?_
                    refine ⟨rfl, ?_⟩
                    refine AL.end (by kernel_rfl) (hvb' hs) (hvb' hs) ?_
                    replace hs : Step S ((b, blk 50 (gs (gI1 i) (k + 1) ++ (Z.drop 3 ++ more))) :: othL Lc i N) w0 w := by
                      rw [← gs_splice (gI1_len i) (by omega)]
                      exact hs
                    refine CW.reg <| WL.val rfl (run_move) <| WL.val rfl (run_add (c := ((k + 1 : Nat) : Int)) rfl rfl (by omega) (by omega)) <| WL.val rfl (run_assign) <| WL.nil ?_
                    refine (show _ ∧ _ from ⟨rfl, _, ?_, k + 1, Z.drop 3, by omega, rfl, (by rw [List.length_drop, hZ]; omega), hs, rfl, rfl, rfl, trivial⟩)
                    omega
                  · cases h
                · obtain rfl : k = ns i := by omega
                  refine CW.seq <| CW.seq <| CW.reg <| WL.val rfl (run_move) <| WL.val rfl (run_move) <| WL.val rfl (run_move) <| WL.val rfl (run_ixSlN Tryd.underlying44 ty40 rfl rfl (by omega)) <| WL.val rfl (run_load1 ty40 rfl ((hvb' hs))) <| WL.val rfl (run_lenSl Tryd.underlying40 rfl) <| WL.val rfl (run_bF (run_lss rfl rfl) (by omega)) <| WL.nil ?_
                  repeat (first | refine CW.exit ?_ | refine CW.condF rfl ?_)
                  have hZ0 : Z = [] := List.eq_nil_of_length_eq_zero (by rw [hZ, Nat.sub_self, Nat.zero_mul])
                  rw [hZ0, List.nil_append] at hs
                  refine ⟨rfl, [_], ⟨gs_len (gI1_len i) _, .inr ⟨b, cap, more, hvb, rfl, ?_⟩⟩, hs, rfl, rfl, trivial⟩
                  rw [List.length_append, gs_len (gI1_len i)]
                  rw [List.length_append, hyl] at hcap
                  exact hcap
          clear hs hf
          rintro f w ⟨L', hown, hs, hf⟩
          have hobt := hf.chain
          obtain ⟨g, rfl⟩ := hobt
          replace hs : Step S (allL (putL Lc i L') N) w0 w := Step.shutA (A := []) hlt hs
          refine CW.reg <| WL.val rfl (run_move) <| WL.val rfl (run_add (c := ((i + 1 : Nat) : Int)) rfl rfl (by omega) (by omega)) <| WL.val rfl (run_assign) <| WL.nil ?_
          refine (show _ ∧ _ from ⟨rfl, _, ?_, i + 1, putL Lc i L', (fun q => if q = i then gs (gI1 i) (ns i) else ys q), by omega, rfl, ?_, ?_, hs, rfl, rfl, trivial⟩)
          · omega
          · intro q hq
            by_cases hqi : q = i
            · subst hqi; simp
            · simp only [hqi, if_false]
              exact hy q (by omega)
          · intro q hq
            by_cases hqi : q = i
            · subst hqi; simp only [putL, if_true]; exact hown
            · simp only [putL, hqi, if_false]; exact ho q hq
        · cases h
      · obtain rfl : i = N := by omega
        refine CW.seq <| CW.seq <| CW.reg <| WL.val rfl (run_move) <| WL.val rfl (run_move) <| WL.val rfl (run_lenSl Tryd.underlying44 rfl) <| WL.val rfl (run_bF (run_lss rfl rfl) (by omega)) <| WL.nil ?_
        repeat (first | refine CW.exit ?_ | refine CW.condF rfl ?_)
        exact ⟨rfl, Lc, fun q hq => by rw [← hy q hq]; exact ho q hq, hs, rfl, trivial⟩
  clear hs
  rintro f w ⟨Lc, ho, hs, hf⟩
  have hobt := hf.chain
  obtain ⟨g, rfl⟩ := hobt
  refine CW.seq <| CW.reg <| WL.val rfl (run_assign) <| WL.nil ?_
  have hcv : Cells1 ((List.range N).map vs) := fun v hv => by
    have hobt := List.mem_map.1 hv
    obtain ⟨q, hq, rfl⟩ := hobt
    exact (ho q (by simpa using hq)).one
  have hav : ∀ {X : List (Nat × Obj)} {w : World}, Step S X w0 w → Sl w 1 (.slice (some ⟨bA, oA, none⟩) N cA) N ((List.range N).map vs) := fun hs => .mk (by simp) (ha.step hs hbA)
  refine CW.seq <| CW.reg <| WL.val rfl (run_move) <| WL.val rfl (run_move) ?_
  refine WL.append Tryd.underlying44 Tryd.underlying44 ty40 rfl (by decide) rfl rfl (OwnSl.nil _ _) (hs) (hav hs) (hcv) (by first | omega | (simp only [List.length_append, List.length_cons, List.length_nil]; omega)) rfl (fun v41 Lv41 w hv41 hs => ?_)
  refine WL.val rfl (run_assign) <| WL.nil ?_
  rw [Nat.zero_add, List.nil_append] at hv41
  have hobt := hv41.some1 hN0
  obtain ⟨bm, cm, room, hvm, hLm, hcm⟩ := hobt
  rw [hLm] at hs
  replace hs : Step S ((bm, blk 40 ((List.range N).map vs ++ room)) :: allL Lc N) w0 w := hs
  have hvc : ∀ {i : Nat} {X : List (Nat × Obj)} {w : World}, i < N → Step S X w0 w → ∃ a c, vs i = .slice a (ns i) c ∧ w.cell? ⟨bA, oA + i * 1, none⟩ = some (.slice a (ns i) c) := fun {i X w} hi hs => by
    have hobt := (ho i hi).form
    obtain ⟨a, c, hvi⟩ := hobt
    exact ⟨a, c, hvi, (hcell hi hs).trans (congrArg some hvi)⟩
  refine CW.seqM (fun f w => ∃ (us : Nat → Value) (L2 : Nat → List (Nat × Obj)), (∀ q, q < N → Tw 50 3 (vs q) (us q) (ns q) 20 (gs (gI1 q) (ns q)) (gs (gI2 q) 20) (L2 q)) ∧ Step S ((bm, blk 40 ((List.range N).map us ++ room)) :: allL L2 N) w0 w ∧ Holds f [(0, .slice (some ⟨bA, oA, none⟩) N cA), (5, .slice (some ⟨bm, 0, none⟩) N cm)]) ?_ ?_
  · refine CW.seq <| CW.reg <| WL.val rfl (run_assign) <| WL.nil <| CW.block ?_
    refine CW.loop (fun m f w' => ∃ (k : Nat) (us : Nat → Value) (L2 : Nat → List (Nat × Obj)), k ≤ 20 ∧ m = 20 - k ∧ (∀ q, q < N → Tw 50 3 (vs q) (us q) (ns q) k (gs (gI1 q) (ns q)) (gs (gI2 q) k) (L2 q)) ∧ Step S ((bm, blk 40 ((List.range N).map us ++ room)) :: allL L2 N) w0 w' ∧ Holds f [(0, .slice (some ⟨bA, oA, none⟩) N cA), (5, .slice (some ⟨bm, 0, none⟩) N cm), (6, .int .i64 (k : Nat))]) (m := 20) ?_ ?_
    · exact ⟨0, vs, Lc, by omega, rfl, fun q hq => Tw.start (ho q hq), hs, rfl, hvm, rfl, trivial⟩
    · clear hs
      rintro m f w ⟨k, us, L2, hk, rfl, hT, hs, hf⟩
      have hobt := hf.chain
      obtain ⟨g, rfl⟩ := hobt
      by_cases hk20 : k < 20
      · refine CW.seq <| CW.seq <| CW.reg <| WL.val rfl (run_move) <| WL.val rfl (run_bT (run_lss rfl rfl) (by omega)) <| WL.nil ?_
        refine CW.cond rfl (fun h => ?_) (fun h => ?_)
        · repeat (first | refine CW.seq ?_ | refine CW.block ?_ | refine CW.skip ?_)
          refine CW.reg <| WL.val rfl (run_assign) <| WL.nil <| CW.block ?_
          refine CW.loop (fun m f w' => ∃ (i : Nat) (us : Nat → Value) (L2 : Nat → List (Nat × Obj)), i ≤ N ∧ m = N - i ∧ (∀ q, q < N → q < i → Tw 50 3 (vs q) (us q) (ns q) (k + 1) (gs (gI1 q) (ns q)) (gs (gI2 q) (k + 1)) (L2 q)) ∧ (∀ q, q < N → i ≤ q → Tw 50 3 (vs q) (us q) (ns q) k (gs (gI1 q) (ns q)) (gs (gI2 q) k) (L2 q)) ∧ Step S ((bm, blk 40 ((List.range N).map us ++ room)) :: allL L2 N) w0 w' ∧ Holds f [(0, .slice (some ⟨bA, oA, none⟩) N cA), (5, .slice (some ⟨bm, 0, none⟩) N cm), (6, .int .i64 (k : Nat)), (7, .int .i64 (i : Nat))]) (m := N) ?_ ?_
          · exact ⟨0, us, L2, Nat.zero_le _, rfl, fun q _ h => (by omega), fun q hq _ => hT q hq, hs, rfl, rfl, rfl, rfl, trivial⟩
          · clear hs hT
            rintro m f w ⟨i, us, L2, hi, rfl, hT1, hT0, hs, hf⟩
            have hobt := hf.chain
            obtain ⟨g, rfl⟩ := hobt
            by_cases hlt : i < N
            · have hTi := hT0 i hlt (Nat.le_refl _)
              have hni := hn i hlt
              have hobt := hTi.formR
              obtain ⟨au, cu, hui⟩ := hobt
              have hmg : ((List.range N).map us ++ room)[0 + i * 1]? = some (.slice au (ns i + k) cu) := (map_get hlt).trans (congrArg some hui)
              have hml2 : ((List.range N).map us ++ room).length = N + room.length := by simp
              rw [hui] at hTi
              have hml : (markL (1000 * i + k)).length ≤ 11 := markL_len 10 _ (by omega)
              have hmk := fun w => mark_spec 10 (1000 * i + k) w (by omega) (by omega)
              refine CW.seq <| CW.seq <| CW.reg <| WL.val rfl (run_move) <| WL.val rfl (run_move) <| WL.val rfl (run_lenSl Tryd.underlying44 rfl) <| WL.val rfl (run_bT (run_lss rfl rfl) (by omega)) <| WL.nil ?_
              refine CW.cond rfl (fun h => ?_) (fun h => ?_)
              · repeat (first | refine CW.seq ?_ | refine CW.block ?_ | refine CW.skip ?_)
                refine CW.any (A := fun w => True) (C := fun w => w.heap[bm]? = some (blk 40 ((List.range N).map us ++ room))) 16 17 mixedP rfl ?_
                replace hs := hs.drew
                refine AL.val 0 rfl (by kernel_rfl) rfl (fun w hs => run_move) ?_
                refine AL.val 1 rfl (by kernel_rfl) rfl (fun w hs => run_move) ?_
                refine AL.val 2 rfl (by kernel_rfl) rfl (fun w hs => run_move) ?_
                refine AL.val 3 rfl (by kernel_rfl) rfl (fun w hs => run_move) ?_
                refine AL.val 4 rfl (by kernel_rfl) rfl (fun w hs => run_ixSlN Tryd.underlying44 ty40 rfl rfl (by omega)) ?_
                refine AL.val 5 rfl (by kernel_rfl) rfl (fun w hs => run_load1 ty40 rfl ((by rw [cell_blk hs]; exact hmg))) ?_
                refine AL.val 6 rfl (by kernel_rfl) rfl (fun w hs => run_move) ?_
                refine AL.val 7 rfl (by kernel_rfl) rfl (fun w hs => run_mul (c := ((1000 * i : Nat) : Int)) rfl rfl (by omega) (by omega)) ?_
                refine AL.val 8 rfl (by kernel_rfl) rfl (fun w hs => run_move) ?_
                refine AL.val 9 rfl (by kernel_rfl) rfl (fun w hs => run_add (c := ((1000 * i + k : Nat) : Int)) rfl rfl (by omega) (by omega)) ?_
                refine AL.one 10 (by kernel_rfl) rfl (trivial) (hs.get (by simp)) ?_
                refine WL.enter rfl (run_call en43 rfl rfl) (hmk _) ?_
                rintro e w ⟨rfl, hq⟩
                refine ⟨_, rfl, ?_⟩
                replace hs := hs.call0 hq
                refine WL.nil ?_
                refine ⟨rfl, ?_⟩
                refine AL.val 11 rfl (by kernel_rfl) rfl (fun w hs => run_strAdd rfl rfl (by first | omega | (simp; omega) | simp)) ?_
                refine AL.val 12 rfl (by kernel_rfl) rfl (fun w hs => run_build rfl (bld_gI _ _)) ?_
                refine AL.one 13 (by kernel_rfl) rfl (trivial) (hs.get (by simp)) ?_
                refine WL.buildSlice (cs := (gI2 i k)) Tryd.underlying40 ty50 rfl (by decide) rfl (filled1 (gI2_len i k) rfl) rfl hs (fun b65 w hs => ?_)
                have hsl : Sl w 3 (.slice (some ⟨b65, 0, none⟩) 1 1) 1 (gI2 i k) := .own1 hs rfl
                refine WL.nil ?_
                refine ⟨rfl, ?_⟩
                refine AL.one 14 (by kernel_rfl) rfl (trivial) (hs.get (by simp)) ?_
                refine WL.appendTw Tryd.underlying40 Tryd.underlying40 ty50 rfl (by decide) rfl rfl (hTi) (Step.openA (A := [_, _]) hlt hs) (hsl) (by decide) (Cells1.of_all rfl) (by omega) rfl (fun u66 L66 w hu66 hs => ?_)
                refine WL.nil ?_
                refine ⟨rfl, ?_⟩
                refine AL.val 15 rfl (by kernel_rfl) rfl (fun w hs => run_ixSlN Tryd.underlying44 ty40 rfl rfl (by omega)) ?_
                refine AL.one 16 (by kernel_rfl) rfl (trivial) (hs.get (by simp)) ?_
                refine WL.store1 ty40 rfl rfl (hu66.oneR) ((Step.front (L66 ++ [_]) (p := (bm, blk 40 ((List.range N).map us ++ room))) (by rw [List.append_assoc]; exact hs))) (by first | (simp; done) | omega | (simp only [List.length_append, List.length_replicate, List.length_cons, List.length_nil, List.length_set]; omega) | (simp [Ent.cells, u8s]; done) | exact Nat.le_of_ble_eq_true rfl) (fun w hs => ?_)
                refine WL.nil ?_
                refine ⟨rfl, ?_⟩
                refine AL.relax (by kernel_rfl) ?_
                refine AL.end (by kernel_rfl) (trivial) (trivial) ?_
                rw [set_map hlt] at hs
                replace hs := Step.dropX (A := _ :: L66) (B := othL L2 i N) (by simpa [List.append_assoc] using hs)
                replace hs := Step.shutA (A := [_]) hlt (hs.perm List.perm_middle.symm)
                rw [← gs_succ] at hu66
                refine CW.reg <| WL.val rfl (run_move) <| WL.val rfl (run_add (c := ((i + 1 : Nat) : Int)) rfl rfl (by omega) (by omega)) <| WL.val rfl (run_assign) <| WL.nil ?_
                refine (show _ ∧ _ from ⟨rfl, _, ?_, i + 1, (fun q => if q = i then u66 else us q), putL L2 i L66, by omega, rfl, ?_, ?_, hs, rfl, rfl, rfl, rfl, trivial⟩)
                · omega
                · intro q hq hqi
                  by_cases hqe : q = i
                  · subst hqe; simp only [putL, if_true]; exact hu66
                  · simp only [putL, hqe, if_false]; exact hT1 q hq (by omega)
                · intro q hq hqi
                  have hqe : q ≠ i := by omega
                  simp only [putL, hqe, if_false]
                  exact hT0 q hq (by omega)
              · cases h
            · obtain rfl : i = N := by omega
              refine CW.seq <| CW.seq <| CW.reg <| WL.val rfl (run_move) <| WL.val rfl (run_move) <| WL.val rfl (run_lenSl Tryd.underlying44 rfl) <| WL.val rfl (run_bF (run_lss rfl rfl) (by omega)) <| WL.nil ?_
              repeat (first | refine CW.exit ?_ | refine CW.condF rfl ?_)
              refine CW.reg <| WL.val rfl (run_move) <| WL.val rfl (run_add (c := ((k + 1 : Nat) : Int)) rfl rfl (by omega) (by omega)) <| WL.val rfl (run_assign) <| WL.nil ?_
              refine (show _ ∧ _ from ⟨rfl, _, ?_, k + 1, us, L2, by omega, rfl, (fun q hq => hT1 q hq hq), hs, rfl, rfl, rfl, trivial⟩)
              omega
        · cases h
      · obtain rfl : k = 20 := by omega
        refine CW.seq <| CW.seq <| CW.reg <| WL.val rfl (run_move) <| WL.val rfl (run_bF (run_lss rfl rfl) (by omega)) <| WL.nil ?_
        repeat (first | refine CW.exit ?_ | refine CW.condF rfl ?_)
        exact ⟨rfl, us, L2, hT, hs, rfl, rfl, trivial⟩
  clear hs hf
  rintro f w ⟨us, L2, hT, hs, hf⟩
  have hobt := hf.chain
  obtain ⟨g, rfl⟩ := hobt
  refine CW.seqM (fun f w => Step S ((bm, blk 40 ((List.range N).map us ++ room)) :: allL L2 N) w0 w) ?_ ?_
  · refine CW.seq <| CW.reg <| WL.val rfl (run_assign) <| WL.nil <| CW.block ?_
    refine CW.loop (fun m f w' => ∃ i : Nat, i ≤ N ∧ m = N - i ∧ Step S ((bm, blk 40 ((List.range N).map us ++ room)) :: allL L2 N) w0 w' ∧ Holds f [(0, .slice (some ⟨bA, oA, none⟩) N cA), (5, .slice (some ⟨bm, 0, none⟩) N cm), (8, .int .i64 (i : Nat))]) (m := N) ?_ ?_
    · exact ⟨0, Nat.zero_le _, rfl, hs, rfl, rfl, rfl, trivial⟩
    · clear hs
      rintro m f w ⟨i, hi, rfl, hs, hf⟩
      have hobt := hf.chain
      obtain ⟨g, rfl⟩ := hobt
      by_cases hlt : i < N
      · have hTi := hT i hlt
        have hni := hn i hlt
        have hobt := hvc hlt hs
        obtain ⟨av, cv, hvi, -⟩ := hobt
        have hcv : ∀ {X : List (Nat × Obj)} {w : World}, Step S X w0 w → w.cell? ⟨bA, oA + i * 1, none⟩ = some (.slice av (ns i) cv) := fun hs => (hcell hlt hs).trans (congrArg some hvi)
        have hR0 := hTi.right (w := w) fun p hp => hs.has p (List.mem_cons_of_mem _ (allL_mem hlt hp))
        have hobt := hR0.baseB (by omega)
        obtain ⟨bu, ou, cu, hui⟩ := hobt
        have hR : ∀ {w : World}, (∀ p ∈ L2 i, w.heap[p.1]? = some p.2) → At w bu ou (gs (gI1 i) (ns i) ++ gs (gI2 i) 20) := fun h => by
          have h1 := hTi.right h
          rw [hui] at h1
          exact h1.atB (by omega)
        have hmg : ((List.range N).map us ++ room)[0 + i * 1]? = some (.slice (some ⟨bu, ou, none⟩) (ns i + 20) cu) := (map_get hlt).trans (congrArg some hui)
        refine CW.seq <| CW.seq <| CW.reg <| WL.val rfl (run_move) <| WL.val rfl (run_move) <| WL.val rfl (run_lenSl Tryd.underlying44 rfl) <| WL.val rfl (run_bT (run_lss rfl rfl) (by omega)) <| WL.nil ?_
        refine CW.cond rfl (fun h => ?_) (fun h => ?_)
        · repeat (first | refine CW.seq ?_ | refine CW.block ?_ | refine CW.skip ?_)
          refine CW.reg <| WL.val rfl (run_move) <| WL.val rfl (run_move) <| WL.val rfl (run_ixSlN Tryd.underlying44 ty40 rfl rfl (by omega)) <| WL.val rfl (run_load1 ty40 rfl ((hcv hs))) <| WL.val rfl (run_lenSl Tryd.underlying40 rfl) <| WL.val rfl (run_assign) <| WL.nil <| CW.seq <| CW.reg <| WL.val rfl (run_assign) <| WL.nil ?_
          refine CW.block ?_
          refine CW.loop (fun m f w' => ∃ k : Nat, k ≤ ns i + 20 ∧ m = ns i + 20 - k ∧ Step S ((bm, blk 40 ((List.range N).map us ++ room)) :: allL L2 N) w0 w' ∧ Holds f [(0, .slice (some ⟨bA, oA, none⟩) N cA), (5, .slice (some ⟨bm, 0, none⟩) N cm), (8, .int .i64 (i : Nat)), (9, .int .i64 (ns i : Nat)), (10, .int .i64 (k : Nat))]) (m := ns i + 20) ?_ ?_
          · exact ⟨0, Nat.zero_le _, rfl, hs, rfl, rfl, rfl, rfl, rfl, trivial⟩
          · clear hs
            rintro m f w ⟨k, hk, rfl, hs, hf⟩
            have hobt := hf.chain
            obtain ⟨g, rfl⟩ := hobt
            by_cases hkl : k < ns i + 20
            · refine CW.seq <| CW.seq <| CW.reg <| WL.val rfl (run_move) <| WL.val rfl (run_move) <| WL.val rfl (run_add (c := ((ns i + 20 : Nat) : Int)) rfl rfl (by omega) (by omega)) <| WL.val rfl (run_bT (run_lss rfl rfl) (by omega)) <| WL.nil ?_
              refine CW.cond rfl (fun h => ?_) (fun h => ?_)
              · by_cases hkn : k < ns i
                · have hL0 := hTi.left (w := w) fun p hp => hs.has p (List.mem_cons_of_mem _ (allL_mem hlt hp))
                  have hobt := hL0.baseB (by omega)
                  obtain ⟨bv, ov, cv', hvb⟩ := hobt
                  have hLt : ∀ {w : World}, (∀ p ∈ L2 i, w.heap[p.1]? = some p.2) → At w bv ov (gs (gI1 i) (ns i)) := fun h => by
                    have h1 := hTi.left h
                    rw [hvb] at h1
                    exact h1.atB (by omega)
                  have hcb : ∀ {X : List (Nat × Obj)} {w : World}, Step S X w0 w → w.cell? ⟨bA, oA + i * 1, none⟩ = some (.slice (some ⟨bv, ov, none⟩) (ns i) cv') := fun hs => (hcell hlt hs).trans (congrArg some hvb)
                  have hml : (markL (1000 * i + k)).length ≤ 11 := markL_len 10 _ (by omega)
                  have hmk := fun w => mark_spec 10 (1000 * i + k) w (by omega) (by omega)
                  repeat (first | refine CW.seq ?_ | refine CW.block ?_ | refine CW.skip ?_)
                  refine CW.reg <| WL.val rfl (run_move) <| WL.val rfl (run_mul (c := ((1000 * i : Nat) : Int)) rfl rfl (by omega) (by omega)) <| WL.val rfl (run_move) <| WL.val rfl (run_add (c := ((1000 * i + k : Nat) : Int)) rfl rfl (by omega) (by omega)) ?_
                  refine WL.enter rfl (run_call en43 rfl rfl) (hmk _) ?_
                  rintro e w ⟨rfl, hq⟩
                  refine ⟨_, rfl, ?_⟩
                  replace hs := hs.call0 hq
                  refine WL.val rfl (run_assign) <| WL.nil <| CW.seq <| CW.seq <| CW.reg <| WL.val rfl (run_move) <| WL.val rfl (run_move) <| WL.val rfl (run_bF (run_geq rfl rfl) (by omega)) <| WL.nil ?_
                  repeat (first | refine CW.seq ?_ | refine CW.skip ?_ | refine CW.condF rfl ?_)
                  refine CW.reg <| WL.val rfl (run_move) <| WL.val rfl (run_move) <| WL.val rfl (run_ixSlN Tryd.underlying44 ty40 rfl rfl (by omega)) <| WL.val rfl (run_load1 ty40 rfl (hs.c0 hmg)) <| WL.val rfl (run_move) <| WL.val rfl (run_ixSlN Tryd.underlying40 ty50 rfl rfl (by omega)) <| WL.val rfl (run_field (o' := 0) Tryd.underlying50 rfl ty9 rfl rfl rfl) <| WL.val rfl (run_load1 ty9 rfl ((hR (fun p hp => hs.has p (List.mem_cons_of_mem _ (allL_mem hlt hp)))).gs1 (gI1_len i) (by omega) rfl)) <| WL.val rfl (run_move) <| WL.val rfl (run_bF (run_strNe rfl rfl) (by exact fun h => h rfl)) <| WL.val rfl (run_move) ?_
                  refine WL.yes rfl rfl rfl ?_; refine WL.val rfl (run_move) ?_
                  refine WL.yes rfl rfl rfl ?_; refine WL.val rfl (run_move) ?_
                  refine WL.yes rfl rfl rfl <| WL.val rfl (run_bT (run_lss rfl rfl) (by omega)) ?_
                  refine WL.yes rfl rfl rfl ?_; refine WL.val rfl (run_move) ?_
                  refine WL.yes rfl rfl rfl ?_; refine WL.val rfl (run_move) ?_
                  refine WL.yes rfl rfl rfl ?_; refine WL.val rfl (run_move) ?_
                  refine WL.yes rfl rfl rfl ?_; (first | refine WL.val rfl (run_ixSlN Tryd.underlying44 ty40 rfl rfl (by omega)) ?_ | refine WL.val rfl (run_ixSl Tryd.underlying44 ty40 rfl rfl (by omega)) ?_)
                  refine WL.yes rfl rfl rfl <| WL.val rfl (run_load1 ty40 rfl ((hcb hs))) ?_
                  refine WL.yes rfl rfl rfl ?_; refine WL.val rfl (run_move) ?_
                  refine WL.yes rfl rfl rfl ?_; (first | refine WL.val rfl (run_ixSlN Tryd.underlying40 ty50 rfl rfl (by omega)) ?_ | refine WL.val rfl (run_ixSl Tryd.underlying40 ty50 rfl rfl (by omega)) ?_)
                  refine WL.yes rfl rfl rfl ?_; refine WL.val rfl (run_field (o' := 0) Tryd.underlying50 rfl ty9 rfl rfl rfl) ?_
                  refine WL.yes rfl rfl rfl <| WL.val rfl (run_load1 ty9 rfl ((hLt (fun p hp => hs.has p (List.mem_cons_of_mem _ (allL_mem hlt hp)))).gs0 (gI1_len i) (by omega) rfl)) ?_
                  refine WL.yes rfl rfl rfl ?_; refine WL.val rfl (run_move) ?_
                  refine WL.yes rfl rfl rfl <| WL.val rfl (run_bF (run_strNe rfl rfl) (by exact fun h => h rfl)) ?_
                  refine WL.yes rfl rfl rfl ?_; (first | refine WL.val rfl (run_pickT rfl) ?_ | refine WL.val rfl (run_pickF rfl) ?_)
                  refine WL.val rfl (run_pickF rfl) <| WL.nil ?_
                  refine CW.cond rfl (fun h => ?_) (fun h => ?_)
                  · cases h
                  refine CW.skip <| CW.reg <| WL.val rfl (run_move) <| WL.val rfl (run_add (c := ((k + 1 : Nat) : Int)) rfl rfl (by omega) (by omega)) <| WL.val rfl (run_assign) <| WL.nil ?_
                  refine (show _ ∧ _ from ⟨rfl, _, ?_, k + 1, by omega, rfl, hs, rfl, rfl, rfl, rfl, rfl, trivial⟩)
                  omega
                · have hobt : ∃ j, k = ns i + j := ⟨k - ns i, by omega⟩
                  obtain ⟨j, rfl⟩ := hobt
                  have hml : (markL (1000 * i + (ns i + j))).length ≤ 11 := markL_len 10 _ (by omega)
                  have hmk := fun w => mark_spec 10 (1000 * i + (ns i + j)) w (by omega) (by omega)
                  have hml2 : (markL (1000 * i + j)).length ≤ 11 := markL_len 10 _ (by omega)
                  have hmk2 := fun w => mark_spec 10 (1000 * i + j) w (by omega) (by omega)
                  repeat (first | refine CW.seq ?_ | refine CW.block ?_ | refine CW.skip ?_)
                  refine CW.reg <| WL.val rfl (run_move) <| WL.val rfl (run_mul (c := ((1000 * i : Nat) : Int)) rfl rfl (by omega) (by omega)) <| WL.val rfl (run_move) <| WL.val rfl (run_add (c := ((1000 * i + (ns i + j) : Nat) : Int)) rfl rfl (by omega) (by omega)) ?_
                  refine WL.enter rfl (run_call en43 rfl rfl) (hmk _) ?_
                  rintro e w ⟨rfl, hq⟩
                  refine ⟨_, rfl, ?_⟩
                  replace hs := hs.call0 hq
                  refine WL.val rfl (run_assign) <| WL.nil <| CW.seq <| CW.seq <| CW.reg <| WL.val rfl (run_move) <| WL.val rfl (run_move) <| WL.val rfl (run_bT (run_geq rfl rfl) (by omega)) <| WL.nil <| CW.condT rfl <| CW.reg <| WL.val rfl (run_move) <| WL.val rfl (run_mul (c := ((1000 * i : Nat) : Int)) rfl rfl (by omega) (by omega)) ?_
                  refine WL.val rfl (run_move) <| WL.val rfl (run_add (c := ((1000 * i + (ns i + j) : Nat) : Int)) rfl rfl (by omega) (by omega)) <| WL.val rfl (run_move) <| WL.val rfl (run_sub (c := ((1000 * i + j : Nat) : Int)) rfl rfl (by omega) (by omega)) ?_
                  refine WL.enter rfl (run_call en43 rfl rfl) (hmk2 _) ?_
                  rintro e w ⟨rfl, hq⟩
                  refine ⟨_, rfl, ?_⟩
                  replace hs := hs.call0 hq
                  refine WL.val rfl (run_strAdd rfl rfl (by first | omega | (simp; omega) | simp)) <| WL.val rfl (run_assign) <| WL.nil <| CW.seq <| CW.reg <| WL.val rfl (run_move) <| WL.val rfl (run_move) <| WL.val rfl (run_ixSlN Tryd.underlying44 ty40 rfl rfl (by omega)) <| WL.val rfl (run_load1 ty40 rfl (hs.c0 hmg)) <| WL.val rfl (run_move) <| WL.val rfl (run_ixSlN Tryd.underlying40 ty50 rfl rfl (by omega)) <| WL.val rfl (run_field (o' := 0) Tryd.underlying50 rfl ty9 rfl rfl rfl) ?_
                  refine WL.val rfl (run_load1 ty9 rfl ((hR (fun p hp => hs.has p (List.mem_cons_of_mem _ (allL_mem hlt hp)))).gs2 (gI1_len i) (gI2_len i) (by omega) rfl)) <| WL.val rfl (run_move) <| WL.val rfl (run_bF (run_strNe rfl rfl) (by exact fun h => h rfl)) <| WL.val rfl (run_move) ?_
                  refine WL.yes rfl rfl rfl ?_; refine WL.val rfl (run_move) ?_
                  refine WL.yes rfl rfl rfl ?_; refine WL.val rfl (run_move) ?_
                  refine WL.yes rfl rfl rfl <| WL.val rfl (run_bF (run_lss rfl rfl) (by omega)) ?_
                  refine WL.yes rfl rfl rfl ?_; refine WL.val rfl (run_move) ?_
                  refine WL.no rfl rfl rfl (.inl rfl) <| WL.no rfl rfl rfl (.inl rfl) <| WL.no rfl rfl rfl (.inl rfl) <| WL.no rfl rfl rfl (.inl rfl) <| WL.no rfl rfl rfl (.inl rfl) <| WL.no rfl rfl rfl (.inl rfl) <| WL.no rfl rfl rfl (.inl rfl) <| WL.no rfl rfl rfl (.inl rfl) <| WL.no rfl rfl rfl (.inl rfl) <| WL.no rfl rfl rfl (.inl rfl) ?_
                  refine WL.yes rfl rfl rfl ?_; (first | refine WL.val rfl (run_pickT rfl) ?_ | refine WL.val rfl (run_pickF rfl) ?_)
                  refine WL.val rfl (run_pickF rfl) <| WL.nil ?_
                  refine CW.cond rfl (fun h => ?_) (fun h => ?_)
                  · cases h
                  refine CW.skip <| CW.reg <| WL.val rfl (run_move) <| WL.val rfl (run_add (c := ((ns i + j + 1 : Nat) : Int)) rfl rfl (by omega) (by omega)) <| WL.val rfl (run_assign) <| WL.nil ?_
                  refine (show _ ∧ _ from ⟨rfl, _, ?_, ns i + j + 1, by omega, rfl, hs, rfl, rfl, rfl, rfl, rfl, trivial⟩)
                  omega
              · cases h
            · obtain rfl : k = ns i + 20 := by omega
              refine CW.seq <| CW.seq <| CW.reg <| WL.val rfl (run_move) <| WL.val rfl (run_move) <| WL.val rfl (run_add (c := ((ns i + 20 : Nat) : Int)) rfl rfl (by omega) (by omega)) <| WL.val rfl (run_bF (run_lss rfl rfl) (by omega)) <| WL.nil ?_
              repeat (first | refine CW.exit ?_ | refine CW.condF rfl ?_)
              refine CW.reg <| WL.val rfl (run_move) <| WL.val rfl (run_add (c := ((i + 1 : Nat) : Int)) rfl rfl (by omega) (by omega)) <| WL.val rfl (run_assign) <| WL.nil ?_
              refine (show _ ∧ _ from ⟨rfl, _, ?_, i + 1, by omega, rfl, hs, rfl, rfl, rfl, trivial⟩)
              omega
        · cases h
      · obtain rfl : i = N := by omega
        refine CW.seq <| CW.seq <| CW.reg <| WL.val rfl (run_move) <| WL.val rfl (run_move) <| WL.val rfl (run_lenSl Tryd.underlying44 rfl) <| WL.val rfl (run_bF (run_lss rfl rfl) (by omega)) <| WL.nil ?_
        repeat (first | refine CW.exit ?_ | refine CW.condF rfl ?_)
        exact ⟨rfl, hs⟩
  clear hs
  intro f w hs
  refine CW.seq <| CW.reg <| WL.val rfl (run_assign) <| WL.nil ?_
  refine CW.ret ?_
  refine fin_ret1 rfl ?_
  exact ⟨rfl, hs.clear⟩
end
end Go.Gx
/-! Ow1 -/
namespace Go.Gx
open Go.Proofs Go.RowKit
set_option linter.unusedVariables false
set_option linter.unusedSimpArgs false
set_option maxRecDepth 100000
/-- A slice of its own: how many elements, its cells, its blocks. -/
structure GRow where
  v : Value
  n : Nat
  xs : List Value
  L : List (Nat × Obj)
def GRow.Ok (E : TypeId) (sz : Nat) (r : GRow) : Prop := OwnSl E sz r.v r.n r.xs r.L ∧ r.n ≤ 2000000
/-- A slice of such slices. -/
structure Fam (E SL : TypeId) (sz : Nat) (u : Value) (R : List GRow) (Lu : List (Nat × Obj)) : Prop where
  own : OwnSl SL 1 u R.length (R.map (·.v)) Lu
  ok : ∀ r ∈ R, r.Ok E sz
def GRow.z : GRow := ⟨.nilFunc, 0, [], []⟩
theorem range_getD {α : Type} (R : List GRow) (f : GRow → α) : (List.range R.length).map (fun q => f (R.getD q GRow.z)) = R.map f := by
  apply List.ext_getElem?
  intro q
  by_cases hq : q < R.length
  · rw [List.getElem?_map, List.getElem?_range hq, List.getElem?_map, Option.map_some, List.getD_eq_getElem?_getD, List.getElem?_eq_getElem hq]
    rfl
  · rw [List.getElem?_eq_none (by simp; omega), List.getElem?_eq_none (by simp; omega)]
theorem allL_rows (R : List GRow) : allL (fun q => (R.getD q GRow.z).L) R.length = R.flatMap (·.L) := by
  unfold allL
  rw [List.flatMap_def, range_getD R (·.L), ← List.flatMap_def]
section
variable {E SL : TypeId} {sz m : Nat} {u v : Value} {R rs : List GRow} {Lu Lv X : List (Nat × Obj)} {xs : List Value} {w0 w : World}
theorem Fam.nil (E SL : TypeId) (sz : Nat) : Fam E SL sz (.slice none 0 0) [] [] := ⟨OwnSl.nil _ _, fun r h => by cases h⟩
theorem Fam.add (hF : Fam E SL sz u R Lu) (hv : OwnSl SL 1 v (R.length + m) (R.map (·.v) ++ xs) Lv) (hm : m = rs.length) (hx : xs = rs.map (·.v)) (hr : ∀ r ∈ rs, r.Ok E sz) : Fam E SL sz v (R ++ rs) Lv := by
  subst hm hx
  refine ⟨?_, fun r h => (List.mem_append.1 h).elim (hF.ok r) (hr r)⟩
  rw [List.length_append, List.map_append]
  exact hv
theorem Fam.grown {F : Nat} (hF : Fam E SL sz u R Lu) (hs : Step [] ((R.flatMap (·.L) ++ Lu) ++ X) w0 w) (hR : R.length ≤ 1000)
    (h0 : ∀ {aA : Option Addr} {cA : Nat} {w : World}, Calls Tryd.prog F #[.slice aA 0 cA] w fun e w' => e = .returned (.bool true) ∧ Step [] [] w w')
    (h1 : ∀ {N bA oA cA : Nat} {vs : Nat → Value} {ns : Nat → Nat} {xs : Nat → List Value} {Ls : Nat → List (Nat × Obj)} {w : World}, N ≤ 1000 → 0 < N → At w bA oA ((List.range N).map vs) → (∀ i, i < N → OwnSl E sz (vs i) (ns i) (xs i) (Ls i)) → (∀ i, i < N → ns i ≤ 2000000) → Step ((allL Ls N).map (·.1)) (allL Ls N) w w → bA ∉ (allL Ls N).map (·.1) → Calls Tryd.prog F #[.slice (some ⟨bA, oA, none⟩) N cA] w fun e w' => e = .returned (.bool true) ∧ Step ((allL Ls N).map (·.1)) [] w w') :
    Calls Tryd.prog F #[u] w fun e w' => e = .returned (.bool true) ∧ Step [] X w0 w' := by
  by_cases h : R.length = 0
  · have e : R = [] := List.eq_nil_of_length_eq_zero h
    subst e
    have hobt := hF.own.form
    obtain ⟨a, c, hu⟩ := hobt
    have hu : u = .slice a 0 c := hu
    subst hu
    exact h0.mono fun e w' ⟨h1, h2⟩ => ⟨h1, (Step.dropL hs).call0 h2⟩
  · have hobt := hF.own.some1 (by omega)
    obtain ⟨b, cap, more, hu, hL, hc⟩ := hobt
    subst hu
    have e := allL_rows R
    have hvs := range_getD R (·.v)
    have hs2 : Step [] (allL (fun q => (R.getD q GRow.z).L) R.length ++ (Lu ++ X)) w0 w := by
      rw [e, ← List.append_assoc]
      exact hs
    have hb : (b, blk SL (R.map (·.v) ++ more)) ∈ Lu := by rw [hL]; simp
    have hat : At w b 0 ((List.range R.length).map fun q => (R.getD q GRow.z).v) := by
      rw [hvs]
      exact (At.of_blk (hs2.has (b, blk SL (R.map (·.v) ++ more)) (List.mem_append_right _ (List.mem_append_left _ hb)))).left
    have hnd := Step.nodup hs2
    rw [List.map_append, List.nodup_append] at hnd
    have hbA : b ∉ (allL (fun q => (R.getD q GRow.z).L) R.length).map (·.1) := fun hm => hnd.2.2 b hm b (List.mem_map.2 ⟨_, List.mem_append_left _ hb, rfl⟩) rfl
    have hok : ∀ i, i < R.length → (R.getD i GRow.z).Ok E sz := fun i hi => by
      rw [List.getD_eq_getElem?_getD, List.getElem?_eq_getElem hi]
      exact hF.ok _ (List.getElem_mem hi)
    refine (h1 (xs := fun q => (R.getD q GRow.z).xs) hR (by omega) hat (fun i hi => (hok i hi).1) (fun i hi => (hok i hi).2) hs2.own hbA).mono fun e w' ⟨h1, h2⟩ => ⟨h1, ?_⟩
    have h3 := Step.call (L1 := allL (fun q => (R.getD q GRow.z).L) R.length) hs2 h2
    exact Step.dropL (L1 := Lu) h3
end
section
variable {u : Value} {R : List GRow} {Lu X : List (Nat × Obj)} {w0 w : World}
theorem grownB_at (hF : Fam 5 34 1 u R Lu) (hs : Step [] ((R.flatMap (·.L) ++ Lu) ++ X) w0 w) (hR : R.length ≤ 1000) : Calls Tryd.prog 17 #[u] w fun e w' => e = .returned (.bool true) ∧ Step [] X w0 w' :=
  hF.grown hs hR grownBytes_spec0 grownBytes_spec
theorem grownN_at (hF : Fam 9 51 1 u R Lu) (hs : Step [] ((R.flatMap (·.L) ++ Lu) ++ X) w0 w) (hR : R.length ≤ 1000) : Calls Tryd.prog 18 #[u] w fun e w' => e = .returned (.bool true) ∧ Step [] X w0 w' :=
  hF.grown hs hR grownNames_spec0 grownNames_spec
theorem grownI_at (hF : Fam 50 40 3 u R Lu) (hs : Step [] ((R.flatMap (·.L) ++ Lu) ++ X) w0 w) (hR : R.length ≤ 1000) : Calls Tryd.prog 19 #[u] w fun e w' => e = .returned (.bool true) ∧ Step [] X w0 w' :=
  hF.grown hs hR grownItems_spec0 grownItems_spec
end
set_option maxHeartbeats 2000000 in
theorem sameTexts_spec {u u' : Value} {l : List (List UInt8)} (w0 : World) (hu : Sl w0 1 u l.length (strs l)) (hu' : Sl w0 1 u' l.length (strs l)) (hn : l.length ≤ 2000000) : Calls Tryd.prog 21 #[u, u'] w0 (Ret0 (.bool true) w0) := by
  have hs : Step [] [] w0 w0 := Step.refl w0
  have hobt := hu.form
  obtain ⟨a1, c1, rfl⟩ := hobt
  have hobt := hu'.form
  obtain ⟨a2, c2, rfl⟩ := hobt
  refine calls (n := 26) Tryd.func21 rfl rfl rfl ?_
  refine CW.seq <| CW.reg <| WL.val rfl (run_assign) <| WL.nil <| CW.seq <| CW.seq <| CW.reg <| WL.val rfl (run_move) <| WL.val rfl (run_lenSl Tryd.underlying51 rfl) <| WL.val rfl (run_move) <| WL.val rfl (run_lenSl Tryd.underlying51 rfl) <| WL.val rfl (run_bF (run_neq rfl rfl) (by exact fun h => h rfl)) <| WL.nil ?_
  refine CW.cond rfl (fun h => ?_) (fun h => ?_)
  · cases h
  repeat (first | refine CW.seq ?_ | refine CW.skip ?_)
  refine CW.reg <| WL.val rfl (run_assign) <| WL.nil <| CW.block ?_
  refine CW.loop (fun m f w' => ∃ i, i ≤ l.length ∧ m = l.length - i ∧ Step [] [] w0 w' ∧ Holds f [(0, .slice a1 l.length c1), (1, .slice a2 l.length c2), (5, .int .i64 i)]) (m := l.length) ?_ ?_
  · exact ⟨0, by omega, by omega, Step.refl _, rfl, rfl, rfl, trivial⟩
  clear hs
  rintro m f w' ⟨i, hi, rfl, hs, hf⟩
  have hobt := hf.chain
  obtain ⟨g, rfl⟩ := hobt
  by_cases hlt : i < l.length
  · have hobt := str_in hu hlt
    obtain ⟨b1, o1, rfl, h1⟩ := hobt
    have hobt := str_in hu' hlt
    obtain ⟨b2, o2, rfl, h2⟩ := hobt
    refine CW.seq <| CW.seq <| CW.reg <| WL.val rfl (run_move) <| WL.val rfl (run_move) <| WL.val rfl (run_lenSl Tryd.underlying51 rfl) <| WL.val rfl (run_bT (run_lss rfl rfl) (by omega)) <| WL.nil ?_
    refine CW.cond rfl (fun h => ?_) (fun h => ?_)
    · repeat (first | refine CW.seq ?_ | refine CW.block ?_ | refine CW.skip ?_)
      refine CW.quiet mixedP (by kernel_rfl) hs ?_
      refine QL.val rfl (fun w hs => run_move) ?_
      refine QL.val rfl (fun w hs => run_move) ?_
      refine QL.val rfl (fun w hs => run_ixSlN Tryd.underlying51 ty9 rfl rfl (by omega)) ?_
      refine QL.val rfl (fun w hs => run_load1 ty9 rfl ((h1 _ _ hs))) ?_
      refine QL.val rfl (fun w hs => run_move) ?_
      refine QL.val rfl (fun w hs => run_move) ?_
      refine QL.val rfl (fun w hs => run_ixSlN Tryd.underlying51 ty9 rfl rfl (by omega)) ?_
      refine QL.val rfl (fun w hs => run_load1 ty9 rfl ((h2 _ _ hs))) ?_
      refine QL.val rfl (fun w hs => run_bF (run_strNe rfl rfl) (by exact fun h => h rfl)) ?_
      refine QL.nil (fun w hs => ?_)
      refine CW.cond rfl (fun h => ?_) (fun h => ?_)
      · cases h
      refine CW.skip <| CW.reg <| WL.val rfl (run_move) <| WL.val rfl (run_add (c := ((i + 1 : Nat) : Int)) rfl rfl (by omega) (by omega)) <| WL.val rfl (run_assign) <| WL.nil ?_
      refine (show _ ∧ _ from ⟨rfl, _, ?_, i + 1, by omega, rfl, hs, rfl, rfl, rfl, trivial⟩)
      omega
    · cases h
  · refine CW.seq <| CW.seq <| CW.reg <| WL.val rfl (run_move) <| WL.val rfl (run_move) <| WL.val rfl (run_lenSl Tryd.underlying51 rfl) <| WL.val rfl (run_bF (run_lss rfl rfl) (by omega)) <| WL.nil ?_
    refine CW.cond rfl (fun h => ?_) (fun h => ?_)
    · cases h
    repeat (first | refine CW.seq ?_ | refine CW.exit ?_)
    refine CW.reg <| WL.val rfl (run_assign) <| WL.nil ?_
    refine CW.ret ?_
    refine fin_ret1 rfl ?_
    exact ⟨rfl, hs⟩
section
variable {bf : Nat} {s : VS} {L R : List (Nat × Obj)} {w0 w : World}
theorem list_at (hs : Step [] R w0 w) (hR : VRep bf s L) (hL : ∀ p ∈ L, p ∈ R) (sn : s.Sane) (t : s.Tree) (hg : Gl w0) : Calls Tryd.prog 15 #[.pointer (some ⟨bf, 0, none⟩), str []] w fun e w' => ∃ u Lu, e = .returned (.tuple #[u, .int .i64 (s.list []).2]) ∧ OwnSl 9 1 u (s.list []).1.length (strs (s.list []).1) Lu ∧ Step [] (Lu ++ R) w0 w' := by
  obtain ⟨mf, md, vh, Lh, Fs, Ds, Hs, o⟩ := hR
  exact (list_spec (p := []) o sn.ok t (hg.step hs) (fun p hp => hs.has p (hL p hp)) (by decide)).mono fun e w' ⟨u, Lu, h1, h2, h3⟩ => ⟨u, Lu, h1, h2, hs.call0 h3⟩
theorem open_at (hs : Step [] (L ++ R) w0 w) (hR : VRep bf s L) (sn : s.Sane) (t : s.Tree) (hg : Gl w0) {p : List UInt8} (hp : p.length ≤ 9223372036854775807) {mode : Int} : Calls Tryd.prog 9 #[.pointer (some ⟨bf, 0, none⟩), str p, .int .i64 mode] w fun e w' => ∃ s' L' r c, s.open p mode = (r, c, s') ∧ e = .returned (.tuple #[.int .i64 r, .int .i64 c]) ∧ VRep bf s' L' ∧ s'.Sane ∧ s'.Tree ∧ Step [] (L' ++ R) w0 w' := by
  have hk := open_keeps sn t p mode
  exact (open_spec (p := p) (mode := mode) hR sn (hg.step hs) (hs.dropR.zero (by simp) hg) hs.own hp).mono fun e w' ⟨L', h1, h2, h3⟩ => ⟨_, L', _, _, rfl, h1, h2, hk.1, hk.2, hs.call h3⟩
theorem data_len (ok : s.Ok) (i : Nat) : (s.data i).length ≤ 1048576 := by
  unfold VS.data
  cases h : s.F[i]? with
  | none => exact Nat.zero_le _
  | some e => exact ok.x e (List.mem_of_getElem? h)
theorem read_len (ok : s.Ok) (h n : Int) : (s.read h n).1.length ≤ 1048576 := by
  unfold VS.read
  split
  · exact Nat.zero_le _
  · split
    · exact Nat.zero_le _
    · rename_i i pl mo _
      have := data_len ok i
      rw [List.length_take, List.length_drop]
      omega
theorem read_at2 (hs : Step [] (L ++ R) w0 w) (hR : VRep bf s L) (sn : s.Sane) (t : s.Tree) {h n : Int} (hn : -9223372036854775808 ≤ n ∧ n ≤ 9223372036854775807) : Calls Tryd.prog 16 #[.pointer (some ⟨bf, 0, none⟩), .int .i64 h, .int .i64 n] w fun e w' => ∃ v Lv L' s' x c, e = .returned (.tuple #[v, .int .i64 c]) ∧ OwnSl 5 1 v x.length (u8s x) Lv ∧ x.length ≤ 1048576 ∧ VRep bf s' L' ∧ s'.Sane ∧ s'.Tree ∧ Step [] ((Lv ++ L') ++ R) w0 w' := by
  have hk := do_keeps sn t ⟨2, h, n, [], .nilFunc, []⟩
  exact (read_spec (h := h) (n := n) hR sn.ok hs.own hn).mono fun e w' ⟨v, Lv, L', h1, h2, h3, h4⟩ => ⟨v, Lv, L', _, _, _, h1, h2, read_len sn.ok h n, h3, hk.1, hk.2, hs.call h4⟩
theorem close_at (hs : Step [] (L ++ R) w0 w) (hR : VRep bf s L) (sn : s.Sane) (t : s.Tree) {h : Int} : Calls Tryd.prog 10 #[.pointer (some ⟨bf, 0, none⟩), .int .i64 h] w fun e w' => ∃ L' s' c, e = .returned (.int .i64 c) ∧ VRep bf s' L' ∧ s'.Sane ∧ s'.Tree ∧ Step [] (L' ++ R) w0 w' := by
  have hk := do_keeps sn t ⟨7, h, 0, [], .nilFunc, []⟩
  exact (close_spec (h := h) hR sn.ok (is_op sn) hs.own).mono fun e w' ⟨L', h1, h2, h3⟩ => ⟨L', _, _, h1, h2, hk.1, hk.2, hs.call h3⟩
theorem list_n (sn : s.Sane) : (s.list []).1.length ≤ 131072 := by
  unfold VS.list
  split
  · exact Nat.zero_le _
  split
  · exact Nat.zero_le _
  split
  · exact Nat.zero_le _
  split
  · exact Nat.zero_le _
  · show (s.listN _).length ≤ _
    unfold VS.listN
    rw [List.length_map]
    exact Nat.le_trans (List.length_filter_le _ _) (itemsL_n sn)
end
end Go.Gx
/-! Ow2 -/
namespace Go.Gx
open Go.Proofs Go.RowKit
set_option linter.unusedVariables false
set_option linter.unusedSimpArgs false
set_option maxRecDepth 100000
section
variable {α : Type} {x : α} {b1 f1 b2 f2 l hB hN hI fI bI fB bB fN bN d1 e1 d2 e2 n1 n2 r v k b w m : List α}
theorem perm_o1 : (x :: ((b2 ++ f2) ++ ((b1 ++ f1) ++ (l ++ (hB ++ (hN ++ (fI ++ bI))))))).Perm (bI ++ (x :: ((b2 ++ f2) ++ ((b1 ++ f1) ++ (l ++ (hB ++ (hN ++ fI))))))) := by
  classical
  exact List.perm_iff_count.2 fun z => by
    simp only [List.count_append, List.count_cons]
    omega
theorem perm_o2 : (v ++ (x :: ((b2 ++ f2) ++ ((b1 ++ f1) ++ (l ++ (hB ++ (hN ++ fI))))))).Perm (x :: (f1 ++ (f2 ++ (l ++ (hB ++ (hN ++ ((fI ++ (b1 ++ b2)) ++ v))))))) := by
  classical
  exact List.perm_iff_count.2 fun z => by
    simp only [List.count_append, List.count_cons]
    omega
theorem perm_o3 : (x :: ((e1 ++ d1) ++ ((e2 ++ d2) ++ (l ++ ((fB ++ bB) ++ r))))).Perm (bB ++ (x :: ((e1 ++ d1) ++ ((e2 ++ d2) ++ (l ++ (fB ++ r)))))) := by
  classical
  exact List.perm_iff_count.2 fun z => by
    simp only [List.count_append, List.count_cons]
    omega
theorem perm_o4 : (v ++ (x :: ((e1 ++ d1) ++ ((e2 ++ d2) ++ (l ++ (fB ++ r)))))).Perm (x :: (d1 ++ (d2 ++ (l ++ (((fB ++ (e1 ++ e2)) ++ v) ++ r))))) := by
  classical
  exact List.perm_iff_count.2 fun z => by
    simp only [List.count_append, List.count_cons]
    omega
theorem perm_o5 : (x :: (n2 ++ (n1 ++ (l ++ (hB ++ ((fN ++ bN) ++ hI)))))).Perm (bN ++ (x :: (n2 ++ (n1 ++ (l ++ (hB ++ (fN ++ hI))))))) := by
  classical
  exact List.perm_iff_count.2 fun z => by
    simp only [List.count_append, List.count_cons]
    omega
theorem perm_o6 : (v ++ (x :: (n2 ++ (n1 ++ (l ++ (hB ++ (fN ++ hI))))))).Perm (x :: (l ++ (hB ++ (((fN ++ (n1 ++ n2)) ++ v) ++ hI)))) := by
  classical
  exact List.perm_iff_count.2 fun z => by
    simp only [List.count_append, List.count_cons]
    omega
theorem perm_o7 : (x :: ((b ++ l) ++ ((fB ++ bB) ++ r))).Perm (bB ++ (x :: ((b ++ l) ++ (fB ++ r)))) := by
  classical
  exact List.perm_iff_count.2 fun z => by
    simp only [List.count_append, List.count_cons]
    omega
theorem perm_o8 : (v ++ (x :: ((b ++ l) ++ (fB ++ r)))).Perm (x :: (l ++ (((fB ++ b) ++ v) ++ r))) := by
  classical
  exact List.perm_iff_count.2 fun z => by
    simp only [List.count_append, List.count_cons]
    omega
theorem perm_o9 : (k ++ (b ++ (w ++ (l ++ (m ++ r))))).Perm (m ++ (k ++ (b ++ (w ++ (l ++ r))))) := by
  classical
  exact List.perm_iff_count.2 fun z => by
    simp only [List.count_append]
    omega
theorem perm_o10 : (k ++ (b ++ (w ++ (l ++ m)))).Perm (m ++ (k ++ (b ++ (w ++ l)))) := by
  classical
  exact List.perm_iff_count.2 fun z => by
    simp only [List.count_append]
    omega
end
theorem drop_rows {R : List RowI} {k : Nat} {r : RowI} (h : R[k]? = some r) : (R.drop k).flatMap (·.Lv) = r.Lv ++ (R.drop (k + 1)).flatMap (·.Lv) := by
  have hobt := List.getElem?_eq_some_iff.1 h
  obtain ⟨h1, h2⟩ := hobt
  rw [List.drop_eq_getElem_cons h1, h2, List.flatMap_cons]
theorem flat2 {R : List GRow} {a b : GRow} : (R ++ [a, b]).flatMap (·.L) = R.flatMap (·.L) ++ (a.L ++ b.L) := by simp
theorem flat1 {R : List GRow} {a : GRow} : (R ++ [a]).flatMap (·.L) = R.flatMap (·.L) ++ a.L := by simp
theorem cells1_2 {u v : Value} (hu : u.oneCell' = true) (hv : v.oneCell' = true) : Cells1 [u, v] := fun x hx => by
  rcases List.mem_cons.1 hx with rfl | hx
  · exact hu
  · rw [List.mem_singleton.1 hx]; exact hv
theorem cells1_1 {u : Value} (hu : u.oneCell' = true) : Cells1 [u] := fun x hx => by
  rw [List.mem_singleton.1 hx]; exact hu
theorem rows_2 {E : TypeId} {sz : Nat} {a b : GRow} (ha : a.Ok E sz) (hb : b.Ok E sz) : ∀ r ∈ [a, b], r.Ok E sz := fun x hx => by
  rcases List.mem_cons.1 hx with rfl | hx
  · exact ha
  · rw [List.mem_singleton.1 hx]; exact hb
theorem rows_1 {E : TypeId} {sz : Nat} {a : GRow} (ha : a.Ok E sz) : ∀ r ∈ [a], r.Ok E sz := fun x hx => by
  rw [List.mem_singleton.1 hx]; exact ha
set_option maxHeartbeats 16000000 in
theorem vfsOwn_spec {v0 v1 : Value} {l : List It} {sc : List Stv} (w0 : World) (hg : Gl w0) (hl : Its w0 v0 l) (hst : Stvs w0 v1 sc) : Calls Tryd.prog 4 #[v0, v1] w0 (Ret0 (.bool true) w0) := by
  have hs : Step [] [] w0 w0 := Step.refl w0
  have hobt := hst.sl.form
  obtain ⟨a1, c1, rfl⟩ := hobt
  have hscl := hst.len
  have hits := fun {L w} (hs : Step [] L w0 w) => (⟨hl.sl.step0 hs, fun x hx => ⟨(hl.ok x hx).hb.step0 hs, (hl.ok x hx).lp, (hl.ok x hx).lb⟩, hl.len⟩ : Its w v0 l)
  have ha : i64s 10000 := by unfold i64s; omega
  have hb : i64s 100 := by unfold i64s; omega
  have hc : i64s 60 := by unfold i64s; omega
  have hnew := fun {L w} (hs : Step [] L w0 w) => new_spec w (hg.step hs) ha hb hc (hits hs)
  by_cases hE : newE 10000 100 l ≠ 0
  · have hnb := fun {L w} (hs : Step [] L w0 w) => (hnew hs).mono (R' := fun e w' => ∃ L', e = .returned (.tuple #[.pointer none, .int .i64 (newE 10000 100 l)]) ∧ Step [] L' w w') fun e w' ⟨L', h1, h2⟩ => by
      rcases h2 with ⟨_, h3⟩ | ⟨h3, _⟩
      · exact ⟨L', h3, h1⟩
      · exact absurd h3 hE
    refine calls (n := 178) Tryd.func4 rfl rfl rfl ?_
    refine CW.seq <| CW.reg <| WL.val rfl (run_assign) <| WL.nil <| CW.seq <| CW.seq <| CW.reg ?_
    refine WL.enter rfl (run_call en7 rfl rfl) (known_spec (hg.step hs)) ?_
    rintro e w ⟨rfl, hq⟩
    refine ⟨_, rfl, ?_⟩
    replace hs := hs.callE hq
    refine WL.val rfl (run_not rfl) <| WL.nil ?_
    refine CW.cond rfl (fun h => ?_) (fun h => ?_)
    · cases h
    repeat (first | refine CW.seq ?_ | refine CW.skip ?_)
    refine CW.reg <| WL.val rfl (run_move) <| WL.val rfl (run_build rfl (bld_quo _ _ _ _)) ?_
    refine WL.enter rfl (run_call en8 rfl rfl) (hnb hs) ?_
    rintro e w ⟨L1, rfl, hq⟩
    refine ⟨_, rfl, ?_⟩
    replace hs := hs.call0 hq
    refine WL.val rfl (run_move) <| WL.val rfl (run_extract rfl rfl) <| WL.val rfl (run_extract rfl rfl) <| WL.val rfl (run_assign) <| WL.val rfl (run_assign) <| WL.nil <| CW.seq <| CW.seq <| CW.reg <| WL.val rfl (run_move) <| WL.val rfl (run_bT (run_neq rfl rfl) (by exact hE)) <| WL.val rfl (run_move) <| WL.no rfl rfl rfl (.inl rfl) ?_
    refine WL.no rfl rfl rfl (.inl rfl) <| WL.val rfl (run_pickT rfl) <| WL.nil ?_
    refine CW.cond rfl (fun h => ?_) (fun h => ?_)
    · refine CW.seq <| CW.reg <| WL.val rfl (run_move) <| WL.val rfl (run_bT (run_neq rfl rfl) (by exact hE)) <| WL.val rfl (run_move) ?_
      refine WL.yes rfl rfl rfl ?_; refine WL.val rfl (run_move) ?_
      refine WL.yes rfl rfl rfl <| WL.val rfl (run_nilNil Tryd.underlying25 rfl rfl) <| WL.val rfl (run_pickT rfl) <| WL.val rfl (run_assign) <| WL.nil ?_
      refine CW.ret ?_
      refine fin_ret1 rfl ?_
      exact ⟨rfl, hs.clear⟩
    · cases h
  have hE : newE 10000 100 l = 0 := Classical.byContradiction hE
  have hno := fun {L w} (hs : Step [] L w0 w) => (hnew hs).mono (R' := fun e w' => ∃ bf L', e = .returned (.tuple #[.pointer (some ⟨bf, 0, none⟩), .int .i64 0]) ∧ VRep bf (newS 10000 100 60 l) L' ∧ Step [] L' w w') fun e w' ⟨L', h1, h2⟩ => by
    rcases h2 with ⟨h3, _⟩ | ⟨_, bf, h3, h4⟩
    · exact absurd hE h3
    · exact ⟨bf, L', h3, h4, h1⟩
  have sn0 := new_sane (c := 60) hE ha hb hc
  have t0 := new_tree (c := 60) hE
  refine calls (n := 178) Tryd.func4 rfl rfl rfl ?_
  refine CW.seq <| CW.reg <| WL.val rfl (run_assign) <| WL.nil <| CW.seq <| CW.seq <| CW.reg ?_
  refine WL.enter rfl (run_call en7 rfl rfl) (known_spec (hg.step hs)) ?_
  rintro e w ⟨rfl, hq⟩
  refine ⟨_, rfl, ?_⟩
  replace hs := hs.callE hq
  refine WL.val rfl (run_not rfl) <| WL.nil ?_
  refine CW.cond rfl (fun h => ?_) (fun h => ?_)
  · cases h
  repeat (first | refine CW.seq ?_ | refine CW.skip ?_)
  refine CW.reg <| WL.val rfl (run_move) <| WL.val rfl (run_build rfl (bld_quo _ _ _ _)) ?_
  refine WL.enter rfl (run_call en8 rfl rfl) (hno hs) ?_
  rintro e w ⟨bf, L1, rfl, hR0, hq⟩
  refine ⟨_, rfl, ?_⟩
  replace hs := hs.call0 hq
  refine WL.val rfl (run_move) <| WL.val rfl (run_extract rfl rfl) <| WL.val rfl (run_extract rfl rfl) <| WL.val rfl (run_assign) <| WL.val rfl (run_assign) <| WL.nil <| CW.seq <| CW.seq <| CW.reg <| WL.val rfl (run_move) <| WL.val rfl (run_bF (run_neq rfl rfl) (by decide)) <| WL.val rfl (run_move) ?_
  refine WL.yes rfl rfl rfl ?_; refine WL.val rfl (run_move) ?_
  refine WL.yes rfl rfl rfl <| WL.val rfl (run_ptrNil Tryd.underlying25 rfl rfl) <| WL.val rfl (run_pickF rfl) <| WL.nil ?_
  refine CW.cond rfl (fun h => ?_) (fun h => ?_)
  · cases h
  have hobt : ∃ S, newS 10000 100 60 l = S := ⟨_, rfl⟩
  obtain ⟨S0, hS0⟩ := hobt
  rw [hS0] at hR0 sn0 t0
  replace hs : Step [] (L1 ++ []) w0 w := hs
  rw [List.append_nil] at hs
  clear hnew hno hits hE hS0
  repeat (first | refine CW.seq ?_ | refine CW.skip ?_)
  refine CW.reg <| WL.val rfl (run_assign) <| WL.nil <| CW.seq <| CW.reg <| WL.val rfl (run_assign) <| WL.nil <| CW.seq <| CW.reg <| WL.val rfl (run_assign) <| WL.nil ?_
  refine CW.seqM (fun f w => ∃ s L uB RB Bb uN RN Bn uI RI Bi, VRep bf s L ∧ s.Sane ∧ s.Tree ∧ Fam 5 34 1 uB RB Bb ∧ Fam 9 51 1 uN RN Bn ∧ Fam 50 40 3 uI RI Bi ∧ (RB.length ≤ 1000 ∧ RN.length ≤ 1000 ∧ RI.length ≤ 1000) ∧ Step [] (L ++ ((RB.flatMap (·.L) ++ Bb) ++ ((RN.flatMap (·.L) ++ Bn) ++ (RI.flatMap (·.L) ++ Bi)))) w0 w ∧ Holds f [(5, .pointer (some ⟨bf, 0, none⟩)), (7, uB), (8, uN), (9, uI)]) ?_ ?_
  · refine CW.seq <| CW.reg <| WL.val rfl (run_assign) <| WL.nil <| CW.block ?_
    refine CW.loop (fun z f w => ∃ i s L uB RB Bb uN RN Bn uI RI Bi, (i ≤ sc.length ∧ i ≤ 40) ∧ z = sc.length - i ∧ VRep bf s L ∧ s.Sane ∧ s.Tree ∧ Fam 5 34 1 uB RB Bb ∧ Fam 9 51 1 uN RN Bn ∧ Fam 50 40 3 uI RI Bi ∧ (RB.length ≤ 17 * i ∧ RN.length ≤ 2 * i ∧ RI.length ≤ 2 * i) ∧ Step [] (L ++ ((RB.flatMap (·.L) ++ Bb) ++ ((RN.flatMap (·.L) ++ Bn) ++ (RI.flatMap (·.L) ++ Bi)))) w0 w ∧ Holds f [(1, .slice a1 sc.length c1), (5, .pointer (some ⟨bf, 0, none⟩)), (7, uB), (8, uN), (9, uI), (10, .int .i64 (i : Nat))]) (m := sc.length) ?_ ?_
    · exact ⟨0, S0, L1, _, [], [], _, [], [], _, [], [], ⟨Nat.zero_le _, Nat.zero_le _⟩, rfl, hR0, sn0, t0, Fam.nil _ _ _, Fam.nil _ _ _, Fam.nil _ _ _, ⟨Nat.zero_le _, Nat.zero_le _, Nat.zero_le _⟩, by simpa using hs, rfl, rfl, rfl, rfl, rfl, rfl, trivial⟩
    clear hs hR0 sn0 t0
    rintro z f w ⟨i, s, L, uB, RB, Bb, uN, RN, Bn, uI, RI, Bi, ⟨hi, hi4⟩, rfl, hR, sn, t, hFB, hFN, hFI, ⟨hnB, hnN, hnI⟩, hs, hf⟩
    by_cases hlt : i < sc.length
    case neg =>
      have hobt := hf.chain
      obtain ⟨g, rfl⟩ := hobt
      refine CW.seq <| CW.seq <| CW.reg <| WL.val rfl (run_move) <| WL.val rfl (run_move) <| WL.val rfl (run_lenSl Tryd.underlying41 rfl) <| WL.val rfl (run_bF (run_lss rfl rfl) (by omega)) <| WL.val rfl (run_move) <| WL.no rfl rfl rfl (.inl rfl) <| WL.no rfl rfl rfl (.inl rfl) <| WL.val rfl (run_pickF rfl) <| WL.nil ?_
      refine CW.cond rfl (fun h => ?_) (fun h => ?_)
      · cases h
      refine CW.exit ?_
      exact ⟨rfl, s, L, uB, RB, Bb, uN, RN, Bn, uI, RI, Bi, hR, sn, t, hFB, hFN, hFI, ⟨by omega, by omega, by omega⟩, hs, rfl, rfl, rfl, rfl, trivial⟩
    by_cases hlt4 : i < 40
    case neg =>
      have hobt := hf.chain
      obtain ⟨g, rfl⟩ := hobt
      refine CW.seq <| CW.seq <| CW.reg <| WL.val rfl (run_move) <| WL.val rfl (run_move) <| WL.val rfl (run_lenSl Tryd.underlying41 rfl) <| WL.val rfl (run_bT (run_lss rfl rfl) (by omega)) <| WL.val rfl (run_move) ?_
      refine WL.yes rfl rfl rfl ?_; refine WL.val rfl (run_move) ?_
      refine WL.yes rfl rfl rfl <| WL.val rfl (run_bF (run_lss rfl rfl) (by omega)) <| WL.val rfl (run_pickT rfl) <| WL.nil ?_
      refine CW.cond rfl (fun h => ?_) (fun h => ?_)
      · cases h
      refine CW.exit ?_
      exact ⟨rfl, s, L, uB, RB, Bb, uN, RN, Bn, uI, RI, Bi, hR, sn, t, hFB, hFN, hFI, ⟨by omega, by omega, by omega⟩, hs, rfl, rfl, rfl, rfl, trivial⟩
    have hobt : ∃ x, sc[i]? = some x := ⟨_, List.getElem?_eq_getElem hlt⟩
    obtain ⟨x, hx⟩ := hobt
    have hxo := hst.ok x (List.mem_of_getElem? hx)
    have hobt := hst.at hx
    obtain ⟨bs, os, cs, hc0, hat⟩ := hobt
    injection hc0 with hc1 hc2 hc3
    have hc4 := congrArg (fun z => Value.slice z sc.length c1) hc1
    rw [show Value.slice a1 sc.length c1 = Value.slice (some ⟨bs, os, none⟩) sc.length c1 from hc4] at hf
    have hxk : At w0 bs (os + i * 5) [.int .i64 x.k, .int .i64 x.h, .int .i64 x.n, str x.p, x.v] := hat
    have hobt := do_keeps sn t x
    obtain ⟨sn2, t2⟩ := hobt
    have hdo := fun {w R} (hs : Step [] (L ++ R) w0 w) => do_at hs hR sn t hg hxo
    have hobt : ∃ s2 res, s.doS x = (s2, res) := ⟨_, _, rfl⟩
    obtain ⟨s2, res, hsr⟩ := hobt
    simp only [hsr] at hdo sn2 t2
    have hobt := hf.chain
    obtain ⟨g, rfl⟩ := hobt
    refine CW.seq <| CW.seq <| CW.reg <| WL.val rfl (run_move) <| WL.val rfl (run_move) <| WL.val rfl (run_lenSl Tryd.underlying41 rfl) <| WL.val rfl (run_bT (run_lss rfl rfl) (by omega)) <| WL.val rfl (run_move) ?_
    refine WL.yes rfl rfl rfl ?_; refine WL.val rfl (run_move) ?_
    refine WL.yes rfl rfl rfl <| WL.val rfl (run_bT (run_lss rfl rfl) (by omega)) <| WL.val rfl (run_pickT rfl) <| WL.nil ?_
    refine CW.cond rfl (fun h => ?_) (fun h => ?_)
    · repeat (first | refine CW.seq ?_ | refine CW.block ?_ | refine CW.skip ?_)
      refine CW.reg <| WL.val rfl (run_move) <| WL.val rfl (run_move) <| WL.val rfl (run_move) <| WL.val rfl (run_ixSlN Tryd.underlying41 ty47 rfl rfl (by omega)) <| WL.val rfl (run_loadN ty47 rfl rfl (hxk.step hs (by simp))) ?_
      refine WL.enter rfl (run_call en13 rfl rfl) (hdo hs) ?_
      rintro e w ⟨L2, rfl, hR2, hq⟩
      refine ⟨_, rfl, ?_⟩
      replace hs := hq
      refine WL.nil ?_
      clear hdo hR
      have hXx := itemsL_x sn2.ok
      have hXn := itemsL_n sn2
      have hLn := list_n sn2
      refine CW.seq <| CW.reg <| WL.val rfl (run_move) ?_
      refine WL.enter rfl (run_call en14 rfl rfl) (items_at hs hR2 (fun p hp => by simp [hp]) sn2 t2 hg) ?_
      rintro e w ⟨u1, B1, R1, rfl, hA1, hu1, hO1, hq⟩
      refine ⟨_, rfl, ?_⟩
      replace hs := hq
      refine WL.val rfl (run_assign) <| WL.nil <| CW.seq <| CW.reg <| WL.val rfl (run_move) ?_
      refine WL.enter rfl (run_call en14 rfl rfl) (items_at hs hR2 (fun p hp => by simp [hp]) sn2 t2 hg) ?_
      rintro e w ⟨u2, B2, R2, rfl, hA2, hu2, hO2, hq⟩
      refine ⟨_, rfl, ?_⟩
      replace hs := hq
      refine WL.val rfl (run_assign) <| WL.nil ?_
      have hobt : ∃ n, s2.itemsL.length = n := ⟨_, rfl⟩
      obtain ⟨n, hn⟩ := hobt
      have hn1 : R1.length = n := by rw [← hn, ← hA1, absR, List.length_map]
      have hn2 : R2.length = n := by rw [← hn, ← hA2, absR, List.length_map]
      have hx1 : ∀ r ∈ R1, r.x.length ≤ 1048576 := fun r hr => hXx (r.p, r.d, r.x) (by rw [← hA1]; exact List.mem_map.2 ⟨r, hr, rfl⟩)
      have hx2 : ∀ r ∈ R2, r.x.length ≤ 1048576 := fun r hr => hXx (r.p, r.d, r.x) (by rw [← hA2]; exact List.mem_map.2 ⟨r, hr, rfl⟩)
      rw [hn] at hXn
      rw [hn1] at hu1
      rw [hn2] at hu2
      refine CW.seq <| CW.reg <| WL.val rfl (run_move) <| WL.val rfl (run_move) <| WL.val rfl (run_move) ?_
      refine WL.buildSlice (cs := [u1, u2]) (vs := [(0, u1), (1, u2)]) Tryd.underlying44 ty40 rfl (by decide) rfl (filledA2 hu1.one hu2.one) rfl hs (fun b71 w hs => ?_)
      refine WL.append Tryd.underlying44 Tryd.underlying44 ty40 rfl (by decide) rfl rfl (hFI.own) (hs.perm perm_o1) ((Sl.mk rfl hs.a0 : Sl w 1 (.slice (some ⟨b71, 0, none⟩) 2 2) 2 [u1, u2])) (cells1_2 hu1.one hu2.one) (by first | omega | (simp only [List.length_append, List.length_cons, List.length_nil]; omega)) rfl (fun v72 Lv72 w hv72 hs => ?_)
      refine WL.val rfl (run_assign) <| WL.nil ?_
      have hFI2 := hFI.add (rs := [⟨u1, n, rowsI R1, B1⟩, ⟨u2, n, rowsI R2, B2⟩]) hv72 rfl rfl (rows_2 ⟨hu1, Nat.le_trans hXn (by decide)⟩ ⟨hu2, Nat.le_trans hXn (by decide)⟩)
      replace hs := Step.tail (hs.perm perm_o2)
      have hobt : ∃ R, RI ++ [⟨u1, n, rowsI R1, B1⟩, ⟨u2, n, rowsI R2, B2⟩] = R := ⟨_, rfl⟩
      obtain ⟨RI2, hRI2⟩ := hobt
      have e2 : RI2.flatMap (·.L) = RI.flatMap (·.L) ++ (B1 ++ B2) := by rw [← hRI2]; exact flat2
      have hnI2 : RI2.length ≤ 2 * i + 2 := by rw [← hRI2, List.length_append]; simp; omega
      rw [hRI2] at hFI2
      rw [← e2] at hs
      have hobt : ∃ H, RI2.flatMap (·.L) ++ Lv72 = H := ⟨_, rfl⟩
      obtain ⟨HI, hHI⟩ := hobt
      have hm1 : ∀ p ∈ B1, p ∈ HI := fun p hp => by rw [← hHI, e2]; simp [hp]
      have hm2 : ∀ p ∈ B2, p ∈ HI := fun p hp => by rw [← hHI, e2]; simp [hp]
      have hobt : ∃ H, RN.flatMap (·.L) ++ Bn = H := ⟨_, rfl⟩
      obtain ⟨HN, hHN⟩ := hobt
      rw [hHI, hHN] at hs
      have hobt := hu1.form
      obtain ⟨o1, q1, hq1⟩ := hobt
      have hobt := hu2.form
      obtain ⟨o2, q2, hq2⟩ := hobt
      refine CW.seqM (fun f w => ∃ uB RB Bb, Fam 5 34 1 uB RB Bb ∧ RB.length ≤ 17 * i + 16 ∧ Step [] (L2 ++ ((RB.flatMap (·.L) ++ Bb) ++ (HN ++ HI))) w0 w ∧ Holds f [(1, .slice (some ⟨bs, os, none⟩) sc.length c1), (5, .pointer (some ⟨bf, 0, none⟩)), (7, uB), (8, uN), (9, v72), (10, .int .i64 (i : Nat))]) ?_ ?_
      · refine CW.seq <| CW.reg <| WL.val rfl (run_assign) <| WL.nil <| CW.block ?_
        refine CW.loop (fun z f w => ∃ k uB RB Bb, (k ≤ n ∧ k ≤ 8) ∧ z = 8 - k ∧ Fam 5 34 1 uB RB Bb ∧ RB.length ≤ 17 * i + 2 * k ∧ Step [] ((R1.drop k).flatMap (·.Lv) ++ ((R2.drop k).flatMap (·.Lv) ++ (L2 ++ ((RB.flatMap (·.L) ++ Bb) ++ (HN ++ HI))))) w0 w ∧ Holds f [(1, .slice (some ⟨bs, os, none⟩) sc.length c1), (5, .pointer (some ⟨bf, 0, none⟩)), (7, uB), (8, uN), (9, v72), (10, .int .i64 (i : Nat)), (11, .slice o1 n q1), (12, .slice o2 n q2), (13, .int .i64 (k : Nat))]) (m := 8) ?_ ?_
        · exact ⟨0, uB, RB, Bb, ⟨Nat.zero_le _, Nat.zero_le _⟩, rfl, hFB, by omega, hs, rfl, rfl, rfl, rfl, rfl, rfl, hq1, hq2, rfl, trivial⟩
        clear hs hFB hnB
        rintro z f w ⟨k, uB, RB, Bb, ⟨hk, hk8⟩, rfl, hFB, hnB, hs, hf⟩
        by_cases hkn : k < n
        case neg =>
          have hobt := hf.chain
          obtain ⟨g, rfl⟩ := hobt
          refine CW.seq <| CW.seq <| CW.reg <| WL.val rfl (run_move) <| WL.val rfl (run_move) <| WL.val rfl (run_lenSl Tryd.underlying40 rfl) <| WL.val rfl (run_bF (run_lss rfl rfl) (by omega)) <| WL.val rfl (run_move) <| WL.no rfl rfl rfl (.inl rfl) <| WL.no rfl rfl rfl (.inl rfl) <| WL.no rfl rfl rfl (.inl rfl) <| WL.no rfl rfl rfl (.inl rfl) <| WL.val rfl (run_pickF rfl) ?_
          refine WL.val rfl (run_move) <| WL.no rfl rfl rfl (.inl rfl) <| WL.no rfl rfl rfl (.inl rfl) <| WL.val rfl (run_pickF rfl) <| WL.nil ?_
          refine CW.cond rfl (fun h => ?_) (fun h => ?_)
          · cases h
          refine CW.exit ?_
          exact ⟨rfl, uB, RB, Bb, hFB, by omega, (Step.dropL (Step.dropL hs)), rfl, rfl, rfl, rfl, rfl, rfl, trivial⟩
        by_cases hk8' : k < 8
        case neg =>
          have hobt := hf.chain
          obtain ⟨g, rfl⟩ := hobt
          refine CW.seq <| CW.seq <| CW.reg <| WL.val rfl (run_move) <| WL.val rfl (run_move) <| WL.val rfl (run_lenSl Tryd.underlying40 rfl) <| WL.val rfl (run_bT (run_lss rfl rfl) (by omega)) <| WL.val rfl (run_move) ?_
          refine WL.yes rfl rfl rfl ?_; refine WL.val rfl (run_move) ?_
          refine WL.yes rfl rfl rfl ?_; refine WL.val rfl (run_move) ?_
          refine WL.yes rfl rfl rfl ?_; refine WL.val rfl (run_lenSl Tryd.underlying40 rfl) ?_
          refine WL.yes rfl rfl rfl <| WL.val rfl (run_bT (run_lss rfl rfl) (by omega)) <| WL.val rfl (run_pickT rfl) <| WL.val rfl (run_move) ?_
          refine WL.yes rfl rfl rfl ?_; refine WL.val rfl (run_move) ?_
          refine WL.yes rfl rfl rfl <| WL.val rfl (run_bF (run_lss rfl rfl) (by omega)) <| WL.val rfl (run_pickT rfl) <| WL.nil ?_
          refine CW.cond rfl (fun h => ?_) (fun h => ?_)
          · cases h
          refine CW.exit ?_
          exact ⟨rfl, uB, RB, Bb, hFB, by omega, (Step.dropL (Step.dropL hs)), rfl, rfl, rfl, rfl, rfl, rfl, trivial⟩
        have hobt : ∃ r, R1[k]? = some r := ⟨_, List.getElem?_eq_getElem (by omega)⟩
        obtain ⟨r1, hr1⟩ := hobt
        have hobt : ∃ r, R2[k]? = some r := ⟨_, List.getElem?_eq_getElem (by omega)⟩
        obtain ⟨r2, hr2⟩ := hobt
        have ho1 := hO1 r1 (List.mem_of_getElem? hr1)
        have ho2 := hO2 r2 (List.mem_of_getElem? hr2)
        have hl1 := hx1 r1 (List.mem_of_getElem? hr1)
        have hl2 := hx2 r2 (List.mem_of_getElem? hr2)
        have hobt := hu1.some1 (by omega)
        obtain ⟨p1, w1, m1, hu1b, hB1, -⟩ := hobt
        have hobt := hu2.some1 (by omega)
        obtain ⟨p2, w2, m2, hu2b, hB2, -⟩ := hobt
        replace hu1b := hq1.symm.trans hu1b
        replace hu2b := hq2.symm.trans hu2b
        injection hu1b with z1 z2 z3
        have y1 := congrArg (fun z => Value.slice z n q1) z1
        injection hu2b with z4 z5 z6
        have y2 := congrArg (fun z => Value.slice z n q2) z4
        rw [show Value.slice o1 n q1 = Value.slice (some ⟨p1, 0, none⟩) n q1 from y1, show Value.slice o2 n q2 = Value.slice (some ⟨p2, 0, none⟩) n q2 from y2] at hf
        have hb1 : (p1, blk 50 (rowsI R1 ++ m1)) ∈ HI := hm1 _ (by rw [hB1]; simp)
        have hb2 : (p2, blk 50 (rowsI R2 ++ m2)) ∈ HI := hm2 _ (by rw [hB2]; simp)
        have he1 : r1.enc[2]? = some r1.v := rfl
        have he2 : r2.enc[2]? = some r2.v := rfl
        rw [drop_rows hr1, drop_rows hr2] at hs
        have hobt := hf.chain
        obtain ⟨g, rfl⟩ := hobt
        refine CW.seq <| CW.seq <| CW.reg <| WL.val rfl (run_move) <| WL.val rfl (run_move) <| WL.val rfl (run_lenSl Tryd.underlying40 rfl) <| WL.val rfl (run_bT (run_lss rfl rfl) (by omega)) <| WL.val rfl (run_move) ?_
        refine WL.yes rfl rfl rfl ?_; refine WL.val rfl (run_move) ?_
        refine WL.yes rfl rfl rfl ?_; refine WL.val rfl (run_move) ?_
        refine WL.yes rfl rfl rfl ?_; refine WL.val rfl (run_lenSl Tryd.underlying40 rfl) ?_
        refine WL.yes rfl rfl rfl <| WL.val rfl (run_bT (run_lss rfl rfl) (by omega)) <| WL.val rfl (run_pickT rfl) <| WL.val rfl (run_move) ?_
        refine WL.yes rfl rfl rfl ?_; refine WL.val rfl (run_move) ?_
        refine WL.yes rfl rfl rfl <| WL.val rfl (run_bT (run_lss rfl rfl) (by omega)) <| WL.val rfl (run_pickT rfl) <| WL.nil ?_
        refine CW.cond rfl (fun h => ?_) (fun h => ?_)
        · repeat (first | refine CW.seq ?_ | refine CW.block ?_ | refine CW.skip ?_)
          refine CW.any (A := fun w => At w p1 (0 + k * 3) r1.enc ∧ At w p2 (0 + k * 3) r2.enc) (C := fun w => At w p1 (0 + k * 3) r1.enc ∧ At w p2 (0 + k * 3) r2.enc) 1000000 14 mixedP rfl ?_
          replace hs := hs.drew
          refine AL.val 0 rfl (by kernel_rfl) rfl (fun w hs => run_move) ?_
          refine AL.val 1 rfl (by kernel_rfl) rfl (fun w hs => run_move) ?_
          refine AL.val 2 rfl (by kernel_rfl) rfl (fun w hs => run_move) ?_
          refine AL.val 3 rfl (by kernel_rfl) rfl (fun w hs => run_ixSlN Tryd.underlying40 ty50 rfl rfl (by omega)) ?_
          refine AL.val 4 rfl (by kernel_rfl) rfl (fun w hs => run_field (o' := 2) Tryd.underlying50 rfl ty34 rfl rfl rfl) ?_
          refine AL.val 5 rfl (by kernel_rfl) rfl (fun w hs => run_load1 ty34 rfl ((hs.1.cell he1))) ?_
          refine AL.val 6 rfl (by kernel_rfl) rfl (fun w hs => run_move) ?_
          refine AL.val 7 rfl (by kernel_rfl) rfl (fun w hs => run_move) ?_
          refine AL.val 8 rfl (by kernel_rfl) rfl (fun w hs => run_ixSlN Tryd.underlying40 ty50 rfl rfl (by omega)) ?_
          refine AL.val 9 rfl (by kernel_rfl) rfl (fun w hs => run_field (o' := 2) Tryd.underlying50 rfl ty34 rfl rfl rfl) ?_
          refine AL.val 10 rfl (by kernel_rfl) rfl (fun w hs => run_load1 ty34 rfl ((hs.2.cell he2))) ?_
          refine AL.one 11 (by kernel_rfl) rfl (⟨rowsI_blk (b := p1) (T := 50) (more := m1) hs (by simp [hb1]) hr1, rowsI_blk (b := p2) (T := 50) (more := m2) hs (by simp [hb2]) hr2⟩) (⟨rowsI_blk (b := p1) (T := 50) (more := m1) hs (by simp [hb1]) hr1, rowsI_blk (b := p2) (T := 50) (more := m2) hs (by simp [hb2]) hr2⟩) ?_
          refine WL.buildSlice (cs := [r1.v, r2.v]) (vs := [(0, r1.v), (1, r2.v)]) Tryd.underlying42 ty34 rfl (by decide) rfl (filledA2 ho1.one ho2.one) rfl hs (fun b100 w hs => ?_)
          refine WL.nil ?_
          refine ⟨rfl, ?_⟩
          refine AL.one 12 (by kernel_rfl) rfl (⟨rowsI_blk (b := p1) (T := 50) (more := m1) hs (by simp [hb1]) hr1, rowsI_blk (b := p2) (T := 50) (more := m2) hs (by simp [hb2]) hr2⟩) (⟨rowsI_blk (b := p1) (T := 50) (more := m1) hs (by simp [hb1]) hr1, rowsI_blk (b := p2) (T := 50) (more := m2) hs (by simp [hb2]) hr2⟩) ?_
          refine WL.append Tryd.underlying42 Tryd.underlying42 ty34 rfl (by decide) rfl rfl (hFB.own) (hs.perm perm_o3) ((Sl.mk rfl hs.a0 : Sl w 1 (.slice (some ⟨b100, 0, none⟩) 2 2) 2 [r1.v, r2.v])) (cells1_2 ho1.one ho2.one) (by first | omega | (simp only [List.length_append, List.length_cons, List.length_nil]; omega)) rfl (fun v101 Lv101 w hv101 hs => ?_)
          refine WL.nil ?_
          refine ⟨rfl, ?_⟩
          refine AL.val 13 rfl (by kernel_rfl) rfl (fun w hs => run_assign) ?_
          refine AL.end (by kernel_rfl) (⟨rowsI_blk (b := p1) (T := 50) (more := m1) hs (by simp [hb1]) hr1, rowsI_blk (b := p2) (T := 50) (more := m2) hs (by simp [hb2]) hr2⟩) (⟨rowsI_blk (b := p1) (T := 50) (more := m1) hs (by simp [hb1]) hr1, rowsI_blk (b := p2) (T := 50) (more := m2) hs (by simp [hb2]) hr2⟩) ?_
          have hFB2 := hFB.add (rs := [⟨r1.v, r1.x.length, u8s r1.x, r1.Lv⟩, ⟨r2.v, r2.x.length, u8s r2.x, r2.Lv⟩]) hv101 rfl rfl (rows_2 ⟨ho1, Nat.le_trans hl1 (by decide)⟩ ⟨ho2, Nat.le_trans hl2 (by decide)⟩)
          replace hs := Step.tail (hs.perm perm_o4)
          have hobt : ∃ R, RB ++ [⟨r1.v, r1.x.length, u8s r1.x, r1.Lv⟩, ⟨r2.v, r2.x.length, u8s r2.x, r2.Lv⟩] = R := ⟨_, rfl⟩
          obtain ⟨RB2, hRB2⟩ := hobt
          have e3 : RB2.flatMap (·.L) = RB.flatMap (·.L) ++ (r1.Lv ++ r2.Lv) := by rw [← hRB2]; exact flat2
          have hnB2 : RB2.length ≤ 17 * i + 2 * (k + 1) := by rw [← hRB2, List.length_append]; simp; omega
          rw [hRB2] at hFB2
          rw [← e3] at hs
          refine CW.reg <| WL.val rfl (run_move) <| WL.val rfl (run_add (c := ((k + 1 : Nat) : Int)) rfl rfl (by omega) (by omega)) <| WL.val rfl (run_assign) <| WL.nil ?_
          refine (show _ ∧ _ from ⟨rfl, _, ?_, k + 1, v101, RB2, Lv101, ⟨by omega, by omega⟩, rfl, hFB2, hnB2, hs, rfl, rfl, rfl, rfl, rfl, rfl, y1.symm, y2.symm, rfl, trivial⟩)
          omega
        · cases h
      clear hs hFB hnB
      rintro f w ⟨uB, RB, Bb, hFB, hnB, hs, hf⟩
      have hobt := hf.chain
      obtain ⟨g, rfl⟩ := hobt
      refine CW.seq <| CW.reg <| WL.val rfl (run_move) ?_
      refine WL.enter rfl (run_call en15 rfl rfl) (list_at hs hR2 (fun p hp => by simp [hp]) sn2 t2 hg) ?_
      rintro e w ⟨un1, Bn1, rfl, hun1, hq⟩
      refine ⟨_, rfl, ?_⟩
      replace hs := hq
      refine WL.val rfl (run_move) <| WL.val rfl (run_extract rfl rfl) <| WL.val rfl (run_extract rfl rfl) <| WL.val rfl (run_assign) <| WL.val rfl (run_assign) <| WL.nil <| CW.seq <| CW.reg <| WL.val rfl (run_move) ?_
      refine WL.enter rfl (run_call en15 rfl rfl) (list_at hs hR2 (fun p hp => by simp [hp]) sn2 t2 hg) ?_
      rintro e w ⟨un2, Bn2, rfl, hun2, hq⟩
      refine ⟨_, rfl, ?_⟩
      replace hs := hq
      refine WL.val rfl (run_move) <| WL.val rfl (run_extract rfl rfl) <| WL.val rfl (run_extract rfl rfl) <| WL.val rfl (run_assign) <| WL.val rfl (run_assign) <| WL.nil ?_
      rw [← hHN] at hs
      refine CW.seq <| CW.reg <| WL.val rfl (run_move) <| WL.val rfl (run_move) <| WL.val rfl (run_move) ?_
      refine WL.buildSlice (cs := [un1, un2]) (vs := [(0, un1), (1, un2)]) Tryd.underlying43 ty51 rfl (by decide) rfl (filledA2 hun1.one hun2.one) rfl hs (fun b115 w hs => ?_)
      refine WL.append Tryd.underlying43 Tryd.underlying43 ty51 rfl (by decide) rfl rfl (hFN.own) (hs.perm perm_o5) ((Sl.mk rfl hs.a0 : Sl w 1 (.slice (some ⟨b115, 0, none⟩) 2 2) 2 [un1, un2])) (cells1_2 hun1.one hun2.one) (by first | omega | (simp only [List.length_append, List.length_cons, List.length_nil]; omega)) rfl (fun v116 Lv116 w hv116 hs => ?_)
      refine WL.val rfl (run_assign) <| WL.nil ?_
      have hFN2 := hFN.add (rs := [⟨un1, _, _, Bn1⟩, ⟨un2, _, _, Bn2⟩]) hv116 rfl rfl (rows_2 ⟨hun1, Nat.le_trans hLn (by decide)⟩ ⟨hun2, Nat.le_trans hLn (by decide)⟩)
      replace hs := Step.tail (hs.perm perm_o6)
      have hobt : ∃ R, RN ++ [⟨un1, (s2.list []).1.length, strs (s2.list []).1, Bn1⟩, ⟨un2, (s2.list []).1.length, strs (s2.list []).1, Bn2⟩] = R := ⟨_, rfl⟩
      obtain ⟨RN2, hRN2⟩ := hobt
      have e4 : RN2.flatMap (·.L) = RN.flatMap (·.L) ++ (Bn1 ++ Bn2) := by rw [← hRN2]; exact flat2
      have hnN2 : RN2.length ≤ 2 * i + 2 := by rw [← hRN2, List.length_append]; simp; omega
      replace hFN2 : Fam 9 51 1 v116 RN2 Lv116 := by rw [← hRN2]; exact hFN2
      rw [← e4] at hs
      refine CW.seq <| CW.reg <| WL.val rfl (run_move) ?_
      refine WL.enter rfl (run_call en9 rfl rfl) (open_at hs hR2 sn2 t2 hg (p := [97]) (by decide)) ?_
      rintro e w ⟨s3, L3, oh, oc, ho3, rfl, hR3, sn3, t3, hq⟩
      refine ⟨_, rfl, ?_⟩
      replace hs := hq
      refine WL.val rfl (run_move) <| WL.val rfl (run_extract rfl rfl) <| WL.val rfl (run_extract rfl rfl) <| WL.val rfl (run_assign) <| WL.val rfl (run_assign) <| WL.nil ?_
      clear hm1 hm2
      subst hHI
      by_cases hoc : oc = 0
      · refine CW.seq <| CW.reg <| WL.val rfl (run_move) <| WL.val rfl (run_bT (run_eql rfl rfl) (by exact hoc)) <| WL.nil ?_
        refine CW.cond rfl (fun h => ?_) (fun h => ?_)
        · refine CW.seq <| CW.reg <| WL.val rfl (run_move) <| WL.val rfl (run_move) ?_
          refine WL.enter rfl (run_call en16 rfl rfl) (read_at2 hs hR3 sn3 t3 (by omega)) ?_
          rintro e w ⟨vr, Lr, L4, s4, xr, cr, rfl, hur, hxr, hR4, sn4, t4, hq⟩
          refine ⟨_, rfl, ?_⟩
          replace hs := hq
          refine WL.val rfl (run_move) <| WL.val rfl (run_extract rfl rfl) <| WL.val rfl (run_extract rfl rfl) <| WL.val rfl (run_assign) <| WL.val rfl (run_assign) <| WL.nil <| CW.seq <| CW.reg <| WL.val rfl (run_move) <| WL.val rfl (run_move) ?_
          refine WL.buildSlice (cs := [vr]) (vs := [(0, vr)]) Tryd.underlying42 ty34 rfl (by decide) rfl (filled_s _ _ (cells_one hur.one)) rfl hs (fun b132 w hs => ?_)
          refine WL.append Tryd.underlying42 Tryd.underlying42 ty34 rfl (by decide) rfl rfl (hFB.own) (hs.perm perm_o7) ((Sl.mk rfl hs.a0 : Sl w 1 (.slice (some ⟨b132, 0, none⟩) 1 1) 1 [vr])) (cells1_1 hur.one) (by first | omega | (simp only [List.length_append, List.length_cons, List.length_nil]; omega)) rfl (fun v133 Lv133 w hv133 hs => ?_)
          refine WL.val rfl (run_assign) <| WL.nil ?_
          have hFB3 := hFB.add (rs := [⟨vr, xr.length, u8s xr, Lr⟩]) hv133 rfl rfl (rows_1 ⟨hur, Nat.le_trans hxr (by decide)⟩)
          replace hs := Step.tail (hs.perm perm_o8)
          have hobt : ∃ R, RB ++ [⟨vr, xr.length, u8s xr, Lr⟩] = R := ⟨_, rfl⟩
          obtain ⟨RB3, hRB3⟩ := hobt
          have e5 : RB3.flatMap (·.L) = RB.flatMap (·.L) ++ Lr := by rw [← hRB3]; exact flat1
          have hnB3 : RB3.length ≤ 17 * i + 17 := by rw [← hRB3, List.length_append]; simp; omega
          rw [hRB3] at hFB3
          rw [← e5] at hs
          refine CW.reg <| WL.val rfl (run_move) <| WL.val rfl (run_move) ?_
          refine WL.enter rfl (run_call en10 rfl rfl) (close_at hs hR4 sn4 t4) ?_
          rintro e w ⟨L5, s5, c5, rfl, hR5, sn5, t5, hq⟩
          refine ⟨_, rfl, ?_⟩
          replace hs := hq
          refine WL.nil <| CW.reg <| WL.val rfl (run_move) <| WL.val rfl (run_add (c := ((i + 1 : Nat) : Int)) rfl rfl (by omega) (by omega)) <| WL.val rfl (run_assign) <| WL.nil ?_
          refine (show _ ∧ _ from ⟨rfl, _, ?_, i + 1, s5, L5, v133, RB3, Lv133, v116, RN2, Lv116, v72, RI2, Lv72, ⟨by omega, by omega⟩, rfl, hR5, sn5, t5, hFB3, hFN2, hFI2, ⟨by omega, by omega, by omega⟩, hs, hc4.symm, rfl, rfl, rfl, rfl, rfl, trivial⟩)
          omega
        · cases h
      · refine CW.seq <| CW.reg <| WL.val rfl (run_move) <| WL.val rfl (run_bF (run_eql rfl rfl) (by exact hoc)) <| WL.nil ?_
        refine CW.cond rfl (fun h => ?_) (fun h => ?_)
        · cases h
        refine CW.skip <| CW.reg <| WL.val rfl (run_move) <| WL.val rfl (run_add (c := ((i + 1 : Nat) : Int)) rfl rfl (by omega) (by omega)) <| WL.val rfl (run_assign) <| WL.nil ?_
        refine (show _ ∧ _ from ⟨rfl, _, ?_, i + 1, s3, L3, uB, RB, Bb, v116, RN2, Lv116, v72, RI2, Lv72, ⟨by omega, by omega⟩, rfl, hR3, sn3, t3, hFB, hFN2, hFI2, ⟨by omega, by omega, by omega⟩, hs, hc4.symm, rfl, rfl, rfl, rfl, rfl, trivial⟩)
        omega
    · cases h
  clear hs hR0 sn0 t0
  rintro f w ⟨s, L, uB, RB, Bb, uN, RN, Bn, uI, RI, Bi, hR, sn, t, hFB, hFN, hFI, ⟨hnB, hnN, hnI⟩, hs, hf⟩
  have hobt := hf.chain
  obtain ⟨g, rfl⟩ := hobt
  have hXx := itemsL_x sn.ok
  have hXn := itemsL_n sn
  have hLn := list_n sn
  refine CW.seq <| CW.reg <| WL.val rfl (run_move) ?_
  refine WL.enter rfl (run_call en14 rfl rfl) (items_at hs hR (fun p hp => by simp [hp]) sn t hg) ?_
  rintro e w ⟨uw, Bw, Rw, rfl, hAw, huw, hOw, hq⟩
  refine ⟨_, rfl, ?_⟩
  replace hs := hq
  refine WL.val rfl (run_assign) <| WL.nil <| CW.seq <| CW.reg <| WL.val rfl (run_move) ?_
  refine WL.enter rfl (run_call en15 rfl rfl) (list_at hs hR (fun p hp => by simp [hp]) sn t hg) ?_
  rintro e w ⟨ut, Bt, rfl, hut, hq⟩
  refine ⟨_, rfl, ?_⟩
  replace hs := hq
  refine WL.val rfl (run_move) <| WL.val rfl (run_extract rfl rfl) <| WL.val rfl (run_extract rfl rfl) <| WL.val rfl (run_assign) <| WL.val rfl (run_assign) <| WL.nil <| CW.seq <| CW.reg <| WL.val rfl (run_move) ?_
  refine WL.enter rfl (run_call en14 rfl rfl) (items_at hs hR (fun p hp => by simp [hp]) sn t hg) ?_
  rintro e w ⟨ul, Bl, Rl, rfl, hAl, hul, hOl, hq⟩
  refine ⟨_, rfl, ?_⟩
  replace hs := hq
  refine WL.val rfl (run_assign) <| WL.nil <| CW.seq <| CW.seq <| CW.reg <| WL.val rfl (run_move) ?_
  refine WL.enter rfl (run_call en17 rfl rfl) (grownB_at hFB (hs.perm perm_o9) hnB) ?_
  rintro e w ⟨rfl, hq⟩
  refine ⟨_, rfl, ?_⟩
  replace hs := hq
  refine WL.val rfl (run_not rfl) <| WL.val rfl (run_move) ?_
  refine WL.yes rfl rfl rfl ?_; refine WL.val rfl (run_move) ?_
  refine WL.yes rfl rfl rfl ?_
  refine WL.enter rfl (run_call en18 rfl rfl) (grownN_at hFN (hs.perm perm_o9) hnN) ?_
  rintro e w ⟨rfl, hq⟩
  refine ⟨_, rfl, ?_⟩
  replace hs := hq
  refine WL.yes rfl rfl rfl ?_; (first | refine WL.val rfl (run_notB rfl) ?_ | refine WL.val rfl (run_not rfl) ?_)
  refine WL.val rfl (run_pickF rfl) <| WL.val rfl (run_move) ?_
  refine WL.yes rfl rfl rfl ?_; refine WL.val rfl (run_move) ?_
  refine WL.yes rfl rfl rfl ?_
  refine WL.enter rfl (run_call en19 rfl rfl) (grownI_at hFI (hs.perm perm_o10) hnI) ?_
  rintro e w ⟨rfl, hq⟩
  refine ⟨_, rfl, ?_⟩
  replace hs := hq
  refine WL.yes rfl rfl rfl ?_; (first | refine WL.val rfl (run_notB rfl) ?_ | refine WL.val rfl (run_not rfl) ?_)
  refine WL.val rfl (run_pickF rfl) <| WL.nil ?_
  refine CW.cond rfl (fun h => ?_) (fun h => ?_)
  · cases h
  repeat (first | refine CW.seq ?_ | refine CW.skip ?_)
  refine CW.reg <| WL.val rfl (run_move) ?_
  refine WL.enter rfl (run_call en15 rfl rfl) (list_at hs hR (fun p hp => by simp [hp]) sn t hg) ?_
  rintro e w ⟨ua, Ba, rfl, hua, hq⟩
  refine ⟨_, rfl, ?_⟩
  replace hs := hq
  refine WL.val rfl (run_move) <| WL.val rfl (run_extract rfl rfl) <| WL.val rfl (run_extract rfl rfl) <| WL.val rfl (run_assign) <| WL.val rfl (run_assign) <| WL.nil <| CW.seq <| CW.reg <| WL.val rfl (run_move) ?_
  refine WL.enter rfl (run_call en14 rfl rfl) (items_at hs hR (fun p hp => by simp [hp]) sn t hg) ?_
  rintro e w ⟨uz, Bz, Rz, rfl, hAz, huz, hOz, hq⟩
  refine ⟨_, rfl, ?_⟩
  replace hs := hq
  refine WL.val rfl (run_move) ?_
  refine WL.enter rfl (run_call en20 rfl rfl) (same_at hs hXx hXn hAz hAw huz huw hOz hOw (fun p hp => List.mem_append_left _ hp) (fun p hp => List.mem_append_right _ (List.mem_append_right _ (List.mem_append_right _ (List.mem_append_right _ (List.mem_append_left _ hp)))))) ?_
  rintro e w ⟨rfl, hq⟩
  refine ⟨_, rfl, ?_⟩
  replace hs := hs.callE hq
  refine WL.val rfl (run_move) ?_
  refine WL.yes rfl rfl rfl ?_; refine WL.val rfl (run_move) ?_
  refine WL.yes rfl rfl rfl ?_; refine WL.val rfl (run_move) ?_
  refine WL.yes rfl rfl rfl ?_
  refine WL.enter rfl (run_call en20 rfl rfl) (same_at hs hXx hXn hAl hAw hul huw hOl hOw (fun p hp => List.mem_append_right _ (List.mem_append_right _ (List.mem_append_left _ hp))) (fun p hp => List.mem_append_right _ (List.mem_append_right _ (List.mem_append_right _ (List.mem_append_right _ (List.mem_append_left _ hp)))))) ?_
  rintro e w ⟨rfl, hq⟩
  refine ⟨_, rfl, ?_⟩
  replace hs := hs.callE hq
  refine WL.val rfl (run_pickT rfl) <| WL.val rfl (run_move) ?_
  refine WL.yes rfl rfl rfl ?_; refine WL.val rfl (run_move) ?_
  refine WL.yes rfl rfl rfl ?_; refine WL.val rfl (run_move) ?_
  refine WL.yes rfl rfl rfl ?_
  refine WL.enter rfl (run_call en21 rfl rfl) (sameTexts_spec _ (hut.slW fun p hp => hs.has p (by simp [hp])) (hua.slW fun p hp => hs.has p (by simp [hp])) (Nat.le_trans hLn (by decide))) ?_
  rintro e w ⟨rfl, hq⟩
  refine ⟨_, rfl, ?_⟩
  replace hs := hs.callE hq
  refine WL.val rfl (run_pickT rfl) <| WL.val rfl (run_assign) <| WL.nil ?_
  refine CW.ret ?_
  refine fin_ret1 rfl ?_
  exact ⟨rfl, hs.clear⟩
end Go.Gx
