/- Is a name of a part: the document's answer. -/
import Derived.Test.YtnoamfcnamlbhaaDoorRGoes
import Derived.Test.YtnoamfcnamlbhaaDoorMatch
namespace Go.Gx
open Go.Proofs Go.RowKit
set_option linter.unusedVariables false
set_option linter.unusedSimpArgs false
set_option maxRecDepth 100000

theorem flat_rep (k : Nat) (z : Value) : (List.replicate k [z]).flatten = List.replicate k z := by
  induction k with
  | zero => rfl
  | succ k ih => rw [List.replicate_succ, List.flatten_cons, ih]; rfl
/-- One cell more of a row is filled. -/
theorem fill_set {d : List Value} {n i : Nat} {z v : Value} (hd : d.length = i) (hi : i < n) : (d ++ List.replicate (n - i) z).set (0 + i * 1) v = (d ++ [v]) ++ List.replicate (n - (i + 1)) z := by
  rw [Nat.zero_add, Nat.mul_one, List.set_append_right _ _ (by omega), hd, Nat.sub_self, show n - i = (n - (i + 1)) + 1 by omega, List.replicate_succ, List.set_cons_zero, List.append_assoc]
  rfl
theorem fill_len {d : List Value} {n i : Nat} {z : Value} (hd : d.length = i) (hi : i ≤ n) : (d ++ List.replicate (n - i) z).length = n := by
  rw [List.length_append, List.length_replicate, hd]; omega
theorem take_bools {l : List Bool} {i : Nat} (hi : i < l.length) : bools (l.take (i + 1)) = bools (l.take i) ++ [.bool (l.getD i false)] := by
  have e : l.getD i false = l[i] := by simp [List.getD_eq_getElem?_getD, List.getElem?_eq_getElem hi]
  rw [List.take_succ_eq_append_getElem hi, e, bools, List.map_append]
  rfl
def slB (n b : Nat) : Value := Value.slice (some ⟨b, 0, none⟩) n n

set_option maxHeartbeats 4000000 in
theorem refOf_spec {p q : List UInt8} (w0 : World) (hp : p.length < 4294967281) (hq : q.length < 4294967281) : Calls Tryd.prog 42 #[str p, str q] w0 (Ret0 (Value.bool (ofPart p q)) w0) := by
  have hpl := piecesL_len p.length p (Nat.le_refl _)
  have hql := piecesL_len q.length q (Nat.le_refl _)
  have hobt : ∃ x, piecesL p = x := ⟨_, rfl⟩
  obtain ⟨x, hx⟩ := hobt
  have hobt : ∃ y, piecesL q = y := ⟨_, rfl⟩
  obtain ⟨y, hy⟩ := hobt
  have eof : ofPart p q = goesM (fun x => decide (x = [42])) pieceEq x y := by rw [ofPart, hx, hy]
  rw [eof]
  have c1 := fun w => refPieces_spec (s := p) w hp
  have c2 := fun w => refPieces_spec (s := q) w hq
  simp only [hx] at c1 hpl
  simp only [hy] at c2 hql
  refine calls (n := 74) Tryd.func42 rfl rfl rfl ?_
  repeat (first | refine CW.seq ?_ | refine CW.block ?_ | refine CW.skip ?_ | refine CW.label ?_ | refine CW.exit ?_ | refine CW.condT rfl ?_ | refine CW.condF rfl ?_)
  refine CW.reg ?_
  refine WL.val rfl (run_assign) ?_
  refine WL.nil ?_
  repeat (first | refine CW.seq ?_ | refine CW.block ?_ | refine CW.skip ?_ | refine CW.label ?_ | refine CW.exit ?_ | refine CW.condT rfl ?_ | refine CW.condF rfl ?_)
  refine CW.reg ?_
  refine WL.val rfl (run_move) ?_
  refine WL.enter rfl (run_call en57 rfl rfl) (c1 _) ?_
  rintro e w ⟨u, Lu, rfl, hu, hqs⟩
  refine ⟨_, rfl, ?_⟩
  have hs := hqs
  refine WL.val rfl (run_assign) ?_
  refine WL.nil ?_
  repeat (first | refine CW.seq ?_ | refine CW.block ?_ | refine CW.skip ?_ | refine CW.label ?_ | refine CW.exit ?_ | refine CW.condT rfl ?_ | refine CW.condF rfl ?_)
  refine CW.reg ?_
  refine WL.val rfl (run_move) ?_
  refine WL.enter rfl (run_call en57 rfl rfl) (c2 _) ?_
  rintro e w ⟨u2, Lv, rfl, hv, hq2⟩
  refine ⟨_, rfl, ?_⟩
  have hxx := cellsOf hu hs
  obtain ⟨a, c, hq3, hcl, hcx⟩ := hxx
  subst hq3
  have hyy := cellsOf hv hq2
  obtain ⟨a2, c2, hq4, hcl2, hcy⟩ := hyy
  subst hq4
  have hcx2 : Texts _ _ _ := Sl0.keep hcx hq2
  replace hcy : Texts _ _ _ := hcy
  replace hs := hs.dropR (L1 := [])
  replace hs := hs.call0 (hq2.dropR (L1 := []))
  refine WL.val rfl (run_assign) ?_
  refine WL.nil ?_
  have hobt : ∃ A : List UInt8 → Bool, A = fun x => decide (x = [42]) := ⟨_, rfl⟩
  obtain ⟨A, hA⟩ := hobt
  rw [← hA]
  have hs00 := hs
  replace hs : Step [] [] w w := Step.refl w
  have w1eq : ∃ w1, w1 = w := ⟨w, rfl⟩
  obtain ⟨w1, hw1⟩ := w1eq
  rw [← hw1] at hs00 hcx2 hcy
  replace hs : Step [] [] w1 w := by rw [hw1]; exact hs
  clear hw1 hqs hq2
  repeat (first | refine CW.seq ?_ | refine CW.block ?_ | refine CW.skip ?_ | refine CW.label ?_ | refine CW.exit ?_ | refine CW.condT rfl ?_ | refine CW.condF rfl ?_)
  refine CW.reg ?_
  refine WL.val rfl (run_move) ?_
  refine WL.val rfl (run_lenSl Tryd.underlying34 rfl) ?_
  refine WL.makeSlice (k := x.length) Tryd.underlying55 ty4 rfl (by omega) (by omega) rfl rfl rfl hs (fun b17 w hs => ?_)
  refine WL.val rfl (run_assign) ?_
  refine WL.nil ?_
  rw [flat_rep] at hs
  repeat (first | refine CW.seq ?_ | refine CW.block ?_ | refine CW.skip ?_ | refine CW.label ?_ | refine CW.exit ?_ | refine CW.condT rfl ?_ | refine CW.condF rfl ?_)
  refine CW.reg ?_
  refine WL.val rfl (run_move) ?_
  refine WL.val rfl (run_lenSl Tryd.underlying34 rfl) ?_
  refine WL.makeSlice (k := x.length) Tryd.underlying56 ty55 rfl (by omega) (by omega) rfl rfl rfl hs (fun b20 w hs => ?_)
  refine WL.val rfl (run_assign) ?_
  refine WL.nil ?_
  rw [flat_rep] at hs
  repeat (first | refine CW.seq ?_ | refine CW.block ?_ | refine CW.skip ?_ | refine CW.label ?_ | refine CW.exit ?_ | refine CW.condT rfl ?_ | refine CW.condF rfl ?_)
  refine CW.reg ?_
  refine WL.val rfl (run_assign) ?_
  refine WL.nil ?_
  repeat (first | refine CW.seq ?_ | refine CW.block ?_ | refine CW.skip ?_ | refine CW.label ?_ | refine CW.exit ?_ | refine CW.condT rfl ?_ | refine CW.condF rfl ?_)
  refine CW.loop (fun m f w' => ∃ (i : Nat) (bs : List Nat) (R : List (Nat × Obj)), i ≤ x.length ∧ m = x.length - i ∧ bs.length = i ∧ (∀ j b, bs[j]? = some b → (b, blk 4 (bools ((x.map fun p => y.map (pieceEq p)).getD j []))) ∈ R) ∧ Step [] ((b20, blk 55 (bs.map (slB y.length) ++ List.replicate (x.length - i) (Value.slice none 0 0))) :: (b17, blk 4 (bools ((x.map A).take i) ++ List.replicate (x.length - i) (Value.bool false))) :: R) w1 w' ∧ Holds f [(5, .slice a x.length c), (6, .slice a2 y.length c2), (7, .slice (some ⟨b17, 0, none⟩) x.length x.length), (8, .slice (some ⟨b20, 0, none⟩) x.length x.length), (9, .int .i64 i)]) (m := x.length) ?_ ?_
  · exact ⟨0, [], [], Nat.zero_le _, rfl, rfl, fun j b h => by simp at h, hs, rfl, rfl, rfl, rfl, rfl, trivial⟩
  · clear hs
    rintro m f w ⟨i, bs, R, hi, rfl, hbs, hR, hs, hf⟩
    have hobt := hf.chain
    obtain ⟨g, rfl⟩ := hobt
    have hl1 : (bools ((x.map A).take i)).length = i := by simp [bools]; omega
    have hl2 : (bs.map (slB y.length)).length = i := by rw [List.length_map, hbs]
    by_cases hlt : i < x.length
    · have hobt := Texts.get hcx2 hlt
      obtain ⟨bx, p', rfl, hpi, hpm, hcp⟩ := hobt
      have hf1 := fill_len (z := Value.bool false) hl1 hi
      have hf2 := fill_len (z := Value.slice none 0 0) hl2 hi
      have hset1 := fill_set (z := Value.bool false) (v := Value.bool (A p')) hl1 hlt
      have hAi : (x.map A).getD i false = A p' := by simp [List.getD_eq_getElem?_getD, hpi]
      rw [← hAi, ← take_bools (by simpa using hlt), hAi] at hset1
      repeat (first | refine CW.seq ?_ | refine CW.block ?_ | refine CW.skip ?_ | refine CW.label ?_ | refine CW.exit ?_ | refine CW.condT rfl ?_ | refine CW.condF rfl ?_)
      refine CW.reg ?_
      refine WL.val rfl (run_move) ?_
      refine WL.val rfl (run_move) ?_
      refine WL.val rfl (run_lenSl Tryd.underlying34 rfl) ?_
      refine WL.val rfl (run_bT (run_lss rfl rfl) (by omega)) ?_
      refine WL.nil ?_
      repeat (first | refine CW.seq ?_ | refine CW.block ?_ | refine CW.skip ?_ | refine CW.label ?_ | refine CW.exit ?_ | refine CW.condT rfl ?_ | refine CW.condF rfl ?_)
      refine CW.reg ?_
      refine WL.val rfl (run_move) ?_
      refine WL.val rfl (run_move) ?_
      refine WL.val rfl (run_move) ?_
      refine WL.val rfl (run_move) ?_
      first | refine WL.val rfl (run_ixSlN Tryd.underlying34 ty9 rfl rfl (by omega)) ?_ | refine WL.val rfl (run_ixSl Tryd.underlying34 ty9 rfl rfl (by omega)) ?_
      refine WL.val rfl (run_load1 ty9 rfl ((hcp hs))) ?_
      refine WL.val rfl (run_strEq rfl rfl) ?_
      first | refine WL.val rfl (run_ixSlN Tryd.underlying55 ty4 rfl rfl (by omega)) ?_ | refine WL.val rfl (run_ixSl Tryd.underlying55 ty4 rfl rfl (by omega)) ?_
      first | refine WL.store1 ty4 rfl rfl (rfl) hs (by first | (simp; done) | omega | (simp only [List.length_append, List.length_replicate, List.length_cons, List.length_nil, List.length_set]; omega) | (simp [Ent.cells, u8s]; done) | exact Nat.le_of_ble_eq_true rfl) (fun w hs => ?_) | refine WL.store1_1 ty4 rfl rfl (rfl) hs (by first | (simp; done) | omega | (simp only [List.length_append, List.length_replicate, List.length_cons, List.length_nil, List.length_set]; omega) | (simp [Ent.cells, u8s]; done) | exact Nat.le_of_ble_eq_true rfl) (fun w hs => ?_) | refine WL.store1_2 ty4 rfl rfl (rfl) hs (by first | (simp; done) | omega | (simp only [List.length_append, List.length_replicate, List.length_cons, List.length_nil, List.length_set]; omega) | (simp [Ent.cells, u8s]; done) | exact Nat.le_of_ble_eq_true rfl) (fun w hs => ?_) | refine WL.store1_3 ty4 rfl rfl (rfl) hs (by first | (simp; done) | omega | (simp only [List.length_append, List.length_replicate, List.length_cons, List.length_nil, List.length_set]; omega) | (simp [Ent.cells, u8s]; done) | exact Nat.le_of_ble_eq_true rfl) (fun w hs => ?_) | refine WL.store1_4 ty4 rfl rfl (rfl) hs (by first | (simp; done) | omega | (simp only [List.length_append, List.length_replicate, List.length_cons, List.length_nil, List.length_set]; omega) | (simp [Ent.cells, u8s]; done) | exact Nat.le_of_ble_eq_true rfl) (fun w hs => ?_) | refine WL.store1 ty4 rfl rfl (rfl) hs (by first | (simp; done) | omega | (simp only [List.length_append, List.length_replicate, List.length_cons, List.length_nil, List.length_set]; omega) | (simp [Ent.cells, u8s]; done) | exact Nat.le_of_ble_eq_true rfl) (fun w hs => ?_)
      refine WL.nil ?_
      replace hs : Step [] ((b20, blk 55 (bs.map (slB y.length) ++ List.replicate (x.length - i) (Value.slice none 0 0))) :: (b17, blk 4 ((bools ((x.map A).take i) ++ List.replicate (x.length - i) (Value.bool false)).set (0 + i * 1) (Value.bool (decide (p' = [42]))))) :: R) w1 w := hs
      rw [← show A p' = decide (p' = [42]) by rw [hA]] at hs
      rw [hset1] at hs
      repeat (first | refine CW.seq ?_ | refine CW.block ?_ | refine CW.skip ?_ | refine CW.label ?_ | refine CW.exit ?_ | refine CW.condT rfl ?_ | refine CW.condF rfl ?_)
      refine CW.reg ?_
      refine WL.val rfl (run_move) ?_
      refine WL.val rfl (run_move) ?_
      refine WL.val rfl (run_move) ?_
      refine WL.val rfl (run_lenSl Tryd.underlying34 rfl) ?_
      refine WL.makeSlice (k := y.length) Tryd.underlying55 ty4 rfl (by omega) (by omega) rfl rfl rfl hs (fun b39 w hs => ?_)
      first | refine WL.val rfl (run_ixSlN Tryd.underlying56 ty55 rfl rfl (by omega)) ?_ | refine WL.val rfl (run_ixSl Tryd.underlying56 ty55 rfl rfl (by omega)) ?_
      first | refine WL.store1 ty55 rfl rfl (rfl) hs (by first | (simp; done) | omega | (simp only [List.length_append, List.length_replicate, List.length_cons, List.length_nil, List.length_set]; omega) | (simp [Ent.cells, u8s]; done) | exact Nat.le_of_ble_eq_true rfl) (fun w hs => ?_) | refine WL.store1_1 ty55 rfl rfl (rfl) hs (by first | (simp; done) | omega | (simp only [List.length_append, List.length_replicate, List.length_cons, List.length_nil, List.length_set]; omega) | (simp [Ent.cells, u8s]; done) | exact Nat.le_of_ble_eq_true rfl) (fun w hs => ?_) | refine WL.store1_2 ty55 rfl rfl (rfl) hs (by first | (simp; done) | omega | (simp only [List.length_append, List.length_replicate, List.length_cons, List.length_nil, List.length_set]; omega) | (simp [Ent.cells, u8s]; done) | exact Nat.le_of_ble_eq_true rfl) (fun w hs => ?_) | refine WL.store1_3 ty55 rfl rfl (rfl) hs (by first | (simp; done) | omega | (simp only [List.length_append, List.length_replicate, List.length_cons, List.length_nil, List.length_set]; omega) | (simp [Ent.cells, u8s]; done) | exact Nat.le_of_ble_eq_true rfl) (fun w hs => ?_) | refine WL.store1_4 ty55 rfl rfl (rfl) hs (by first | (simp; done) | omega | (simp only [List.length_append, List.length_replicate, List.length_cons, List.length_nil, List.length_set]; omega) | (simp [Ent.cells, u8s]; done) | exact Nat.le_of_ble_eq_true rfl) (fun w hs => ?_) | refine WL.store1 ty55 rfl rfl (rfl) hs (by first | (simp; done) | omega | (simp only [List.length_append, List.length_replicate, List.length_cons, List.length_nil, List.length_set]; omega) | (simp [Ent.cells, u8s]; done) | exact Nat.le_of_ble_eq_true rfl) (fun w hs => ?_)
      refine WL.nil ?_
      rw [flat_rep] at hs
      have hset2 := fill_set (z := Value.slice none 0 0) (v := slB y.length b39) hl2 hlt
      have hbm : bs.map (slB y.length) ++ [slB y.length b39] = (bs ++ [b39]).map (slB y.length) := by simp
      rw [hbm] at hset2
      replace hs : Step [] ((b39, blk 4 (List.replicate y.length (Value.bool false))) :: (b20, blk 55 ((bs.map (slB y.length) ++ List.replicate (x.length - i) (Value.slice none 0 0)).set (0 + i * 1) (slB y.length b39))) :: (b17, blk 4 (bools ((x.map A).take (i + 1)) ++ List.replicate (x.length - (i + 1)) (Value.bool false))) :: R) w1 w := hs
      rw [hset2] at hs
      repeat (first | refine CW.seq ?_ | refine CW.block ?_ | refine CW.skip ?_ | refine CW.label ?_ | refine CW.exit ?_ | refine CW.condT rfl ?_ | refine CW.condF rfl ?_)
      refine CW.reg ?_
      refine WL.val rfl (run_assign) ?_
      refine WL.nil ?_
      have hobt : ∃ row, y.map (pieceEq p') = row := ⟨_, rfl⟩
      obtain ⟨row, hrow⟩ := hobt
      have hrl : row.length = y.length := by rw [← hrow, List.length_map]
      have hobt : ∃ C1, (bs ++ [b39]).map (slB y.length) ++ List.replicate (x.length - (i + 1)) (Value.slice none 0 0) = C1 := ⟨_, rfl⟩
      obtain ⟨C1, hC1⟩ := hobt
      have hobt : ∃ C2, bools ((x.map A).take (i + 1)) ++ List.replicate (x.length - (i + 1)) (Value.bool false) = C2 := ⟨_, rfl⟩
      obtain ⟨C2, hC2⟩ := hobt
      rw [hC1, hC2] at hs
      have hC1i : C1[0 + i * 1]? = some (slB y.length b39) := by
        rw [← hC1, Nat.zero_add, Nat.mul_one, List.getElem?_append_left (by simp; omega)]
        simp [← hbs]
      repeat (first | refine CW.seq ?_ | refine CW.block ?_ | refine CW.skip ?_ | refine CW.label ?_ | refine CW.exit ?_ | refine CW.condT rfl ?_ | refine CW.condF rfl ?_)
      refine CW.loop (fun m f w' => ∃ k, k ≤ y.length ∧ m = y.length - k ∧ Step [] ((b39, blk 4 (bools (row.take k) ++ List.replicate (y.length - k) (Value.bool false))) :: (b20, blk 55 C1) :: (b17, blk 4 C2) :: R) w1 w' ∧ Holds f [(5, .slice (some ⟨bx, 0, none⟩) x.length c), (6, .slice a2 y.length c2), (7, .slice (some ⟨b17, 0, none⟩) x.length x.length), (8, .slice (some ⟨b20, 0, none⟩) x.length x.length), (9, .int .i64 i), (10, .int .i64 k)]) (m := y.length) ?_ ?_
      · exact ⟨0, Nat.zero_le _, rfl, hs, rfl, rfl, rfl, rfl, rfl, rfl, trivial⟩
      · clear hs
        rintro m f w ⟨k, hk, rfl, hs, hf⟩
        have hobt := hf.chain
        obtain ⟨g, rfl⟩ := hobt
        by_cases hlk : k < y.length
        · have hobt := Texts.get hcy hlk
          obtain ⟨bq, q', rfl, hqk, hqm, hcq⟩ := hobt
          have hl3 : (bools (row.take k)).length = k := by simp [bools]; omega
          have hf3 := fill_len (z := Value.bool false) hl3 hk
          have hgk : row.getD k false = pieceEq p' q' := by rw [← hrow]; simp [List.getD_eq_getElem?_getD, hqk]
          have hset3 := fill_set (z := Value.bool false) (v := Value.bool (pieceEq p' q')) hl3 hlk
          rw [← hgk, ← take_bools (by omega), hgk] at hset3
          by_cases h1 : p' = [63]
          · have hpe : pieceEq p' q' = true := by rw [pieceEq, decide_eq_true h1]; rfl
            rw [hpe] at hset3
            repeat (first | refine CW.seq ?_ | refine CW.block ?_ | refine CW.skip ?_ | refine CW.label ?_ | refine CW.exit ?_ | refine CW.condT rfl ?_ | refine CW.condF rfl ?_)
            refine CW.reg ?_
            refine WL.val rfl (run_move) ?_
            refine WL.val rfl (run_move) ?_
            refine WL.val rfl (run_lenSl Tryd.underlying34 rfl) ?_
            refine WL.val rfl (run_bT (run_lss rfl rfl) (by omega)) ?_
            refine WL.nil ?_
            repeat (first | refine CW.seq ?_ | refine CW.block ?_ | refine CW.skip ?_ | refine CW.label ?_ | refine CW.exit ?_ | refine CW.condT rfl ?_ | refine CW.condF rfl ?_)
            refine CW.any (A := fun w => Step [] ((b20, blk 55 C1) :: (b17, blk 4 C2) :: R) w1 w) (C := fun w => Step [] ((b20, blk 55 C1) :: (b17, blk 4 C2) :: R) w1 w) 1000000 23 mixedP rfl ?_
            replace hs := hs.drew
            refine AL.val 0 rfl (by kernel_rfl) rfl (fun w hs => run_move) ?_
            refine AL.val 1 rfl (by kernel_rfl) rfl (fun w hs => run_move) ?_
            first | refine AL.val 2 rfl (by kernel_rfl) rfl (fun w hs => run_ixSlN Tryd.underlying56 ty55 rfl rfl (by omega)) ?_ | refine AL.val 2 rfl (by kernel_rfl) rfl (fun w hs => run_ixSl Tryd.underlying56 ty55 rfl rfl (by omega)) ?_
            refine AL.val 3 rfl (by kernel_rfl) rfl (fun w hs => run_load1 ty55 rfl (hs.c0 hC1i)) ?_
            refine AL.val 4 rfl (by kernel_rfl) rfl (fun w hs => run_move) ?_
            refine AL.val 5 rfl (by kernel_rfl) rfl (fun w hs => run_move) ?_
            refine AL.val 6 rfl (by kernel_rfl) rfl (fun w hs => run_move) ?_
            first | refine AL.val 7 rfl (by kernel_rfl) rfl (fun w hs => run_ixSlN Tryd.underlying34 ty9 rfl rfl (by omega)) ?_ | refine AL.val 7 rfl (by kernel_rfl) rfl (fun w hs => run_ixSl Tryd.underlying34 ty9 rfl rfl (by omega)) ?_
            refine AL.val 8 rfl (by kernel_rfl) rfl (fun w hs => run_load1 ty9 rfl (hcp hs)) ?_
            refine AL.val 9 rfl (by kernel_rfl) rfl (fun w hs => run_bT (run_strEq rfl rfl) (by exact h1)) ?_
            refine AL.val 10 rfl (by kernel_rfl) rfl (fun w hs => run_move) ?_
            first | refine AL.valN 11 rfl (by kernel_rfl) rfl rfl rfl (.inl rfl) ?_ | refine AL.valN 11 rfl (by kernel_rfl) rfl rfl rfl (.inr rfl) ?_
            first | refine AL.valN 12 rfl (by kernel_rfl) rfl rfl rfl (.inl rfl) ?_ | refine AL.valN 12 rfl (by kernel_rfl) rfl rfl rfl (.inr rfl) ?_
            first | refine AL.valN 13 rfl (by kernel_rfl) rfl rfl rfl (.inl rfl) ?_ | refine AL.valN 13 rfl (by kernel_rfl) rfl rfl rfl (.inr rfl) ?_
            first | refine AL.valN 14 rfl (by kernel_rfl) rfl rfl rfl (.inl rfl) ?_ | refine AL.valN 14 rfl (by kernel_rfl) rfl rfl rfl (.inr rfl) ?_
            first | refine AL.valN 15 rfl (by kernel_rfl) rfl rfl rfl (.inl rfl) ?_ | refine AL.valN 15 rfl (by kernel_rfl) rfl rfl rfl (.inr rfl) ?_
            first | refine AL.valN 16 rfl (by kernel_rfl) rfl rfl rfl (.inl rfl) ?_ | refine AL.valN 16 rfl (by kernel_rfl) rfl rfl rfl (.inr rfl) ?_
            first | refine AL.valN 17 rfl (by kernel_rfl) rfl rfl rfl (.inl rfl) ?_ | refine AL.valN 17 rfl (by kernel_rfl) rfl rfl rfl (.inr rfl) ?_
            first | refine AL.valN 18 rfl (by kernel_rfl) rfl rfl rfl (.inl rfl) ?_ | refine AL.valN 18 rfl (by kernel_rfl) rfl rfl rfl (.inr rfl) ?_
            first | refine AL.valN 19 rfl (by kernel_rfl) rfl rfl rfl (.inl rfl) ?_ | refine AL.valN 19 rfl (by kernel_rfl) rfl rfl rfl (.inr rfl) ?_
            first | refine AL.val 20 rfl (by kernel_rfl) rfl (fun w hs => run_pickT rfl) ?_ | refine AL.val 20 rfl (by kernel_rfl) rfl (fun w hs => run_pickF rfl) ?_
            first | refine AL.val 21 rfl (by kernel_rfl) rfl (fun w hs => run_ixSlN Tryd.underlying55 ty4 rfl rfl (by omega)) ?_ | refine AL.val 21 rfl (by kernel_rfl) rfl (fun w hs => run_ixSl Tryd.underlying55 ty4 rfl rfl (by omega)) ?_
            refine AL.one 22 (by kernel_rfl) rfl (hs.tail) (hs.tail) ?_
            first | refine WL.store1 ty4 rfl rfl (rfl) hs (by first | (simp; done) | omega | (simp only [List.length_append, List.length_replicate, List.length_cons, List.length_nil, List.length_set]; omega) | (simp [Ent.cells, u8s]; done) | exact Nat.le_of_ble_eq_true rfl) (fun w hs => ?_) | refine WL.store1_1 ty4 rfl rfl (rfl) hs (by first | (simp; done) | omega | (simp only [List.length_append, List.length_replicate, List.length_cons, List.length_nil, List.length_set]; omega) | (simp [Ent.cells, u8s]; done) | exact Nat.le_of_ble_eq_true rfl) (fun w hs => ?_) | refine WL.store1_2 ty4 rfl rfl (rfl) hs (by first | (simp; done) | omega | (simp only [List.length_append, List.length_replicate, List.length_cons, List.length_nil, List.length_set]; omega) | (simp [Ent.cells, u8s]; done) | exact Nat.le_of_ble_eq_true rfl) (fun w hs => ?_) | refine WL.store1_3 ty4 rfl rfl (rfl) hs (by first | (simp; done) | omega | (simp only [List.length_append, List.length_replicate, List.length_cons, List.length_nil, List.length_set]; omega) | (simp [Ent.cells, u8s]; done) | exact Nat.le_of_ble_eq_true rfl) (fun w hs => ?_) | refine WL.store1_4 ty4 rfl rfl (rfl) hs (by first | (simp; done) | omega | (simp only [List.length_append, List.length_replicate, List.length_cons, List.length_nil, List.length_set]; omega) | (simp [Ent.cells, u8s]; done) | exact Nat.le_of_ble_eq_true rfl) (fun w hs => ?_) | refine WL.store1 ty4 rfl rfl (rfl) hs (by first | (simp; done) | omega | (simp only [List.length_append, List.length_replicate, List.length_cons, List.length_nil, List.length_set]; omega) | (simp [Ent.cells, u8s]; done) | exact Nat.le_of_ble_eq_true rfl) (fun w hs => ?_)
            refine WL.nil ?_
            refine ⟨rfl, ?_⟩
            refine AL.end (by kernel_rfl) (hs.tail) (hs.tail) ?_
            repeat (first | refine CW.seq ?_ | refine CW.block ?_ | refine CW.skip ?_ | refine CW.label ?_ | refine CW.exit ?_ | refine CW.condT rfl ?_ | refine CW.condF rfl ?_)
            refine CW.reg ?_
            refine WL.val rfl (run_move) ?_
            refine WL.val rfl (run_add (c := ((k + 1 : Nat) : Int)) rfl rfl (by omega) (by omega)) ?_
            refine WL.val rfl (run_assign) ?_
            refine WL.nil ?_
            repeat (first | refine CW.seq ?_ | refine CW.block ?_ | refine CW.skip ?_ | refine CW.label ?_ | refine CW.exit ?_)
            refine (show _ ∧ _ from ⟨rfl, _, ?_, k + 1, by omega, rfl, ?_, rfl, rfl, rfl, rfl, rfl, rfl, trivial⟩)
            · omega
            · exact (congrArg (fun cs => Step [] ((b39, blk 4 cs) :: (b20, blk 55 C1) :: (b17, blk 4 C2) :: R) w1 w) hset3).mp hs
          · have hpe : pieceEq p' q' = decide (p' = q') := by rw [pieceEq, decide_eq_false h1]; rfl
            rw [hpe] at hset3
            repeat (first | refine CW.seq ?_ | refine CW.block ?_ | refine CW.skip ?_ | refine CW.label ?_ | refine CW.exit ?_ | refine CW.condT rfl ?_ | refine CW.condF rfl ?_)
            refine CW.reg ?_
            refine WL.val rfl (run_move) ?_
            refine WL.val rfl (run_move) ?_
            refine WL.val rfl (run_lenSl Tryd.underlying34 rfl) ?_
            refine WL.val rfl (run_bT (run_lss rfl rfl) (by omega)) ?_
            refine WL.nil ?_
            repeat (first | refine CW.seq ?_ | refine CW.block ?_ | refine CW.skip ?_ | refine CW.label ?_ | refine CW.exit ?_ | refine CW.condT rfl ?_ | refine CW.condF rfl ?_)
            refine CW.any (A := fun w => Step [] ((b20, blk 55 C1) :: (b17, blk 4 C2) :: R) w1 w) (C := fun w => Step [] ((b20, blk 55 C1) :: (b17, blk 4 C2) :: R) w1 w) 1000000 23 mixedP rfl ?_
            replace hs := hs.drew
            refine AL.val 0 rfl (by kernel_rfl) rfl (fun w hs => run_move) ?_
            refine AL.val 1 rfl (by kernel_rfl) rfl (fun w hs => run_move) ?_
            first | refine AL.val 2 rfl (by kernel_rfl) rfl (fun w hs => run_ixSlN Tryd.underlying56 ty55 rfl rfl (by omega)) ?_ | refine AL.val 2 rfl (by kernel_rfl) rfl (fun w hs => run_ixSl Tryd.underlying56 ty55 rfl rfl (by omega)) ?_
            refine AL.val 3 rfl (by kernel_rfl) rfl (fun w hs => run_load1 ty55 rfl (hs.c0 hC1i)) ?_
            refine AL.val 4 rfl (by kernel_rfl) rfl (fun w hs => run_move) ?_
            refine AL.val 5 rfl (by kernel_rfl) rfl (fun w hs => run_move) ?_
            refine AL.val 6 rfl (by kernel_rfl) rfl (fun w hs => run_move) ?_
            first | refine AL.val 7 rfl (by kernel_rfl) rfl (fun w hs => run_ixSlN Tryd.underlying34 ty9 rfl rfl (by omega)) ?_ | refine AL.val 7 rfl (by kernel_rfl) rfl (fun w hs => run_ixSl Tryd.underlying34 ty9 rfl rfl (by omega)) ?_
            refine AL.val 8 rfl (by kernel_rfl) rfl (fun w hs => run_load1 ty9 rfl (hcp hs)) ?_
            refine AL.val 9 rfl (by kernel_rfl) rfl (fun w hs => run_bF (run_strEq rfl rfl) (by exact h1)) ?_
            refine AL.val 10 rfl (by kernel_rfl) rfl (fun w hs => run_move) ?_
            refine AL.valY 11 rfl (by kernel_rfl) rfl rfl rfl rfl (fun w hs => run_move) ?_
            refine AL.valY 12 rfl (by kernel_rfl) rfl rfl rfl rfl (fun w hs => run_move) ?_
            first | refine AL.valY 13 rfl (by kernel_rfl) rfl rfl rfl rfl (fun w hs => run_ixSlN Tryd.underlying34 ty9 rfl rfl (by omega)) ?_ | refine AL.valY 13 rfl (by kernel_rfl) rfl rfl rfl rfl (fun w hs => run_ixSl Tryd.underlying34 ty9 rfl rfl (by omega)) ?_
            refine AL.valY 14 rfl (by kernel_rfl) rfl rfl rfl rfl (fun w hs => run_load1 ty9 rfl (hcp hs)) ?_
            refine AL.valY 15 rfl (by kernel_rfl) rfl rfl rfl rfl (fun w hs => run_move) ?_
            refine AL.valY 16 rfl (by kernel_rfl) rfl rfl rfl rfl (fun w hs => run_move) ?_
            first | refine AL.valY 17 rfl (by kernel_rfl) rfl rfl rfl rfl (fun w hs => run_ixSlN Tryd.underlying34 ty9 rfl rfl (by omega)) ?_ | refine AL.valY 17 rfl (by kernel_rfl) rfl rfl rfl rfl (fun w hs => run_ixSl Tryd.underlying34 ty9 rfl rfl (by omega)) ?_
            refine AL.valY 18 rfl (by kernel_rfl) rfl rfl rfl rfl (fun w hs => run_load1 ty9 rfl (hcq hs)) ?_
            refine AL.valY 19 rfl (by kernel_rfl) rfl rfl rfl rfl (fun w hs => run_strEq rfl rfl) ?_
            first | refine AL.val 20 rfl (by kernel_rfl) rfl (fun w hs => run_pickT rfl) ?_ | refine AL.val 20 rfl (by kernel_rfl) rfl (fun w hs => run_pickF rfl) ?_
            first | refine AL.val 21 rfl (by kernel_rfl) rfl (fun w hs => run_ixSlN Tryd.underlying55 ty4 rfl rfl (by omega)) ?_ | refine AL.val 21 rfl (by kernel_rfl) rfl (fun w hs => run_ixSl Tryd.underlying55 ty4 rfl rfl (by omega)) ?_
            refine AL.one 22 (by kernel_rfl) rfl (hs.tail) (hs.tail) ?_
            first | refine WL.store1 ty4 rfl rfl (rfl) hs (by first | (simp; done) | omega | (simp only [List.length_append, List.length_replicate, List.length_cons, List.length_nil, List.length_set]; omega) | (simp [Ent.cells, u8s]; done) | exact Nat.le_of_ble_eq_true rfl) (fun w hs => ?_) | refine WL.store1_1 ty4 rfl rfl (rfl) hs (by first | (simp; done) | omega | (simp only [List.length_append, List.length_replicate, List.length_cons, List.length_nil, List.length_set]; omega) | (simp [Ent.cells, u8s]; done) | exact Nat.le_of_ble_eq_true rfl) (fun w hs => ?_) | refine WL.store1_2 ty4 rfl rfl (rfl) hs (by first | (simp; done) | omega | (simp only [List.length_append, List.length_replicate, List.length_cons, List.length_nil, List.length_set]; omega) | (simp [Ent.cells, u8s]; done) | exact Nat.le_of_ble_eq_true rfl) (fun w hs => ?_) | refine WL.store1_3 ty4 rfl rfl (rfl) hs (by first | (simp; done) | omega | (simp only [List.length_append, List.length_replicate, List.length_cons, List.length_nil, List.length_set]; omega) | (simp [Ent.cells, u8s]; done) | exact Nat.le_of_ble_eq_true rfl) (fun w hs => ?_) | refine WL.store1_4 ty4 rfl rfl (rfl) hs (by first | (simp; done) | omega | (simp only [List.length_append, List.length_replicate, List.length_cons, List.length_nil, List.length_set]; omega) | (simp [Ent.cells, u8s]; done) | exact Nat.le_of_ble_eq_true rfl) (fun w hs => ?_) | refine WL.store1 ty4 rfl rfl (rfl) hs (by first | (simp; done) | omega | (simp only [List.length_append, List.length_replicate, List.length_cons, List.length_nil, List.length_set]; omega) | (simp [Ent.cells, u8s]; done) | exact Nat.le_of_ble_eq_true rfl) (fun w hs => ?_)
            refine WL.nil ?_
            refine ⟨rfl, ?_⟩
            refine AL.end (by kernel_rfl) (hs.tail) (hs.tail) ?_
            repeat (first | refine CW.seq ?_ | refine CW.block ?_ | refine CW.skip ?_ | refine CW.label ?_ | refine CW.exit ?_ | refine CW.condT rfl ?_ | refine CW.condF rfl ?_)
            refine CW.reg ?_
            refine WL.val rfl (run_move) ?_
            refine WL.val rfl (run_add (c := ((k + 1 : Nat) : Int)) rfl rfl (by omega) (by omega)) ?_
            refine WL.val rfl (run_assign) ?_
            refine WL.nil ?_
            repeat (first | refine CW.seq ?_ | refine CW.block ?_ | refine CW.skip ?_ | refine CW.label ?_ | refine CW.exit ?_)
            refine (show _ ∧ _ from ⟨rfl, _, ?_, k + 1, by omega, rfl, ?_, rfl, rfl, rfl, rfl, rfl, rfl, trivial⟩)
            · omega
            · exact (congrArg (fun cs => Step [] ((b39, blk 4 cs) :: (b20, blk 55 C1) :: (b17, blk 4 C2) :: R) w1 w) hset3).mp hs
        · obtain rfl : k = y.length := by omega
          have hful : bools (row.take y.length) ++ List.replicate (y.length - y.length) (Value.bool false) = bools row := by rw [Nat.sub_self, List.replicate_zero, List.append_nil, ← hrl, List.take_length]
          rw [hful] at hs
          repeat (first | refine CW.seq ?_ | refine CW.block ?_ | refine CW.skip ?_ | refine CW.label ?_ | refine CW.exit ?_ | refine CW.condT rfl ?_ | refine CW.condF rfl ?_)
          refine CW.reg ?_
          refine WL.val rfl (run_move) ?_
          refine WL.val rfl (run_move) ?_
          refine WL.val rfl (run_lenSl Tryd.underlying34 rfl) ?_
          refine WL.val rfl (run_bF (run_lss rfl rfl) (by omega)) ?_
          refine WL.nil ?_
          repeat (first | refine CW.seq ?_ | refine CW.block ?_ | refine CW.skip ?_ | refine CW.label ?_ | refine CW.exit ?_ | refine CW.condT rfl ?_ | refine CW.condF rfl ?_)
          refine CW.reg ?_
          refine WL.val rfl (run_move) ?_
          refine WL.val rfl (run_add (c := ((i + 1 : Nat) : Int)) rfl rfl (by omega) (by omega)) ?_
          refine WL.val rfl (run_assign) ?_
          refine WL.nil ?_
          rw [← hC1, ← hC2] at hs
          repeat (first | refine CW.seq ?_ | refine CW.block ?_ | refine CW.skip ?_ | refine CW.label ?_ | refine CW.exit ?_)
          refine (show _ ∧ _ from ⟨rfl, _, ?_, i + 1, bs ++ [b39], (b39, blk 4 (bools row)) :: R, by omega, rfl, by simp [hbs], fun j b h => ?_, hs.rot3.rot3, rfl, rfl, rfl, rfl, rfl, trivial⟩)
          · omega
          · by_cases hj : j < bs.length
            · rw [List.getElem?_append_left hj] at h
              exact List.mem_cons_of_mem _ (hR j b h)
            · obtain rfl : j = i := by
                have := (List.getElem?_eq_some_iff.1 h).1
                simp at this
                omega
              rw [List.getElem?_append_right (by omega), hbs, Nat.sub_self] at h
              obtain rfl : b39 = b := by simpa using h
              have : (x.map fun p => y.map (pieceEq p)).getD j [] = row := by rw [← hrow]; simp [List.getD_eq_getElem?_getD, hpi]
              rw [this]
              exact List.mem_cons_self
    · obtain rfl : i = x.length := by omega
      have e1 : bs.map (slB y.length) ++ List.replicate (x.length - x.length) (Value.slice none 0 0) = bs.map (slB y.length) := by rw [Nat.sub_self, List.replicate_zero, List.append_nil]
      have e2 : bools ((x.map A).take x.length) ++ List.replicate (x.length - x.length) (Value.bool false) = bools (x.map A) := by rw [Nat.sub_self, List.replicate_zero, List.append_nil, List.take_of_length_le (by simp)]
      rw [e1, e2] at hs
      have hlaw := dpI_law (any := A) (of := pieceEq) x y x.length y.length (Nat.le_refl _) (Nat.le_refl _)
      rw [List.take_length, List.take_length] at hlaw
      have hcall := refGoes_spec (bm := b17) (bo := b20) (n := y.length) (K := x.length) (ms := x.map A) (os := x.map fun p => y.map (pieceEq p)) (bs := bs) w (by simp) (by omega) (by simp; omega) (by simp [hbs]) hs.a1 hs.a0 (fun j b h => by
        have hjl := (List.getElem?_eq_some_iff.1 h).1
        refine ⟨by simp [List.getD_eq_getElem?_getD, List.getElem?_eq_getElem (show j < x.length by omega)], ?_⟩
        have := hs.has _ (List.mem_cons_of_mem _ (List.mem_cons_of_mem _ (hR j b h)))
        exact At.of_blk this)
      rw [hlaw] at hcall
      repeat (first | refine CW.seq ?_ | refine CW.block ?_ | refine CW.skip ?_ | refine CW.label ?_ | refine CW.exit ?_ | refine CW.condT rfl ?_ | refine CW.condF rfl ?_)
      refine CW.reg ?_
      refine WL.val rfl (run_move) ?_
      refine WL.val rfl (run_move) ?_
      refine WL.val rfl (run_lenSl Tryd.underlying34 rfl) ?_
      refine WL.val rfl (run_bF (run_lss rfl rfl) (by omega)) ?_
      refine WL.nil ?_
      repeat (first | refine CW.seq ?_ | refine CW.block ?_ | refine CW.skip ?_ | refine CW.label ?_ | refine CW.exit ?_ | refine CW.condT rfl ?_ | refine CW.condF rfl ?_)
      refine CW.reg ?_
      refine WL.val rfl (run_move) ?_
      refine WL.val rfl (run_move) ?_
      refine WL.val rfl (run_move) ?_
      refine WL.val rfl (run_lenSl Tryd.underlying34 rfl) ?_
      refine WL.enter rfl (run_call en43 rfl rfl) (hcall) ?_
      rintro e w ⟨rfl, hq⟩
      refine ⟨_, rfl, ?_⟩
      replace hs := hs.callE hq
      refine WL.val rfl (run_assign) ?_
      refine WL.nil ?_
      repeat (first | refine CW.seq ?_ | refine CW.block ?_ | refine CW.skip ?_ | refine CW.label ?_ | refine CW.exit ?_ | refine CW.condT rfl ?_ | refine CW.condF rfl ?_)
      refine CW.ret ?_
      refine fin_ret1 rfl ?_
      exact ⟨rfl, hs00.callE hs.clear⟩
end Go.Gx
