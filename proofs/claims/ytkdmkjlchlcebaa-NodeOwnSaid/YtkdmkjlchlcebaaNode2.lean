/- The law's own helpers: Same, mark, Lend, Kept. -/
import Derived.Test.YtkdmkjlchlcebaaNode1
import Derived.Test.YtkdmkjlchlcebaaEq
namespace Go.Gx
open Go.Proofs
set_option linter.unusedVariables false
set_option linter.unusedSimpArgs false
set_option maxRecDepth 100000

theorem ent_key : Try.prog.keyTypeAt 5 48 = true := by kernel_rfl
theorem ent_guard : Try.prog.eqGuardType Try.prog.depth 48 = false := by kernel_rfl
theorem ent_formed {x : Ent} (h : x.ok) : Value.formed Try.prog 48 (.agg x.cells.toArray) = true := by
  simp only [Value.formed, Try.underlying48, ty48.cellsOf]
  simp [Ent.cells_len h]

theorem lits_ent {x : Ent} (h : x.ok) : Try.prog.keyLits 4 48 x.cells = some x.lits := by
  have h1 : Try.prog.keyLits 3 9 [str x.name] = some [.string x.name] := by
    have hsz : (ByteArray.mk ⟨x.name⟩).size ≤ maxLen := by
      have := h.2.2.2
      show x.name.length ≤ _
      unfold maxLen
      omega
    unfold Program.keyLits
    simp only [Try.underlying9, str, hsz, if_true]
  have h2 : Try.prog.keyLits 3 3 [.int .i64 x.kind] = some [.int .i64 x.kind] := by
    have hw : (Lit.int .i64 x.kind).wf = true := WalkArith.wf_i64 (by have := h.2; omega)
    unfold Program.keyLits
    simp only [Try.underlying3, hw, and_self, if_true]
  have h3 := lits_u8 (d := 1) Try.underlying46 Try.underlying5 ty46 ty5 h.1
  have hlen := Ent.cells_len h
  have hd : ((x.cells.drop 2).take 32) = u8s x.dig := by
    simp only [Ent.cells, List.drop_succ_cons, List.drop_zero]
    exact List.take_of_length_le (by simp [u8s, h.1])
  unfold Program.keyLits
  simp only [Try.underlying48, ty48.cellsOf, hlen]
  rw [if_pos ⟨trivial, by kernel_rfl⟩]
  have e1 : (x.cells.drop 0).take 1 = [str x.name] := rfl
  have e2 : (x.cells.drop 1).take 1 = [.int .i64 x.kind] := rfl
  simp only [List.mapM_cons, List.mapM_nil, ty9.cellsOf, ty3.cellsOf, ty46.cellsOf, hd, h3, e1, e2, h1, h2]
  simp [Ent.lits]

theorem same_spec {v u : Value} {l m : List Ent} (w : World) (hl : Es w v l) (hm : Es w u m) : Calls Try.prog 22 #[v, u] w (Ret0 (.bool (decide (l = m))) w) := by
  have hs : Step [] [] w w := Step.refl w
  obtain ⟨a, c, hv⟩ : ∃ a c, v = .slice a l.length c := by
    rcases hl.cases with ⟨_, c, rfl, rfl⟩ | ⟨b, off, c, rfl, _⟩ <;> exact ⟨_, _, rfl⟩
  have hb := hl.2.2
  have hb' := hm.2.2
  obtain ⟨a', c', hu⟩ : ∃ a c, u = .slice a m.length c := by
    rcases hm.cases with ⟨_, c, rfl, rfl⟩ | ⟨b, off, c, rfl, _⟩ <;> exact ⟨_, _, rfl⟩
  subst hv; subst hu
  by_cases hlen : l.length = m.length
  · refine calls (n := 26) Try.func22 rfl rfl rfl ?_
    repeat (first | refine CW.seq ?_ | refine CW.block ?_ | refine CW.skip ?_ | refine CW.label ?_ | refine CW.exit ?_ | refine CW.condT rfl ?_ | refine CW.condF rfl ?_)
    refine CW.reg ?_
    refine WL.val rfl (run_assign) ?_
    refine WL.nil ?_
    repeat (first | refine CW.seq ?_ | refine CW.block ?_ | refine CW.skip ?_ | refine CW.label ?_ | refine CW.exit ?_ | refine CW.condT rfl ?_ | refine CW.condF rfl ?_)
    refine CW.reg ?_
    refine WL.val rfl (run_move) ?_
    refine WL.val rfl (run_lenSl Try.underlying22 rfl) ?_
    refine WL.val rfl (run_move) ?_
    refine WL.val rfl (run_lenSl Try.underlying22 rfl) ?_
    refine WL.val rfl (run_bF (run_neq rfl rfl) (by omega)) ?_
    refine WL.nil ?_
    repeat (first | refine CW.seq ?_ | refine CW.block ?_ | refine CW.skip ?_ | refine CW.label ?_ | refine CW.exit ?_ | refine CW.condT rfl ?_ | refine CW.condF rfl ?_)
    refine CW.reg ?_
    refine WL.val rfl (run_assign) ?_
    refine WL.nil ?_
    repeat (first | refine CW.seq ?_ | refine CW.block ?_ | refine CW.skip ?_ | refine CW.label ?_ | refine CW.exit ?_ | refine CW.condT rfl ?_ | refine CW.condF rfl ?_)
    refine CW.loop (fun k f w' => ∃ i, i ≤ l.length ∧ k = l.length - i ∧ Step [] [] w w' ∧ l.take i = m.take i ∧ Holds f [(0, .slice a l.length c), (1, .slice a' m.length c'), (5, .int .i64 i)]) (m := l.length) ?_ ?_
    · exact ⟨0, by omega, by omega, hs, rfl, rfl, rfl, rfl, trivial⟩
    · rintro k f w ⟨i, hi, rfl, hs, he, hf⟩
      have hobt := hf.chain
      obtain ⟨g, rfl⟩ := hobt
      repeat (first | refine CW.seq ?_ | refine CW.block ?_ | refine CW.skip ?_ | refine CW.label ?_ | refine CW.exit ?_ | refine CW.condT rfl ?_ | refine CW.condF rfl ?_)
      refine CW.reg ?_
      refine WL.val rfl (run_move) ?_
      refine WL.val rfl (run_move) ?_
      refine WL.val rfl (run_lenSl Try.underlying22 rfl) ?_
      refine WL.val rfl (run_lss rfl rfl) ?_
      refine WL.nil ?_
      repeat (first | refine CW.seq ?_ | refine CW.block ?_ | refine CW.skip ?_ | refine CW.label ?_ | refine CW.exit ?_)
      first | refine CW.condP rfl (fun h => ?_) (fun h => ?_) | refine CW.cond rfl (fun h => ?_) (fun h => ?_)
      · have hlt : i < l.length := by omega
        have hlt' : i < m.length := by omega
        rcases hl.cases with ⟨_, c1, hv1, rfl⟩ | ⟨b, off, c1, hv1, hat⟩
        · simp at hlt
        rcases hm.cases with ⟨_, c2, hv2, rfl⟩ | ⟨b2, off2, c2, hv2, hat2⟩
        · simp at hlt'
        obtain ⟨rfl, rfl⟩ : a = some ⟨b, off, none⟩ ∧ c = c1 := by cases hv1; exact ⟨rfl, rfl⟩
        obtain ⟨rfl, rfl⟩ : a' = some ⟨b2, off2, none⟩ ∧ c' = c2 := by cases hv2; exact ⟨rfl, rfl⟩
        have hok := hl.2.1.get hlt
        have hok' := hm.2.1.get hlt'
        have hax := hat.ent hl.2.1 hlt
        have hax' := hat2.ent hm.2.1 hlt'
        repeat (first | refine CW.seq ?_ | refine CW.block ?_ | refine CW.skip ?_ | refine CW.label ?_ | refine CW.exit ?_ | refine CW.condT rfl ?_ | refine CW.condF rfl ?_)
        refine CW.quiet mixedP (by kernel_rfl) hs ?_
        refine QL.val rfl (fun w hs => run_move) ?_
        refine QL.val rfl (fun w hs => run_move) ?_
        first | refine QL.val rfl (fun w hs => run_ixSlN Try.underlying22 ty48 rfl rfl (by omega)) ?_ | refine QL.val rfl (fun w hs => run_ixSl Try.underlying22 ty48 rfl rfl (by omega)) ?_
        refine QL.val rfl (fun w hs => run_loadN ty48 rfl (Ent.cells_len hok) (hax.step hs (by simp))) ?_
        refine QL.val rfl (fun w hs => run_move) ?_
        refine QL.val rfl (fun w hs => run_move) ?_
        first | refine QL.val rfl (fun w hs => run_ixSlN Try.underlying22 ty48 rfl rfl (by omega)) ?_ | refine QL.val rfl (fun w hs => run_ixSl Try.underlying22 ty48 rfl rfl (by omega)) ?_
        refine QL.val rfl (fun w hs => run_loadN ty48 rfl (Ent.cells_len hok') (hax'.step hs (by simp))) ?_
        refine QL.val rfl (fun w hs => run_neqAgg Ent.lits_iff ent_key (ent_formed hok) (ent_formed hok') ent_guard rfl rfl (lits_ent hok) (lits_ent hok')) ?_
        refine QL.nil (fun w hs => ?_)
        repeat (first | refine CW.seq ?_ | refine CW.block ?_ | refine CW.skip ?_ | refine CW.label ?_ | refine CW.exit ?_)
        first | refine CW.condP rfl (fun h => ?_) (fun h => ?_) | refine CW.cond rfl (fun h => ?_) (fun h => ?_)
        · repeat (first | refine CW.seq ?_ | refine CW.block ?_ | refine CW.skip ?_ | refine CW.label ?_ | refine CW.exit ?_ | refine CW.condT rfl ?_ | refine CW.condF rfl ?_)
          refine CW.reg ?_
          refine WL.val rfl (run_assign) ?_
          refine WL.nil ?_
          repeat (first | refine CW.seq ?_ | refine CW.block ?_ | refine CW.skip ?_ | refine CW.label ?_ | refine CW.exit ?_ | refine CW.condT rfl ?_ | refine CW.condF rfl ?_)
          refine CW.ret ?_
          refine fin_ret1 rfl ?_
          have hne : l ≠ m := fun e => h (by subst e; rfl)
          exact ⟨by rw [decide_eq_false hne]; rfl, hs⟩
        · repeat (first | refine CW.seq ?_ | refine CW.block ?_ | refine CW.skip ?_ | refine CW.label ?_ | refine CW.exit ?_ | refine CW.condT rfl ?_ | refine CW.condF rfl ?_)
          refine CW.reg ?_
          refine WL.val rfl (run_move) ?_
          refine WL.val rfl (run_add (c := ((i + 1 : Nat) : Int)) rfl rfl (by omega) (by omega)) ?_
          refine WL.val rfl (run_assign) ?_
          refine WL.nil ?_
          repeat (first | refine CW.seq ?_ | refine CW.block ?_ | refine CW.skip ?_ | refine CW.label ?_ | refine CW.exit ?_)
          refine (show _ ∧ _ from ⟨rfl, _, ?_, i + 1, by omega, rfl, hs, ?_, rfl, rfl, rfl, trivial⟩)
          · omega
          · rw [List.take_succ_eq_append_getElem hlt, List.take_succ_eq_append_getElem hlt', he, Decidable.not_not.1 h]
      · repeat (first | refine CW.seq ?_ | refine CW.block ?_ | refine CW.skip ?_ | refine CW.label ?_ | refine CW.exit ?_ | refine CW.condT rfl ?_ | refine CW.condF rfl ?_)
        refine CW.reg ?_
        refine WL.val rfl (run_assign) ?_
        refine WL.nil ?_
        repeat (first | refine CW.seq ?_ | refine CW.block ?_ | refine CW.skip ?_ | refine CW.label ?_ | refine CW.exit ?_ | refine CW.condT rfl ?_ | refine CW.condF rfl ?_)
        refine CW.ret ?_
        refine fin_ret1 rfl ?_
        obtain rfl : i = l.length := by omega
        have e : l = m := by
          rw [List.take_length, hlen, List.take_length] at he
          exact he
        exact ⟨by rw [decide_eq_true e]; rfl, hs⟩
  · have hne : l ≠ m := fun e => hlen (by rw [e])
    rw [decide_eq_false hne]
    refine calls (n := 26) Try.func22 rfl rfl rfl ?_
    repeat (first | refine CW.seq ?_ | refine CW.block ?_ | refine CW.skip ?_ | refine CW.label ?_ | refine CW.exit ?_ | refine CW.condT rfl ?_ | refine CW.condF rfl ?_)
    refine CW.reg ?_
    refine WL.val rfl (run_assign) ?_
    refine WL.nil ?_
    repeat (first | refine CW.seq ?_ | refine CW.block ?_ | refine CW.skip ?_ | refine CW.label ?_ | refine CW.exit ?_ | refine CW.condT rfl ?_ | refine CW.condF rfl ?_)
    refine CW.reg ?_
    refine WL.val rfl (run_move) ?_
    refine WL.val rfl (run_lenSl Try.underlying22 rfl) ?_
    refine WL.val rfl (run_move) ?_
    refine WL.val rfl (run_lenSl Try.underlying22 rfl) ?_
    refine WL.val rfl (run_bT (run_neq rfl rfl) (by omega)) ?_
    refine WL.nil ?_
    repeat (first | refine CW.seq ?_ | refine CW.block ?_ | refine CW.skip ?_ | refine CW.label ?_ | refine CW.exit ?_ | refine CW.condT rfl ?_ | refine CW.condF rfl ?_)
    refine CW.reg ?_
    refine WL.val rfl (run_assign) ?_
    refine WL.nil ?_
    repeat (first | refine CW.seq ?_ | refine CW.block ?_ | refine CW.skip ?_ | refine CW.label ?_ | refine CW.exit ?_ | refine CW.condT rfl ?_ | refine CW.condF rfl ?_)
    refine CW.ret ?_
    refine fin_ret1 rfl ?_
    exact ⟨rfl, hs⟩

def mkE (i : Nat) : Ent := ⟨[109, 97, 114, 107], -1 - (i : Int), List.replicate 32 0⟩
def marks (k n : Nat) : List Ent := (List.range n).map fun j => mkE (k + j)
theorem mkE_ok {i : Nat} (h : i ≤ 9223372036854775806) : (mkE i).ok := ⟨rfl, by simp only [mkE]; omega, by simp only [mkE]; omega, by simp [mkE]⟩
theorem marks_len (k n : Nat) : (marks k n).length = n := by simp [marks]
theorem marks_ok {k n : Nat} (h : k + n ≤ 9223372036854775806) : Oks (marks k n) := fun x hx => by
  have hobt := List.mem_map.1 hx
  obtain ⟨j, hj, rfl⟩ := hobt
  exact mkE_ok (by have := List.mem_range.1 hj; omega)
theorem marks_succ (k n : Nat) : marks k (n + 1) = marks k n ++ [mkE (k + n)] := by simp [marks, List.range_succ]

theorem bld_ent (n : List UInt8) (k : Int) (w : World) : (Instr.build 48 #[(0, str n), (1, .int .i64 k)]).run Try.prog w = .ok (.agg (Ent.cells ⟨n, k, List.replicate 32 0⟩).toArray) w := by kernel_rfl

theorem mark_spec (i : Nat) (w : World) (hi : i ≤ 9223372036854775806) : Calls Try.prog 33 #[.int .i64 i] w (Ret0 (.agg (mkE i).cells.toArray) w) := by
  have hs : Step [] [] w w := Step.refl w
  refine calls (n := 6) Try.func33 rfl rfl rfl ?_
  repeat (first | refine CW.seq ?_ | refine CW.block ?_ | refine CW.skip ?_ | refine CW.label ?_ | refine CW.exit ?_ | refine CW.condT rfl ?_ | refine CW.condF rfl ?_)
  refine CW.reg ?_
  refine WL.alloc ty48 rfl hs (fun b2 w hs => ?_)
  refine WL.nil ?_
  repeat (first | refine CW.seq ?_ | refine CW.block ?_ | refine CW.skip ?_ | refine CW.label ?_ | refine CW.exit ?_ | refine CW.condT rfl ?_ | refine CW.condF rfl ?_)
  refine CW.reg ?_
  refine WL.val rfl (run_move) ?_
  refine WL.val rfl (run_sub rfl rfl rfl (by omega)) ?_
  refine WL.val rfl (run_build rfl (bld_ent _ _ _)) ?_
  refine WL.storeAll ty48 rfl rfl (rfl) (Ent.cells1 _) (hs) rfl (fun w hs => ?_)
  refine WL.nil ?_
  refine CW.ret ?_
  refine fin_cell1 rfl rfl (run_loadVarN ty48 rfl hs.a0) ?_
  exact ⟨rfl, hs.clear⟩

def LendB (b : Nat) (l : List Ent) : Obj := blk 48 (rows (l ++ marks l.length 67))

theorem lend_spec {v : Value} {l : List Ent} (w0 : World) (hl : Es w0 v l) (hb : l.length ≤ 4398046511104) : Calls Try.prog 12 #[v] w0 fun e w' => ∃ b, e = .returned (.slice (some ⟨b, 0, none⟩) l.length (l.length + 67)) ∧ Step [] [(b, LendB b l)] w0 w' := by
  have hs : Step [] [] w0 w0 := Step.refl w0
  obtain ⟨a, c, rfl⟩ : ∃ a c, v = .slice a l.length c := by
    rcases hl.cases with ⟨_, c, rfl, rfl⟩ | ⟨b, off, c, rfl, _⟩ <;> exact ⟨_, _, rfl⟩
  have hrl := rows_len hl.2.1
  refine calls (n := 29) Try.func12 rfl rfl rfl ?_
  repeat (first | refine CW.seq ?_ | refine CW.block ?_ | refine CW.skip ?_ | refine CW.label ?_ | refine CW.exit ?_ | refine CW.condT rfl ?_ | refine CW.condF rfl ?_)
  refine CW.reg ?_
  refine WL.val rfl (run_assign) ?_
  refine WL.nil ?_
  repeat (first | refine CW.seq ?_ | refine CW.block ?_ | refine CW.skip ?_ | refine CW.label ?_ | refine CW.exit ?_ | refine CW.condT rfl ?_ | refine CW.condF rfl ?_)
  refine CW.reg ?_
  refine WL.val rfl (run_move) ?_
  refine WL.val rfl (run_lenSl Try.underlying22 rfl) ?_
  refine WL.val rfl (run_add (c := ((l.length + 67 : Nat) : Int)) rfl rfl (by omega) (by omega)) ?_
  refine WL.makeSlice (k := l.length + 67) Try.underlying22 ty48 rfl (by omega) (by omega) rfl rfl rfl hs (fun b8 w hs => ?_)
  refine WL.val rfl (run_assign) ?_
  refine WL.nil ?_
  have hz : ((List.replicate (l.length + 67) ([str [], .int .i64 0] ++ List.replicate 32 (Value.int .u8 0))).flatten).length = (l.length + 67) * 34 := by
    simp only [List.length_flatten, List.map_replicate, List.sum_replicate_nat]
    rfl
  generalize (List.replicate (l.length + 67) ([str [], .int .i64 0] ++ List.replicate 32 (Value.int .u8 0))).flatten = zs at hs hz
  repeat (first | refine CW.seq ?_ | refine CW.block ?_ | refine CW.skip ?_ | refine CW.label ?_ | refine CW.exit ?_ | refine CW.condT rfl ?_ | refine CW.condF rfl ?_)
  refine CW.reg ?_
  refine WL.val rfl (run_move) ?_
  refine WL.val rfl (run_move) ?_
  refine WL.copy Try.underlying22 ty48 rfl rfl (hs) (hl.1.step0 hs) (rows_cells1 l) (by first | omega | exact Nat.le_of_ble_eq_true rfl | (simp [Ent.cells, u8s]; done)) (fun k hk => by cases hk; rfl) (fun w hs => ⟨fun k hk => ?_, fun h => by cases h⟩)
  cases hk
  refine WL.nil ?_
  rw [Nat.min_eq_left (by omega), ← hrl, List.take_length] at hs
  have hs0 : Step [] [(b8, blk 48 (rows (l ++ marks l.length 0) ++ zs.drop (l.length * 34)))] w0 w := by
    have : splice zs 0 (rows l) = rows (l ++ marks l.length 0) ++ zs.drop (l.length * 34) := by simp [splice, marks, hrl]
    rw [← this]; exact hs
  repeat (first | refine CW.seq ?_ | refine CW.block ?_ | refine CW.skip ?_ | refine CW.label ?_ | refine CW.exit ?_ | refine CW.condT rfl ?_ | refine CW.condF rfl ?_)
  refine CW.reg ?_
  refine WL.val rfl (run_move) ?_
  refine WL.val rfl (run_lenSl Try.underlying22 rfl) ?_
  refine WL.val rfl (run_assign) ?_
  refine WL.nil ?_
  repeat (first | refine CW.seq ?_ | refine CW.block ?_ | refine CW.skip ?_ | refine CW.label ?_ | refine CW.exit ?_ | refine CW.condT rfl ?_ | refine CW.condF rfl ?_)
  refine CW.loop (fun m f w' => ∃ j more, j ≤ 67 ∧ m = 67 - j ∧ Step [] [(b8, blk 48 (rows (l ++ marks l.length j) ++ more))] w0 w' ∧ more.length = (67 - j) * 34 ∧ Holds f [(0, .slice a l.length c), (3, .slice (some ⟨b8, 0, none⟩) (l.length + 67) (l.length + 67)), (4, .int .i64 (l.length + j : Nat))]) (m := 67) ?_ ?_
  · exact ⟨0, _, by omega, rfl, hs0, by simp [hz]; omega, rfl, rfl, rfl, trivial⟩
  · rintro m f w ⟨j, more, hj, rfl, hs, hm, hf⟩
    have hobt := hf.chain
    obtain ⟨g, rfl⟩ := hobt
    repeat (first | refine CW.seq ?_ | refine CW.block ?_ | refine CW.skip ?_ | refine CW.label ?_ | refine CW.exit ?_ | refine CW.condT rfl ?_ | refine CW.condF rfl ?_)
    refine CW.reg ?_
    refine WL.val rfl (run_move) ?_
    refine WL.val rfl (run_move) ?_
    refine WL.val rfl (run_lenSl Try.underlying22 rfl) ?_
    refine WL.val rfl (run_lss rfl rfl) ?_
    refine WL.nil ?_
    repeat (first | refine CW.seq ?_ | refine CW.block ?_ | refine CW.skip ?_ | refine CW.label ?_ | refine CW.exit ?_)
    first | refine CW.condP rfl (fun h => ?_) (fun h => ?_) | refine CW.cond rfl (fun h => ?_) (fun h => ?_)
    · have hlt : j < 67 := by omega
      have hlen : (rows (l ++ marks l.length j)).length = (l.length + j) * 34 := by
        rw [rows_len (hl.2.1.append (marks_ok (by omega)))]
        simp [marks_len]
      repeat (first | refine CW.seq ?_ | refine CW.block ?_ | refine CW.skip ?_ | refine CW.label ?_ | refine CW.exit ?_ | refine CW.condT rfl ?_ | refine CW.condF rfl ?_)
      refine CW.reg ?_
      refine WL.val rfl (run_move) ?_
      refine WL.val rfl (run_move) ?_
      refine WL.val rfl (run_move) ?_
      refine WL.enter rfl (run_call en33 rfl rfl) (mark_spec _ _ (by omega)) ?_
      rintro e w ⟨rfl, hq⟩
      refine ⟨_, rfl, ?_⟩
      first | refine WL.val rfl (run_ixSlN Try.underlying22 ty48 rfl rfl (by omega)) ?_ | refine WL.val rfl (run_ixSl Try.underlying22 ty48 rfl rfl (by omega)) ?_
      refine WL.storeN ty48 rfl rfl (rfl) (Ent.cells1 _) ((hs.callE hq)) (by first | (simp; done) | omega | (simp only [List.length_append, List.length_replicate, List.length_cons, List.length_nil, List.length_set]; omega) | (simp [Ent.cells, u8s]; done) | exact Nat.le_of_ble_eq_true rfl) (fun w hs => ?_)
      refine WL.nil ?_
      repeat (first | refine CW.seq ?_ | refine CW.block ?_ | refine CW.skip ?_ | refine CW.label ?_ | refine CW.exit ?_ | refine CW.condT rfl ?_ | refine CW.condF rfl ?_)
      refine CW.reg ?_
      refine WL.val rfl (run_move) ?_
      refine WL.val rfl (run_add (c := ((l.length + (j + 1) : Nat) : Int)) rfl rfl (by omega) (by omega)) ?_
      refine WL.val rfl (run_assign) ?_
      refine WL.nil ?_
      repeat (first | refine CW.seq ?_ | refine CW.block ?_ | refine CW.skip ?_ | refine CW.label ?_ | refine CW.exit ?_)
      refine (show _ ∧ _ from ⟨rfl, _, ?_, j + 1, more.drop 34, by omega, rfl, ?_, ?_, rfl, rfl, rfl, trivial⟩)
      · omega
      · have e := splice_end (rows (l ++ marks l.length j)) more (mkE (l.length + j)).cells (by rw [Ent.cells_len (mkE_ok (by omega)), hm]; omega)
        rw [hlen, Ent.cells_len (mkE_ok (by omega))] at e
        rw [marks_succ, ← List.append_assoc, rows_append, rows_one, ← e]
        rwa [Nat.zero_add] at hs
      · simp [hm]; omega
    · obtain rfl : j = 67 := by omega
      obtain rfl : more = [] := List.eq_nil_of_length_eq_zero (by omega)
      repeat (first | refine CW.seq ?_ | refine CW.block ?_ | refine CW.skip ?_ | refine CW.label ?_ | refine CW.exit ?_ | refine CW.condT rfl ?_ | refine CW.condF rfl ?_)
      refine CW.reg ?_
      refine WL.val rfl (run_move) ?_
      refine WL.val rfl (run_move) ?_
      refine WL.val rfl (run_lenSl Try.underlying22 rfl) ?_
      refine WL.val rfl (run_sliceSl0  Try.underlying22 ty48 rfl rfl rfl (by simp) (by omega) (by omega)) ?_
      refine WL.val rfl (run_assign) ?_
      refine WL.nil ?_
      repeat (first | refine CW.seq ?_ | refine CW.block ?_ | refine CW.skip ?_ | refine CW.label ?_ | refine CW.exit ?_ | refine CW.condT rfl ?_ | refine CW.condF rfl ?_)
      refine CW.ret ?_
      refine fin_ret1 rfl ?_
      rw [List.append_nil] at hs
      exact ⟨b8, rfl, hs⟩

theorem marks_get {k n j : Nat} (h : j < (marks k n).length) : (marks k n)[j] = mkE (k + j) := by simp [marks]

/-- What was lent and is as it was: true; then it is written over. -/
theorem kept_spec {u : Value} {l : List Ent} {b : Nat} (w0 : World) (hl : Es w0 u l) (hbd : l.length ≤ 4398046511104) (hb : w0.heap[b]? = some (LendB b l)) :
    Calls Try.prog 15 #[.slice (some ⟨b, 0, none⟩) l.length (l.length + 67), u] w0 fun e w' => e = .returned (.bool true) ∧ Step [b] [] w0 w' := by
  have hs : Step [b] [(b, LendB b l)] w0 w0 := Step.start (L := [(b, LendB b l)]) (by simp) (by intro p hp; simp at hp; subst hp; exact hb)
  have hokm : Oks (l ++ marks l.length 67) := hl.2.1.append (marks_ok (by omega))
  have hlen : (rows (l ++ marks l.length 67)).length = (l.length + 67) * 34 := by rw [rows_len hokm]; simp [marks_len]
  have hall : Es w0 (.slice (some ⟨b, 0, none⟩) l.length (l.length + 67)) l := ⟨.mk (rows_len hl.2.1) (by
    have := At.of_blk hb
    rw [rows_append] at this
    exact this.left), hl.2.1, by omega⟩
  refine calls (n := 46) Try.func15 rfl rfl rfl ?_
  repeat (first | refine CW.seq ?_ | refine CW.block ?_ | refine CW.skip ?_ | refine CW.label ?_ | refine CW.exit ?_ | refine CW.condT rfl ?_ | refine CW.condF rfl ?_)
  refine CW.reg ?_
  refine WL.val rfl (run_assign) ?_
  refine WL.nil ?_
  repeat (first | refine CW.seq ?_ | refine CW.block ?_ | refine CW.skip ?_ | refine CW.label ?_ | refine CW.exit ?_ | refine CW.condT rfl ?_ | refine CW.condF rfl ?_)
  refine CW.reg ?_
  refine WL.val rfl (run_move) ?_
  refine WL.val rfl (run_move) ?_
  refine WL.enter rfl (run_call en22 rfl rfl) (same_spec _ hall hl) ?_
  rintro e w ⟨rfl, hq⟩
  refine ⟨_, rfl, ?_⟩
  refine WL.val rfl (run_assign) ?_
  refine WL.nil ?_
  rw [decide_eq_true rfl]
  have hs := hs.callE hq
  repeat (first | refine CW.seq ?_ | refine CW.block ?_ | refine CW.skip ?_ | refine CW.label ?_ | refine CW.exit ?_ | refine CW.condT rfl ?_ | refine CW.condF rfl ?_)
  refine CW.reg ?_
  refine WL.val rfl (run_move) ?_
  refine WL.val rfl (run_move) ?_
  refine WL.val rfl (run_lenSl Try.underlying22 rfl) ?_
  refine WL.val rfl (run_add (c := ((l.length + 67 : Nat) : Int)) rfl rfl (by omega) (by omega)) ?_
  refine WL.val rfl (run_sliceSl0  Try.underlying22 ty48 rfl rfl rfl (by simp) (by omega) (by omega)) ?_
  refine WL.val rfl (run_assign) ?_
  refine WL.nil ?_
  repeat (first | refine CW.seq ?_ | refine CW.block ?_ | refine CW.skip ?_ | refine CW.label ?_ | refine CW.exit ?_ | refine CW.condT rfl ?_ | refine CW.condF rfl ?_)
  refine CW.reg ?_
  refine WL.val rfl (run_move) ?_
  refine WL.val rfl (run_lenSl Try.underlying22 rfl) ?_
  refine WL.val rfl (run_assign) ?_
  refine WL.nil ?_
  repeat (first | refine CW.seq ?_ | refine CW.block ?_ | refine CW.skip ?_ | refine CW.label ?_ | refine CW.exit ?_ | refine CW.condT rfl ?_ | refine CW.condF rfl ?_)
  refine CW.loop (fun m f w' => ∃ i, i ≤ 67 ∧ m = 67 - i ∧ Step [b] [(b, LendB b l)] w0 w' ∧ Holds f [(0, .slice (some ⟨b, 0, none⟩) l.length (l.length + 67)), (5, .bool true), (6, .slice (some ⟨b, 0, none⟩) (l.length + 67) (l.length + 67)), (7, .int .i64 (l.length + i : Nat))]) (m := 67) ?_ ?_
  · exact ⟨0, by omega, by omega, hs, rfl, rfl, rfl, rfl, trivial⟩
  · rintro m f w ⟨i, hi, rfl, hs, hf⟩
    have hobt := hf.chain
    obtain ⟨g, rfl⟩ := hobt
    repeat (first | refine CW.seq ?_ | refine CW.block ?_ | refine CW.skip ?_ | refine CW.label ?_ | refine CW.exit ?_ | refine CW.condT rfl ?_ | refine CW.condF rfl ?_)
    refine CW.reg ?_
    refine WL.val rfl (run_move) ?_
    refine WL.val rfl (run_move) ?_
    refine WL.val rfl (run_lenSl Try.underlying22 rfl) ?_
    refine WL.val rfl (run_lss rfl rfl) ?_
    refine WL.nil ?_
    repeat (first | refine CW.seq ?_ | refine CW.block ?_ | refine CW.skip ?_ | refine CW.label ?_ | refine CW.exit ?_)
    first | refine CW.condP rfl (fun h => ?_) (fun h => ?_) | refine CW.cond rfl (fun h => ?_) (fun h => ?_)
    · have hlt : i < 67 := by omega
      have hj : l.length + i < (l ++ marks l.length 67).length := by simp [marks_len]; omega
      have hx : (l ++ marks l.length 67)[l.length + i] = mkE (l.length + i) := by
        rw [List.getElem_append_right (by omega), marks_get]
        congr 1
        omega
      have hat : ∀ w, Step [b] [(b, LendB b l)] w0 w → At w b (0 + (l.length + i) * 34) (mkE (l.length + i)).cells := fun w hs => by
        have := (At.of_blk (T := 48) hs.hd).ent hokm hj
        rwa [hx] at this
      have hmk := mkE_ok (i := l.length + i) (by omega)
      repeat (first | refine CW.seq ?_ | refine CW.block ?_ | refine CW.skip ?_ | refine CW.label ?_ | refine CW.exit ?_ | refine CW.condT rfl ?_ | refine CW.condF rfl ?_)
      refine CW.quiet mixedP (by kernel_rfl) hs ?_
      refine QL.val rfl (fun w hs => run_move) ?_
      refine QL.val rfl (fun w hs => run_move) ?_
      refine QL.yes rfl rfl rfl ?_
      refine QL.val rfl (fun w hs => run_move) ?_
      refine QL.yes rfl rfl rfl ?_
      refine QL.val rfl (fun w hs => run_move) ?_
      refine QL.yes rfl rfl rfl ?_
      first | refine QL.val rfl (fun w hs => run_ixSlN Try.underlying22 ty48 rfl rfl (by omega)) ?_ | refine QL.val rfl (fun w hs => run_ixSl Try.underlying22 ty48 rfl rfl (by omega)) ?_
      refine QL.yes rfl rfl rfl ?_
      refine QL.val rfl (fun w hs => run_loadN ty48 rfl rfl (hat w hs)) ?_
      refine QL.yes rfl rfl rfl ?_
      refine QL.val rfl (fun w hs => run_move) ?_
      refine QL.yes rfl rfl rfl ?_
      refine QL.enter rfl (fun w => run_call en33 rfl rfl) (fun w hs => mark_spec _ _ (by omega)) ?_
      refine QL.yes rfl rfl rfl ?_
      refine QL.val rfl (fun w hs => run_bT (run_eqlAgg Ent.lits_iff ent_key (ent_formed hmk) (ent_formed hmk) ent_guard rfl rfl (lits_ent hmk) (lits_ent hmk)) rfl) ?_
      first | refine QL.val rfl (fun w hs => run_pickT rfl) ?_ | refine QL.val rfl (fun w hs => run_pickF rfl) ?_
      refine QL.val rfl (fun w hs => run_assign) ?_
      refine QL.nil (fun w hs => ?_)
      repeat (first | refine CW.seq ?_ | refine CW.block ?_ | refine CW.skip ?_ | refine CW.label ?_ | refine CW.exit ?_ | refine CW.condT rfl ?_ | refine CW.condF rfl ?_)
      refine CW.reg ?_
      refine WL.val rfl (run_move) ?_
      refine WL.val rfl (run_add (c := ((l.length + (i + 1) : Nat) : Int)) rfl rfl (by omega) (by omega)) ?_
      refine WL.val rfl (run_assign) ?_
      refine WL.nil ?_
      repeat (first | refine CW.seq ?_ | refine CW.block ?_ | refine CW.skip ?_ | refine CW.label ?_ | refine CW.exit ?_)
      refine (show _ ∧ _ from ⟨rfl, _, ?_, i + 1, by omega, rfl, hs, rfl, rfl, rfl, rfl, trivial⟩)
      omega
    · repeat (first | refine CW.seq ?_ | refine CW.block ?_ | refine CW.skip ?_ | refine CW.label ?_ | refine CW.exit ?_ | refine CW.condT rfl ?_ | refine CW.condF rfl ?_)
      refine CW.reg ?_
      refine WL.val rfl (run_assign) ?_
      refine WL.nil ?_
      repeat (first | refine CW.seq ?_ | refine CW.block ?_ | refine CW.skip ?_ | refine CW.label ?_ | refine CW.exit ?_ | refine CW.condT rfl ?_ | refine CW.condF rfl ?_)
      refine CW.loop (fun m f w' => ∃ i cs, i ≤ l.length + 67 ∧ m = l.length + 67 - i ∧ cs.length = (l.length + 67) * 34 ∧ Step [b] [(b, blk 48 cs)] w0 w' ∧ Holds f [(5, .bool true), (6, .slice (some ⟨b, 0, none⟩) (l.length + 67) (l.length + 67)), (8, .int .i64 i)]) (m := l.length + 67) ?_ ?_
      · exact ⟨0, _, by omega, by omega, hlen, hs, rfl, rfl, rfl, trivial⟩
      · rintro m f w ⟨i, cs, hi, rfl, hcs, hs, hf⟩
        have hobt := hf.chain
        obtain ⟨g, rfl⟩ := hobt
        repeat (first | refine CW.seq ?_ | refine CW.block ?_ | refine CW.skip ?_ | refine CW.label ?_ | refine CW.exit ?_ | refine CW.condT rfl ?_ | refine CW.condF rfl ?_)
        refine CW.reg ?_
        refine WL.val rfl (run_move) ?_
        refine WL.val rfl (run_move) ?_
        refine WL.val rfl (run_lenSl Try.underlying22 rfl) ?_
        refine WL.val rfl (run_lss rfl rfl) ?_
        refine WL.nil ?_
        repeat (first | refine CW.seq ?_ | refine CW.block ?_ | refine CW.skip ?_ | refine CW.label ?_ | refine CW.exit ?_)
        first | refine CW.condP rfl (fun h => ?_) (fun h => ?_) | refine CW.cond rfl (fun h => ?_) (fun h => ?_)
        · have hlt : i < l.length + 67 := by omega
          repeat (first | refine CW.seq ?_ | refine CW.block ?_ | refine CW.skip ?_ | refine CW.label ?_ | refine CW.exit ?_ | refine CW.condT rfl ?_ | refine CW.condF rfl ?_)
          refine CW.reg ?_
          refine WL.val rfl (run_move) ?_
          refine WL.val rfl (run_move) ?_
          refine WL.val rfl (run_build rfl (bld_ent _ _ _)) ?_
          first | refine WL.val rfl (run_ixSlN Try.underlying22 ty48 rfl rfl (by omega)) ?_ | refine WL.val rfl (run_ixSl Try.underlying22 ty48 rfl rfl (by omega)) ?_
          refine WL.storeN ty48 rfl rfl (rfl) (Ent.cells1 _) (hs) (by first | (simp; done) | omega | (simp only [List.length_append, List.length_replicate, List.length_cons, List.length_nil, List.length_set]; omega) | (simp [Ent.cells, u8s]; done) | exact Nat.le_of_ble_eq_true rfl) (fun w hs => ?_)
          refine WL.nil ?_
          repeat (first | refine CW.seq ?_ | refine CW.block ?_ | refine CW.skip ?_ | refine CW.label ?_ | refine CW.exit ?_ | refine CW.condT rfl ?_ | refine CW.condF rfl ?_)
          refine CW.reg ?_
          refine WL.val rfl (run_move) ?_
          refine WL.val rfl (run_add (c := ((i + 1 : Nat) : Int)) rfl rfl (by omega) (by omega)) ?_
          refine WL.val rfl (run_assign) ?_
          refine WL.nil ?_
          repeat (first | refine CW.seq ?_ | refine CW.block ?_ | refine CW.skip ?_ | refine CW.label ?_ | refine CW.exit ?_)
          refine (show _ ∧ _ from ⟨rfl, _, ?_, i + 1, _, by omega, rfl, ?_, hs, rfl, rfl, rfl, trivial⟩)
          · omega
          · rw [length_splice (by rw [Ent.cells_len ⟨rfl, by decide, by decide, by decide⟩]; omega), hcs]
        · repeat (first | refine CW.seq ?_ | refine CW.block ?_ | refine CW.skip ?_ | refine CW.label ?_ | refine CW.exit ?_ | refine CW.condT rfl ?_ | refine CW.condF rfl ?_)
          refine CW.reg ?_
          refine WL.val rfl (run_move) ?_
          refine WL.val rfl (run_assign) ?_
          refine WL.nil ?_
          repeat (first | refine CW.seq ?_ | refine CW.block ?_ | refine CW.skip ?_ | refine CW.label ?_ | refine CW.exit ?_ | refine CW.condT rfl ?_ | refine CW.condF rfl ?_)
          refine CW.ret ?_
          refine fin_ret1 rfl ?_
          exact ⟨rfl, hs.clear⟩
end Go.Gx
