/- Bytes lent and kept (chapter 2's law). -/
import Derived.Test.YtkdmkjlchlcebaaRR4
namespace Go.Gx
open Go.Proofs
set_option linter.unusedVariables false
set_option linter.unusedSimpArgs false
set_option maxRecDepth 100000

def pads (n : Nat) : List Value := List.replicate n (.int .u8 169)
theorem pads_get {n i : Nat} (h : i < n) : (pads n)[i]? = some (.int .u8 169) := by simp [pads, h]
def LendS (s : List UInt8) : Obj := blk 5 (u8s s ++ pads 67)

theorem Sl.form {w : World} {sz n : Nat} {v : Value} {cs : List Value} (h : Sl w sz v n cs) : ∃ a c, v = .slice a n c := by
  obtain ⟨_, ⟨_, c, rfl, h0⟩ | ⟨b, off, c, rfl, _⟩⟩ := h
  · exact ⟨_, _, by rw [h0]⟩
  · exact ⟨_, _, rfl⟩

theorem lend2_spec {v : Value} {s : List UInt8} (w0 : World) (hl : Sl w0 1 v s.length (u8s s)) (hb : s.length ≤ 4398046511104) : Calls Try.prog 18 #[v] w0 fun e w' => ∃ b, e = .returned (.slice (some ⟨b, 0, none⟩) s.length (s.length + 67)) ∧ Step [] [(b, LendS s)] w0 w' := by
  have hs : Step [] [] w0 w0 := Step.refl w0
  have hobt := hl.form
  obtain ⟨a, c, rfl⟩ := hobt
  refine calls (n := 27) Try.func18 rfl rfl rfl ?_
  repeat (first | refine CW.seq ?_ | refine CW.block ?_ | refine CW.skip ?_ | refine CW.label ?_ | refine CW.exit ?_ | refine CW.condT rfl ?_ | refine CW.condF rfl ?_)
  refine CW.reg ?_
  refine WL.val rfl (run_assign) ?_
  refine WL.nil ?_
  repeat (first | refine CW.seq ?_ | refine CW.block ?_ | refine CW.skip ?_ | refine CW.label ?_ | refine CW.exit ?_ | refine CW.condT rfl ?_ | refine CW.condF rfl ?_)
  refine CW.reg ?_
  refine WL.val rfl (run_move) ?_
  refine WL.val rfl (run_lenSl Try.underlying29 rfl) ?_
  refine WL.val rfl (run_add (c := ((s.length + 67 : Nat) : Int)) rfl rfl (by omega) (by omega)) ?_
  refine WL.makeSlice (k := s.length + 67) Try.underlying29 ty5 rfl (by omega) (by omega) rfl rfl rfl hs (fun b8 w hs => ?_)
  refine WL.val rfl (run_assign) ?_
  refine WL.nil ?_
  have hz : ((List.replicate (s.length + 67) [Value.int .u8 0]).flatten).length = s.length + 67 := by simp
  generalize (List.replicate (s.length + 67) [Value.int .u8 0]).flatten = zs at hs hz
  repeat (first | refine CW.seq ?_ | refine CW.block ?_ | refine CW.skip ?_ | refine CW.label ?_ | refine CW.exit ?_ | refine CW.condT rfl ?_ | refine CW.condF rfl ?_)
  refine CW.reg ?_
  refine WL.val rfl (run_move) ?_
  refine WL.val rfl (run_move) ?_
  refine WL.copy Try.underlying29 ty5 rfl rfl (hs) (hl.step0 hs) (Cells1.u8s s) (by first | omega | exact Nat.le_of_ble_eq_true rfl | (simp [Ent.cells, u8s]; done)) (fun k hk => by cases hk; rfl) (fun w hs => ⟨fun k hk => ?_, fun h => by cases h⟩)
  cases hk
  refine WL.nil ?_
  rw [Nat.min_eq_left (by omega), Nat.mul_one, ← u8s_len s, List.take_length] at hs
  have hs0 : Step [] [(b8, blk 5 (u8s s ++ pads 0 ++ zs.drop s.length))] w0 w := by
    have : splice zs 0 (u8s s) = u8s s ++ pads 0 ++ zs.drop s.length := by simp [splice, pads, u8s]
    rw [← this]; exact hs
  repeat (first | refine CW.seq ?_ | refine CW.block ?_ | refine CW.skip ?_ | refine CW.label ?_ | refine CW.exit ?_ | refine CW.condT rfl ?_ | refine CW.condF rfl ?_)
  refine CW.reg ?_
  refine WL.val rfl (run_move) ?_
  refine WL.val rfl (run_lenSl Try.underlying29 rfl) ?_
  refine WL.val rfl (run_assign) ?_
  refine WL.nil ?_
  repeat (first | refine CW.seq ?_ | refine CW.block ?_ | refine CW.skip ?_ | refine CW.label ?_ | refine CW.exit ?_ | refine CW.condT rfl ?_ | refine CW.condF rfl ?_)
  refine CW.loop (fun m f w' => ∃ j more, j ≤ 67 ∧ m = 67 - j ∧ Step [] [(b8, blk 5 (u8s s ++ pads j ++ more))] w0 w' ∧ more.length = 67 - j ∧ Holds f [(0, .slice a s.length c), (3, .slice (some ⟨b8, 0, none⟩) (s.length + 67) (s.length + 67)), (4, .int .i64 (s.length + j : Nat))]) (m := 67) ?_ ?_
  · exact ⟨0, _, by omega, rfl, hs0, by simp [hz], rfl, rfl, rfl, trivial⟩
  · rintro m f w ⟨j, more, hj, rfl, hs, hm, hf⟩
    have hobt := hf.chain
    obtain ⟨g, rfl⟩ := hobt
    repeat (first | refine CW.seq ?_ | refine CW.block ?_ | refine CW.skip ?_ | refine CW.label ?_ | refine CW.exit ?_ | refine CW.condT rfl ?_ | refine CW.condF rfl ?_)
    refine CW.reg ?_
    refine WL.val rfl (run_move) ?_
    refine WL.val rfl (run_move) ?_
    refine WL.val rfl (run_lenSl Try.underlying29 rfl) ?_
    refine WL.val rfl (run_lss rfl rfl) ?_
    refine WL.nil ?_
    repeat (first | refine CW.seq ?_ | refine CW.block ?_ | refine CW.skip ?_ | refine CW.label ?_ | refine CW.exit ?_)
    first | refine CW.condP rfl (fun h => ?_) (fun h => ?_) | refine CW.cond rfl (fun h => ?_) (fun h => ?_)
    · have hlt : j < 67 := by omega
      have hlen : (u8s s ++ pads j).length = s.length + j := by simp [u8s, pads]
      have hlen2 : (u8s s ++ pads j ++ more).length = s.length + 67 := by rw [List.length_append, hlen, hm]; omega
      repeat (first | refine CW.seq ?_ | refine CW.block ?_ | refine CW.skip ?_ | refine CW.label ?_ | refine CW.exit ?_ | refine CW.condT rfl ?_ | refine CW.condF rfl ?_)
      refine CW.reg ?_
      refine WL.val rfl (run_move) ?_
      refine WL.val rfl (run_move) ?_
      first | refine WL.val rfl (run_ixSlN Try.underlying29 ty5 rfl rfl (by omega)) ?_ | refine WL.val rfl (run_ixSl Try.underlying29 ty5 rfl rfl (by omega)) ?_
      first | refine WL.store1 ty5 rfl rfl (rfl) hs (by first | (simp; done) | omega | (simp only [List.length_append, List.length_replicate, List.length_cons, List.length_nil, List.length_set]; omega) | (simp [Ent.cells, u8s]; done) | exact Nat.le_of_ble_eq_true rfl) (fun w hs => ?_) | refine WL.store1_1 ty5 rfl rfl (rfl) hs (by first | (simp; done) | omega | (simp only [List.length_append, List.length_replicate, List.length_cons, List.length_nil, List.length_set]; omega) | (simp [Ent.cells, u8s]; done) | exact Nat.le_of_ble_eq_true rfl) (fun w hs => ?_) | refine WL.store1_2 ty5 rfl rfl (rfl) hs (by first | (simp; done) | omega | (simp only [List.length_append, List.length_replicate, List.length_cons, List.length_nil, List.length_set]; omega) | (simp [Ent.cells, u8s]; done) | exact Nat.le_of_ble_eq_true rfl) (fun w hs => ?_) | refine WL.store1_3 ty5 rfl rfl (rfl) hs (by first | (simp; done) | omega | (simp only [List.length_append, List.length_replicate, List.length_cons, List.length_nil, List.length_set]; omega) | (simp [Ent.cells, u8s]; done) | exact Nat.le_of_ble_eq_true rfl) (fun w hs => ?_) | refine WL.store1_4 ty5 rfl rfl (rfl) hs (by first | (simp; done) | omega | (simp only [List.length_append, List.length_replicate, List.length_cons, List.length_nil, List.length_set]; omega) | (simp [Ent.cells, u8s]; done) | exact Nat.le_of_ble_eq_true rfl) (fun w hs => ?_) | refine WL.store1 ty5 rfl rfl (rfl) hs (by first | (simp; done) | omega | (simp only [List.length_append, List.length_replicate, List.length_cons, List.length_nil, List.length_set]; omega) | (simp [Ent.cells, u8s]; done) | exact Nat.le_of_ble_eq_true rfl) (fun w hs => ?_)
      refine WL.nil ?_
      repeat (first | refine CW.seq ?_ | refine CW.block ?_ | refine CW.skip ?_ | refine CW.label ?_ | refine CW.exit ?_ | refine CW.condT rfl ?_ | refine CW.condF rfl ?_)
      refine CW.reg ?_
      refine WL.val rfl (run_move) ?_
      refine WL.val rfl (run_add (c := ((s.length + (j + 1) : Nat) : Int)) rfl rfl (by omega) (by omega)) ?_
      refine WL.val rfl (run_assign) ?_
      refine WL.nil ?_
      repeat (first | refine CW.seq ?_ | refine CW.block ?_ | refine CW.skip ?_ | refine CW.label ?_ | refine CW.exit ?_)
      refine (show _ ∧ _ from ⟨rfl, _, ?_, j + 1, more.drop 1, by omega, rfl, ?_, ?_, rfl, rfl, rfl, trivial⟩)
      · omega
      · match more, hm with
        | [], hm => simp at hm; omega
        | x :: more, hm =>
          have e : (u8s s ++ pads j ++ x :: more).set (0 + (s.length + j) * 1) (Value.int .u8 169) = u8s s ++ pads (j + 1) ++ more := by
            rw [Nat.zero_add, Nat.mul_one, ← hlen, List.set_append_right _ _ (Nat.le_refl _), Nat.sub_self]
            simp [pads, List.replicate_succ', List.append_assoc]
          exact hs.cast e
      · simp [hm]; omega
    · obtain rfl : j = 67 := by omega
      obtain rfl : more = [] := List.eq_nil_of_length_eq_zero (by omega)
      repeat (first | refine CW.seq ?_ | refine CW.block ?_ | refine CW.skip ?_ | refine CW.label ?_ | refine CW.exit ?_ | refine CW.condT rfl ?_ | refine CW.condF rfl ?_)
      refine CW.reg ?_
      refine WL.val rfl (run_move) ?_
      refine WL.val rfl (run_move) ?_
      refine WL.val rfl (run_lenSl Try.underlying29 rfl) ?_
      refine WL.val rfl (run_sliceSl0  Try.underlying29 ty5 rfl rfl rfl (by simp) (by omega) (by omega)) ?_
      refine WL.val rfl (run_assign) ?_
      refine WL.nil ?_
      repeat (first | refine CW.seq ?_ | refine CW.block ?_ | refine CW.skip ?_ | refine CW.label ?_ | refine CW.exit ?_ | refine CW.condT rfl ?_ | refine CW.condF rfl ?_)
      refine CW.ret ?_
      refine fin_ret1 rfl ?_
      rw [List.append_nil] at hs
      exact ⟨b8, rfl, hs⟩

theorem lent2 {S : List Nat} {L : List (Nat × Obj)} {w0 w : World} {b c : Nat} {s : List UInt8} (hs : Step S ((b, LendS s) :: L) w0 w) : Sl w 1 (.slice (some ⟨b, 0, none⟩) s.length c) s.length (u8s s) :=
  .mk (by simp [u8s]) (At.of_blk (T := 5) hs.hd).left

theorem kept2_spec {u : Value} {s : List UInt8} {b : Nat} (w0 : World) (hl : Sl w0 1 u s.length (u8s s)) (hbd : s.length ≤ 4398046511104) (hb : w0.heap[b]? = some (LendS s)) :
    Calls Try.prog 21 #[.slice (some ⟨b, 0, none⟩) s.length (s.length + 67), u] w0 fun e w' => e = .returned (.bool true) ∧ Step [b] [] w0 w' := by
  have hs : Step [b] [(b, LendS s)] w0 w0 := Step.start (L := [(b, LendS s)]) (by simp) (by intro p hp; simp at hp; subst hp; exact hb)
  have hlen : (u8s s ++ pads 67).length = s.length + 67 := by simp [u8s, pads]
  refine calls (n := 45) Try.func21 rfl rfl rfl ?_
  repeat (first | refine CW.seq ?_ | refine CW.block ?_ | refine CW.skip ?_ | refine CW.label ?_ | refine CW.exit ?_ | refine CW.condT rfl ?_ | refine CW.condF rfl ?_)
  refine CW.reg ?_
  refine WL.val rfl (run_assign) ?_
  refine WL.nil ?_
  repeat (first | refine CW.seq ?_ | refine CW.block ?_ | refine CW.skip ?_ | refine CW.label ?_ | refine CW.exit ?_ | refine CW.condT rfl ?_ | refine CW.condF rfl ?_)
  refine CW.reg ?_
  refine WL.val rfl (run_move) ?_
  refine WL.val rfl (run_toString Try.underlying29 Try.underlying9 Try.underlying5 rfl (lent2 hs)) ?_
  refine WL.val rfl (run_move) ?_
  refine WL.val rfl (run_toString Try.underlying29 Try.underlying9 Try.underlying5 rfl (hl)) ?_
  refine WL.val rfl (run_bT (run_strEq rfl rfl) (by rfl)) ?_
  refine WL.val rfl (run_assign) ?_
  refine WL.nil ?_
  repeat (first | refine CW.seq ?_ | refine CW.block ?_ | refine CW.skip ?_ | refine CW.label ?_ | refine CW.exit ?_ | refine CW.condT rfl ?_ | refine CW.condF rfl ?_)
  refine CW.reg ?_
  refine WL.val rfl (run_move) ?_
  refine WL.val rfl (run_move) ?_
  refine WL.val rfl (run_lenSl Try.underlying29 rfl) ?_
  refine WL.val rfl (run_add (c := ((s.length + 67 : Nat) : Int)) rfl rfl (by omega) (by omega)) ?_
  refine WL.val rfl (run_sliceSl0  Try.underlying29 ty5 rfl rfl rfl (by simp) (by omega) (by omega)) ?_
  refine WL.val rfl (run_assign) ?_
  refine WL.nil ?_
  repeat (first | refine CW.seq ?_ | refine CW.block ?_ | refine CW.skip ?_ | refine CW.label ?_ | refine CW.exit ?_ | refine CW.condT rfl ?_ | refine CW.condF rfl ?_)
  refine CW.reg ?_
  refine WL.val rfl (run_move) ?_
  refine WL.val rfl (run_lenSl Try.underlying29 rfl) ?_
  refine WL.val rfl (run_assign) ?_
  refine WL.nil ?_
  repeat (first | refine CW.seq ?_ | refine CW.block ?_ | refine CW.skip ?_ | refine CW.label ?_ | refine CW.exit ?_ | refine CW.condT rfl ?_ | refine CW.condF rfl ?_)
  refine CW.loop (fun m f w' => ∃ i, i ≤ 67 ∧ m = 67 - i ∧ Step [b] [(b, LendS s)] w0 w' ∧ Holds f [(5, .bool true), (6, .slice (some ⟨b, 0, none⟩) (s.length + 67) (s.length + 67)), (7, .int .i64 (s.length + i : Nat))]) (m := 67) ?_ ?_
  · exact ⟨0, by omega, by omega, hs, rfl, rfl, rfl, trivial⟩
  · rintro m f w ⟨i, hi, rfl, hs, hf⟩
    have hobt := hf.chain
    obtain ⟨g, rfl⟩ := hobt
    repeat (first | refine CW.seq ?_ | refine CW.block ?_ | refine CW.skip ?_ | refine CW.label ?_ | refine CW.exit ?_ | refine CW.condT rfl ?_ | refine CW.condF rfl ?_)
    refine CW.reg ?_
    refine WL.val rfl (run_move) ?_
    refine WL.val rfl (run_move) ?_
    refine WL.val rfl (run_lenSl Try.underlying29 rfl) ?_
    refine WL.val rfl (run_lss rfl rfl) ?_
    refine WL.nil ?_
    repeat (first | refine CW.seq ?_ | refine CW.block ?_ | refine CW.skip ?_ | refine CW.label ?_ | refine CW.exit ?_)
    first | refine CW.condP rfl (fun h => ?_) (fun h => ?_) | refine CW.cond rfl (fun h => ?_) (fun h => ?_)
    · have hlt : i < 67 := by omega
      have hx : (u8s s ++ pads 67)[0 + (s.length + i) * 1]? = some (.int .u8 169) := by
        rw [List.getElem?_append_right (by rw [u8s_len]; omega)]
        exact pads_get (by rw [u8s_len]; omega)
      repeat (first | refine CW.seq ?_ | refine CW.block ?_ | refine CW.skip ?_ | refine CW.label ?_ | refine CW.exit ?_ | refine CW.condT rfl ?_ | refine CW.condF rfl ?_)
      refine CW.reg ?_
      refine WL.val rfl (run_move) ?_
      refine WL.val rfl (run_move) ?_
      refine WL.yes rfl rfl rfl ?_
      refine WL.val rfl (run_move) ?_
      refine WL.yes rfl rfl rfl ?_
      refine WL.val rfl (run_move) ?_
      refine WL.yes rfl rfl rfl ?_
      first | refine WL.val rfl (run_ixSlN Try.underlying29 ty5 rfl rfl (by omega)) ?_ | refine WL.val rfl (run_ixSl Try.underlying29 ty5 rfl rfl (by omega)) ?_
      refine WL.yes rfl rfl rfl ?_
      refine WL.val rfl (run_load1 ty5 rfl (hs.c0 hx)) ?_
      refine WL.yes rfl rfl rfl ?_
      refine WL.val rfl (run_bT (run_eql rfl rfl) (by rfl)) ?_
      first | refine WL.val rfl (run_pickT rfl) ?_ | refine WL.val rfl (run_pickF rfl) ?_
      refine WL.val rfl (run_assign) ?_
      refine WL.nil ?_
      repeat (first | refine CW.seq ?_ | refine CW.block ?_ | refine CW.skip ?_ | refine CW.label ?_ | refine CW.exit ?_ | refine CW.condT rfl ?_ | refine CW.condF rfl ?_)
      refine CW.reg ?_
      refine WL.val rfl (run_move) ?_
      refine WL.val rfl (run_add (c := ((s.length + (i + 1) : Nat) : Int)) rfl rfl (by omega) (by omega)) ?_
      refine WL.val rfl (run_assign) ?_
      refine WL.nil ?_
      repeat (first | refine CW.seq ?_ | refine CW.block ?_ | refine CW.skip ?_ | refine CW.label ?_ | refine CW.exit ?_)
      refine (show _ ∧ _ from ⟨rfl, _, ?_, i + 1, by omega, rfl, hs, rfl, rfl, rfl, trivial⟩)
      omega
    · repeat (first | refine CW.seq ?_ | refine CW.block ?_ | refine CW.skip ?_ | refine CW.label ?_ | refine CW.exit ?_ | refine CW.condT rfl ?_ | refine CW.condF rfl ?_)
      refine CW.reg ?_
      refine WL.val rfl (run_assign) ?_
      refine WL.nil ?_
      repeat (first | refine CW.seq ?_ | refine CW.block ?_ | refine CW.skip ?_ | refine CW.label ?_ | refine CW.exit ?_ | refine CW.condT rfl ?_ | refine CW.condF rfl ?_)
      refine CW.loop (fun m f w' => ∃ i cs, i ≤ s.length + 67 ∧ m = s.length + 67 - i ∧ cs.length = s.length + 67 ∧ Step [b] [(b, blk 5 cs)] w0 w' ∧ Holds f [(5, .bool true), (6, .slice (some ⟨b, 0, none⟩) (s.length + 67) (s.length + 67)), (8, .int .i64 i)]) (m := s.length + 67) ?_ ?_
      · exact ⟨0, _, by omega, by omega, hlen, hs, rfl, rfl, rfl, trivial⟩
      · rintro m f w ⟨i, cs, hi, rfl, hcs, hs, hf⟩
        have hobt := hf.chain
        obtain ⟨g, rfl⟩ := hobt
        repeat (first | refine CW.seq ?_ | refine CW.block ?_ | refine CW.skip ?_ | refine CW.label ?_ | refine CW.exit ?_ | refine CW.condT rfl ?_ | refine CW.condF rfl ?_)
        refine CW.reg ?_
        refine WL.val rfl (run_move) ?_
        refine WL.val rfl (run_move) ?_
        refine WL.val rfl (run_lenSl Try.underlying29 rfl) ?_
        refine WL.val rfl (run_lss rfl rfl) ?_
        refine WL.nil ?_
        repeat (first | refine CW.seq ?_ | refine CW.block ?_ | refine CW.skip ?_ | refine CW.label ?_ | refine CW.exit ?_)
        first | refine CW.condP rfl (fun h => ?_) (fun h => ?_) | refine CW.cond rfl (fun h => ?_) (fun h => ?_)
        · have hlt : i < s.length + 67 := by omega
          repeat (first | refine CW.seq ?_ | refine CW.block ?_ | refine CW.skip ?_ | refine CW.label ?_ | refine CW.exit ?_ | refine CW.condT rfl ?_ | refine CW.condF rfl ?_)
          refine CW.reg ?_
          refine WL.val rfl (run_move) ?_
          refine WL.val rfl (run_move) ?_
          first | refine WL.val rfl (run_ixSlN Try.underlying29 ty5 rfl rfl (by omega)) ?_ | refine WL.val rfl (run_ixSl Try.underlying29 ty5 rfl rfl (by omega)) ?_
          first | refine WL.store1 ty5 rfl rfl (rfl) hs (by first | (simp; done) | omega | (simp only [List.length_append, List.length_replicate, List.length_cons, List.length_nil, List.length_set]; omega) | (simp [Ent.cells, u8s]; done) | exact Nat.le_of_ble_eq_true rfl) (fun w hs => ?_) | refine WL.store1_1 ty5 rfl rfl (rfl) hs (by first | (simp; done) | omega | (simp only [List.length_append, List.length_replicate, List.length_cons, List.length_nil, List.length_set]; omega) | (simp [Ent.cells, u8s]; done) | exact Nat.le_of_ble_eq_true rfl) (fun w hs => ?_) | refine WL.store1_2 ty5 rfl rfl (rfl) hs (by first | (simp; done) | omega | (simp only [List.length_append, List.length_replicate, List.length_cons, List.length_nil, List.length_set]; omega) | (simp [Ent.cells, u8s]; done) | exact Nat.le_of_ble_eq_true rfl) (fun w hs => ?_) | refine WL.store1_3 ty5 rfl rfl (rfl) hs (by first | (simp; done) | omega | (simp only [List.length_append, List.length_replicate, List.length_cons, List.length_nil, List.length_set]; omega) | (simp [Ent.cells, u8s]; done) | exact Nat.le_of_ble_eq_true rfl) (fun w hs => ?_) | refine WL.store1_4 ty5 rfl rfl (rfl) hs (by first | (simp; done) | omega | (simp only [List.length_append, List.length_replicate, List.length_cons, List.length_nil, List.length_set]; omega) | (simp [Ent.cells, u8s]; done) | exact Nat.le_of_ble_eq_true rfl) (fun w hs => ?_) | refine WL.store1 ty5 rfl rfl (rfl) hs (by first | (simp; done) | omega | (simp only [List.length_append, List.length_replicate, List.length_cons, List.length_nil, List.length_set]; omega) | (simp [Ent.cells, u8s]; done) | exact Nat.le_of_ble_eq_true rfl) (fun w hs => ?_)
          refine WL.nil ?_
          repeat (first | refine CW.seq ?_ | refine CW.block ?_ | refine CW.skip ?_ | refine CW.label ?_ | refine CW.exit ?_ | refine CW.condT rfl ?_ | refine CW.condF rfl ?_)
          refine CW.reg ?_
          refine WL.val rfl (run_move) ?_
          refine WL.val rfl (run_add (c := ((i + 1 : Nat) : Int)) rfl rfl (by omega) (by omega)) ?_
          refine WL.val rfl (run_assign) ?_
          refine WL.nil ?_
          repeat (first | refine CW.seq ?_ | refine CW.block ?_ | refine CW.skip ?_ | refine CW.label ?_ | refine CW.exit ?_)
          refine (show _ ∧ _ from ⟨rfl, _, ?_, i + 1, _, by omega, rfl, ?_, hs, rfl, rfl, rfl, trivial⟩)
          · omega
          · rw [List.length_set, hcs]
        · repeat (first | refine CW.seq ?_ | refine CW.block ?_ | refine CW.skip ?_ | refine CW.label ?_ | refine CW.exit ?_ | refine CW.condT rfl ?_ | refine CW.condF rfl ?_)
          refine CW.reg ?_
          refine WL.val rfl (run_move) ?_
          refine WL.val rfl (run_assign) ?_
          refine WL.nil ?_
          repeat (first | refine CW.seq ?_ | refine CW.block ?_ | refine CW.skip ?_ | refine CW.label ?_ | refine CW.exit ?_ | refine CW.condT rfl ?_ | refine CW.condF rfl ?_)
          refine CW.ret ?_
          refine fin_ret1 rfl ?_
          exact ⟨rfl, hs.clear⟩

theorem same_true {u v : Value} {l m : List Ent} (h : l = m) (w : World) (hu : Es w u l) (hv : Es w v m) : Calls Try.prog 22 #[u, v] w (Ret0 (.bool true) w) := by
  have := same_spec w hu hv
  rw [decide_eq_true h] at this
  exact this

theorem reads_spec {v : Value} {s : List UInt8} (w0 : World) (hl : Sl w0 1 v s.length (u8s s)) (hroom : Room v) (hbd : s.length ≤ 4398046511104) : Calls Try.prog 4 #[v] w0 fun e w' => e = .returned (.bool true) ∧ Step [] [] w0 w' := by
  have hs : Step [] [] w0 w0 := Step.refl w0
  refine calls (n := 35) Try.func4 rfl rfl rfl ?_
  repeat (first | refine CW.seq ?_ | refine CW.block ?_ | refine CW.skip ?_ | refine CW.label ?_ | refine CW.exit ?_ | refine CW.condT rfl ?_ | refine CW.condF rfl ?_)
  refine CW.reg ?_
  refine WL.val rfl (run_assign) ?_
  refine WL.nil ?_
  repeat (first | refine CW.seq ?_ | refine CW.block ?_ | refine CW.skip ?_ | refine CW.label ?_ | refine CW.exit ?_ | refine CW.condT rfl ?_ | refine CW.condF rfl ?_)
  refine CW.reg ?_
  refine WL.enter rfl (run_call en11 rfl rfl) (known_spec _) ?_
  rintro e w ⟨rfl, hq⟩
  refine ⟨_, rfl, ?_⟩
  replace hs := hs.callE hq
  first | refine WL.val rfl (run_notB rfl) ?_ | refine WL.val rfl (run_not rfl) ?_
  refine WL.nil ?_
  repeat (first | refine CW.seq ?_ | refine CW.block ?_ | refine CW.skip ?_ | refine CW.label ?_ | refine CW.exit ?_ | refine CW.condT rfl ?_ | refine CW.condF rfl ?_)
  refine CW.reg ?_
  refine WL.val rfl (run_move) ?_
  refine WL.enter rfl (run_call en18 rfl rfl) (lend2_spec _ (hl.step0 hs) hbd) ?_
  rintro e w ⟨b11, rfl, hq⟩
  refine ⟨_, rfl, ?_⟩
  replace hs := hs.call0 hq
  refine WL.val rfl (run_assign) ?_
  refine WL.nil ?_
  repeat (first | refine CW.seq ?_ | refine CW.block ?_ | refine CW.skip ?_ | refine CW.label ?_ | refine CW.exit ?_ | refine CW.condT rfl ?_ | refine CW.condF rfl ?_)
  refine CW.reg ?_
  refine WL.val rfl (run_move) ?_
  refine WL.enter rfl (run_call en19 rfl rfl) (decode_at (bs := s) _ (lent2 hs) (by omega)) ?_
  rintro e w ⟨u, Lu, rfl, hu, huo, hul, hq⟩
  refine ⟨_, rfl, ?_⟩
  replace hs := (hs.call0 hq).append_comm
  refine WL.val rfl (run_move) ?_
  refine WL.val rfl (run_extract rfl rfl) ?_
  refine WL.val rfl (run_extract rfl rfl) ?_
  refine WL.val rfl (run_assign) ?_
  refine WL.val rfl (run_assign) ?_
  refine WL.nil ?_
  repeat (first | refine CW.seq ?_ | refine CW.block ?_ | refine CW.skip ?_ | refine CW.label ?_ | refine CW.exit ?_ | refine CW.condT rfl ?_ | refine CW.condF rfl ?_)
  refine CW.reg ?_
  refine WL.val rfl (run_move) ?_
  refine WL.enter rfl (run_call en20 rfl rfl) (decodeR_at (bs := s) _ (hl.step0 hs.clear) hroom (by omega)) ?_
  rintro e w ⟨u2, Lu2, rfl, hu2, huo2, hul2, hq⟩
  refine ⟨_, rfl, ?_⟩
  replace hs := (hs.call0 hq).append_comm
  refine WL.val rfl (run_move) ?_
  refine WL.val rfl (run_extract rfl rfl) ?_
  refine WL.val rfl (run_extract rfl rfl) ?_
  refine WL.val rfl (run_assign) ?_
  refine WL.val rfl (run_assign) ?_
  refine WL.nil ?_
  repeat (first | refine CW.seq ?_ | refine CW.block ?_ | refine CW.skip ?_ | refine CW.label ?_ | refine CW.exit ?_ | refine CW.condT rfl ?_ | refine CW.condF rfl ?_)
  refine CW.reg ?_
  refine WL.val rfl (run_move) ?_
  refine WL.val rfl (run_move) ?_
  refine WL.enter rfl (run_call en21 rfl rfl) (kept2_spec _ (hl.step0 hs.clear) hbd (Step.hd (L := Lu ++ Lu2) hs)) ?_
  rintro e w ⟨rfl, hq⟩
  refine ⟨_, rfl, ?_⟩
  replace hs : Step [] (Lu ++ Lu2) w0 w := Step.call (L1 := [_]) (L := Lu ++ Lu2) (L' := []) hs hq
  refine WL.val rfl (run_move) ?_
  refine WL.yes rfl rfl rfl ?_
  refine WL.val rfl (run_move) ?_
  refine WL.yes rfl rfl rfl ?_
  refine WL.val rfl (run_move) ?_
  refine WL.yes rfl rfl rfl ?_
  refine WL.val rfl (run_bT (run_eql rfl rfl) (by rfl)) ?_
  first | refine WL.val rfl (run_pickT rfl) ?_ | refine WL.val rfl (run_pickF rfl) ?_
  refine WL.val rfl (run_move) ?_
  refine WL.yes rfl rfl rfl ?_
  refine WL.val rfl (run_move) ?_
  refine WL.yes rfl rfl rfl ?_
  refine WL.val rfl (run_move) ?_
  refine WL.yes rfl rfl rfl ?_
  refine WL.enter rfl (run_call en22 rfl rfl) (same_true rfl _ (hu.es huo (by omega) hs) (hu2.es huo2 (by omega) hs.append_comm)) ?_
  rintro e w ⟨rfl, hq⟩
  refine ⟨_, rfl, ?_⟩
  replace hs := hs.callE hq
  first | refine WL.val rfl (run_pickT rfl) ?_ | refine WL.val rfl (run_pickF rfl) ?_
  refine WL.val rfl (run_assign) ?_
  refine WL.nil ?_
  repeat (first | refine CW.seq ?_ | refine CW.block ?_ | refine CW.skip ?_ | refine CW.label ?_ | refine CW.exit ?_ | refine CW.condT rfl ?_ | refine CW.condF rfl ?_)
  refine CW.ret ?_
  refine fin_ret1 rfl ?_
  exact ⟨rfl, hs.clear⟩
end Go.Gx
