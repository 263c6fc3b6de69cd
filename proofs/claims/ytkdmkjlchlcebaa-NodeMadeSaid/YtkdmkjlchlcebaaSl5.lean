/- The document's With, Without, Find; on rising lists the program's are the same. -/
import Derived.Test.YtkdmkjlchlcebaaSl4
namespace Go.Gx
open Go.Proofs
set_option linter.unusedVariables false
set_option linter.unusedSimpArgs false
set_option maxRecDepth 100000

def remR (n : List UInt8) (l : List Ent) : List Ent := l.filter fun x => decide (x.name ≠ n)
def findR (n : List UInt8) : List Ent → Ent × Bool
  | [] => (zE, false)
  | x :: l => if x.name = n then (x, true) else findR n l
def withR (x : Ent) : Bool → List Ent → List Ent
  | put, [] => if put then [] else [x]
  | put, y :: l => (if put = false ∧ Op.bytesLess y.name x.name = false then [x] else []) ++ (if y.name ≠ x.name then [y] else []) ++ withR x (put || !Op.bytesLess y.name x.name) l

theorem remR_take {l : List Ent} {n : List UInt8} {k : Nat} (hk : k < l.length) : remR n (l.take (k + 1)) = remR n (l.take k) ++ (if (l[k]).name ≠ n then [l[k]] else []) := by
  rw [List.take_succ_eq_append_getElem hk, remR, List.filter_append]
  congr 1
  by_cases h : (l[k]).name = n <;> simp [h]

theorem remR_ok {l : List Ent} (n : List UInt8) (h : Oks l) : Oks (remR n l) := fun x hx => h x (List.mem_filter.1 hx).1

theorem lessR_spec {v : Value} {l : List Ent} {n : List UInt8} (w0 : World) (hl : Es w0 v l) (hbb : l.length ≤ 1000000) :
    Calls Try.prog 25 #[v, str n] w0 fun e w' => ∃ u Lu, e = .returned u ∧ OwnSl 48 34 u (remR n l).length (rows (remR n l)) Lu ∧ Step [] Lu w0 w' := by
  have hs : Step [] [] w0 w0 := Step.refl w0
  have hobt := hl.1.form
  obtain ⟨a, c, rfl⟩ := hobt
  refine calls (n := 28) Try.func25 rfl rfl rfl ?_
  repeat (first | refine CW.seq ?_ | refine CW.block ?_ | refine CW.skip ?_ | refine CW.exit ?_ | refine CW.condT rfl ?_ | refine CW.condF rfl ?_)
  refine CW.reg ?_
  refine WL.val rfl (run_assign) ?_
  refine WL.nil ?_
  repeat (first | refine CW.seq ?_ | refine CW.block ?_ | refine CW.skip ?_ | refine CW.exit ?_ | refine CW.condT rfl ?_ | refine CW.condF rfl ?_)
  refine CW.reg ?_
  refine WL.val rfl (run_assign) ?_
  refine WL.nil ?_
  repeat (first | refine CW.seq ?_ | refine CW.block ?_ | refine CW.skip ?_ | refine CW.exit ?_ | refine CW.condT rfl ?_ | refine CW.condF rfl ?_)
  refine CW.reg ?_
  refine WL.val rfl (run_assign) ?_
  refine WL.nil ?_
  repeat (first | refine CW.seq ?_ | refine CW.block ?_ | refine CW.skip ?_ | refine CW.exit ?_ | refine CW.condT rfl ?_ | refine CW.condF rfl ?_)
  refine CW.loop (fun m f w' => ∃ k u Lu, k ≤ l.length ∧ m = l.length - k ∧ OwnSl 48 34 u (remR n (l.take k)).length (rows (remR n (l.take k))) Lu ∧ Step [] Lu w0 w' ∧ Holds f [(0, .slice a l.length c), (1, str n), (5, u), (6, .int .i64 k)]) (m := l.length) ?_ ?_
  · exact ⟨0, _, [], by omega, by omega, .nil _ _, hs, rfl, rfl, rfl, rfl, trivial⟩
  · rintro m f w ⟨k, u, Lu, hk, rfl, hu, hs, hf⟩
    have hobt := hf.chain
    obtain ⟨g, rfl⟩ := hobt
    repeat (first | refine CW.seq ?_ | refine CW.block ?_ | refine CW.skip ?_ | refine CW.exit ?_ | refine CW.condT rfl ?_ | refine CW.condF rfl ?_)
    refine CW.reg ?_
    refine WL.val rfl (run_move) ?_
    refine WL.val rfl (run_move) ?_
    refine WL.val rfl (run_lenSl Try.underlying22 rfl) ?_
    refine WL.val rfl (run_lss rfl rfl) ?_
    refine WL.nil ?_
    repeat (first | refine CW.seq ?_ | refine CW.block ?_ | refine CW.skip ?_ | refine CW.exit ?_)
    first | refine CW.condP rfl (fun h => ?_) (fun h => ?_) | refine CW.cond rfl (fun h => ?_) (fun h => ?_)
    · have hlt : k < l.length := by omega
      rcases hl.cases with ⟨c', hv', h0⟩ | ⟨b, off, c', hv', hat⟩
      · rw [h0] at hlt; simp at hlt
      obtain ⟨rfl, rfl⟩ : a = some ⟨b, off, none⟩ ∧ c = c' := by cases hv'; exact ⟨rfl, rfl⟩
      have hok := hl.2.1.get hlt
      have hyl := Ent.cells_len hok
      have hax : ∀ {w : World} {L : List (Nat × Obj)}, Step [] L w0 w → At w b (off + k * 34) (l[k]).cells := fun hs => (hat.ent hl.2.1 hlt).step hs (by simp)
      have hrt := remR_take (n := n) hlt
      by_cases hn : (l[k]).name = n
      · rw [if_neg (by simpa using hn), List.append_nil] at hrt
        repeat (first | refine CW.seq ?_ | refine CW.block ?_ | refine CW.skip ?_ | refine CW.exit ?_ | refine CW.condT rfl ?_ | refine CW.condF rfl ?_)
        refine CW.reg ?_
        refine WL.val rfl (run_move) ?_
        refine WL.val rfl (run_move) ?_
        first | refine WL.val rfl (run_ixSlN Try.underlying22 ty48 rfl rfl (by omega)) ?_ | refine WL.val rfl (run_ixSl Try.underlying22 ty48 rfl rfl (by omega)) ?_
        refine WL.val rfl (run_field (o' := 0) Try.underlying48 rfl ty9 rfl rfl rfl) ?_
        refine WL.val rfl (run_load1 ty9 rfl ((hax hs).cell (j := 0) rfl)) ?_
        refine WL.val rfl (run_move) ?_
        refine WL.val rfl (run_bF (run_strNe rfl rfl) (by simpa using hn)) ?_
        refine WL.nil ?_
        repeat (first | refine CW.seq ?_ | refine CW.block ?_ | refine CW.skip ?_ | refine CW.exit ?_ | refine CW.condT rfl ?_ | refine CW.condF rfl ?_)
        refine CW.reg ?_
        refine WL.val rfl (run_move) ?_
        refine WL.val rfl (run_add (c := ((k + 1 : Nat) : Int)) rfl rfl (by omega) (by omega)) ?_
        refine WL.val rfl (run_assign) ?_
        refine WL.nil ?_
        repeat (first | refine CW.seq ?_ | refine CW.block ?_ | refine CW.skip ?_ | refine CW.exit ?_)
        refine (show _ ∧ _ from ⟨rfl, _, ?_, k + 1, u, Lu, by omega, rfl, by rw [hrt]; exact hu, hs, rfl, rfl, rfl, rfl, trivial⟩)
        omega
      · rw [if_pos hn] at hrt
        have hlen : (remR n (l.take k)).length ≤ k := by
          have := List.length_filter_le (fun x : Ent => decide (x.name ≠ n)) (l.take k)
          rw [List.length_take] at this
          unfold remR
          omega
        have hobt := hu.form
        obtain ⟨ua, uc, rfl⟩ := hobt
        repeat (first | refine CW.seq ?_ | refine CW.block ?_ | refine CW.skip ?_ | refine CW.exit ?_ | refine CW.condT rfl ?_ | refine CW.condF rfl ?_)
        refine CW.reg ?_
        refine WL.val rfl (run_move) ?_
        refine WL.val rfl (run_move) ?_
        first | refine WL.val rfl (run_ixSlN Try.underlying22 ty48 rfl rfl (by omega)) ?_ | refine WL.val rfl (run_ixSl Try.underlying22 ty48 rfl rfl (by omega)) ?_
        refine WL.val rfl (run_field (o' := 0) Try.underlying48 rfl ty9 rfl rfl rfl) ?_
        refine WL.val rfl (run_load1 ty9 rfl ((hax hs).cell (j := 0) rfl)) ?_
        refine WL.val rfl (run_move) ?_
        refine WL.val rfl (run_bT (run_strNe rfl rfl) (by exact hn)) ?_
        refine WL.nil ?_
        repeat (first | refine CW.seq ?_ | refine CW.block ?_ | refine CW.skip ?_ | refine CW.exit ?_ | refine CW.condT rfl ?_ | refine CW.condF rfl ?_)
        refine CW.reg ?_
        refine WL.val rfl (run_move) ?_
        refine WL.val rfl (run_move) ?_
        refine WL.val rfl (run_move) ?_
        first | refine WL.val rfl (run_ixSlN Try.underlying22 ty48 rfl rfl (by omega)) ?_ | refine WL.val rfl (run_ixSl Try.underlying22 ty48 rfl rfl (by omega)) ?_
        refine WL.val rfl (run_loadN ty48 rfl hyl (hax hs)) ?_
        refine WL.buildSlice (cs := (l[k]).cells) Try.underlying22 ty48 rfl (by decide) rfl (filled1 hyl rfl) rfl hs (fun b25 w hs => ?_)
        have hsl : Sl w 34 (.slice (some ⟨b25, 0, none⟩) 1 1) 1 (l[k]).cells := .own1 hs (by rw [hyl])
        refine WL.append Try.underlying22 Try.underlying22 ty48 rfl (by decide) rfl rfl (hu) ((Step.append_comm (L1 := [_]) hs)) (hsl) ((l[k]).cells1) (by first | omega | (simp only [List.length_append, List.length_cons, List.length_nil]; omega)) rfl (fun v26 Lv26 w hv26 hs => ?_)
        refine WL.val rfl (run_assign) ?_
        refine WL.nil ?_
        repeat (first | refine CW.seq ?_ | refine CW.block ?_ | refine CW.skip ?_ | refine CW.exit ?_ | refine CW.condT rfl ?_ | refine CW.condF rfl ?_)
        refine CW.reg ?_
        refine WL.val rfl (run_move) ?_
        refine WL.val rfl (run_add (c := ((k + 1 : Nat) : Int)) rfl rfl (by omega) (by omega)) ?_
        refine WL.val rfl (run_assign) ?_
        refine WL.nil ?_
        repeat (first | refine CW.seq ?_ | refine CW.block ?_ | refine CW.skip ?_ | refine CW.exit ?_)
        refine (show _ ∧ _ from ⟨rfl, _, ?_, k + 1, _, _, by omega, rfl, ?_, Step.dropR hs, rfl, rfl, rfl, rfl, trivial⟩)
        · omega
        · rw [hrt, List.length_append, rows_append, rows_one]
          exact hv26
    · obtain rfl : k = l.length := by omega
      rw [List.take_length] at hu
      repeat (first | refine CW.seq ?_ | refine CW.block ?_ | refine CW.skip ?_ | refine CW.exit ?_ | refine CW.condT rfl ?_ | refine CW.condF rfl ?_)
      refine CW.reg ?_
      refine WL.val rfl (run_move) ?_
      refine WL.val rfl (run_assign) ?_
      refine WL.nil ?_
      repeat (first | refine CW.seq ?_ | refine CW.block ?_ | refine CW.skip ?_ | refine CW.exit ?_ | refine CW.condT rfl ?_ | refine CW.condF rfl ?_)
      refine CW.ret ?_
      refine fin_ret1 rfl ?_
      exact ⟨u, Lu, rfl, hu, hs⟩

theorem findR_spec {v : Value} {l : List Ent} {n : List UInt8} (w0 : World) (hl : Es w0 v l) :
    Calls Try.prog 27 #[v, str n] w0 fun e w' => e = .returned (.tuple #[.agg (findR n l).1.cells.toArray, .bool (findR n l).2]) ∧ Step [] [] w0 w' := by
  have hs : Step [] [] w0 w0 := Step.refl w0
  have hbl := hl.2.2
  have hobt := hl.1.form
  obtain ⟨a, c, rfl⟩ := hobt
  refine calls (n := 25) Try.func27 rfl rfl rfl ?_
  repeat (first | refine CW.seq ?_ | refine CW.block ?_ | refine CW.skip ?_ | refine CW.exit ?_ | refine CW.condT rfl ?_ | refine CW.condF rfl ?_)
  refine CW.reg ?_
  refine WL.alloc ty48 rfl hs (fun b4 w hs => ?_)
  refine WL.val rfl (run_assign) ?_
  refine WL.nil ?_
  have hz : Step [] [(b4, blk 48 zE.cells)] w0 w := hs
  replace hs := hz
  repeat (first | refine CW.seq ?_ | refine CW.block ?_ | refine CW.skip ?_ | refine CW.exit ?_ | refine CW.condT rfl ?_ | refine CW.condF rfl ?_)
  refine CW.reg ?_
  refine WL.val rfl (run_assign) ?_
  refine WL.nil ?_
  repeat (first | refine CW.seq ?_ | refine CW.block ?_ | refine CW.skip ?_ | refine CW.exit ?_ | refine CW.condT rfl ?_ | refine CW.condF rfl ?_)
  refine CW.loop (fun m f w' => ∃ k, k ≤ l.length ∧ m = l.length - k ∧ findR n l = findR n (l.drop k) ∧ Step [] [(b4, blk 48 zE.cells)] w0 w' ∧ Holds f [(0, .slice a l.length c), (1, str n), (4, .pointer (some ⟨b4, 0, none⟩)), (6, .int .i64 k)]) (m := l.length) ?_ ?_
  · exact ⟨0, by omega, by omega, rfl, hs, rfl, rfl, rfl, rfl, trivial⟩
  · rintro m f w ⟨k, hk, rfl, hfr, hs, hf⟩
    have hobt := hf.chain
    obtain ⟨g, rfl⟩ := hobt
    repeat (first | refine CW.seq ?_ | refine CW.block ?_ | refine CW.skip ?_ | refine CW.exit ?_ | refine CW.condT rfl ?_ | refine CW.condF rfl ?_)
    refine CW.reg ?_
    refine WL.val rfl (run_move) ?_
    refine WL.val rfl (run_move) ?_
    refine WL.val rfl (run_lenSl Try.underlying22 rfl) ?_
    refine WL.val rfl (run_lss rfl rfl) ?_
    refine WL.nil ?_
    repeat (first | refine CW.seq ?_ | refine CW.block ?_ | refine CW.skip ?_ | refine CW.exit ?_)
    first | refine CW.condP rfl (fun h => ?_) (fun h => ?_) | refine CW.cond rfl (fun h => ?_) (fun h => ?_)
    · have hlt : k < l.length := by omega
      rcases hl.cases with ⟨c', hv', h0⟩ | ⟨b, off, c', hv', hat⟩
      · rw [h0] at hlt; simp at hlt
      obtain ⟨rfl, rfl⟩ : a = some ⟨b, off, none⟩ ∧ c = c' := by cases hv'; exact ⟨rfl, rfl⟩
      have hok := hl.2.1.get hlt
      have hyl := Ent.cells_len hok
      have hax : ∀ {w : World} {L : List (Nat × Obj)}, Step [] L w0 w → At w b (off + k * 34) (l[k]).cells := fun hs => (hat.ent hl.2.1 hlt).step hs (by simp)
      rw [List.drop_eq_getElem_cons hlt, findR] at hfr
      by_cases hn : (l[k]).name = n
      · rw [if_pos hn] at hfr
        repeat (first | refine CW.seq ?_ | refine CW.block ?_ | refine CW.skip ?_ | refine CW.exit ?_ | refine CW.condT rfl ?_ | refine CW.condF rfl ?_)
        refine CW.reg ?_
        refine WL.val rfl (run_move) ?_
        refine WL.val rfl (run_move) ?_
        first | refine WL.val rfl (run_ixSlN Try.underlying22 ty48 rfl rfl (by omega)) ?_ | refine WL.val rfl (run_ixSl Try.underlying22 ty48 rfl rfl (by omega)) ?_
        refine WL.val rfl (run_field (o' := 0) Try.underlying48 rfl ty9 rfl rfl rfl) ?_
        refine WL.val rfl (run_load1 ty9 rfl ((hax hs).cell (j := 0) rfl)) ?_
        refine WL.val rfl (run_move) ?_
        refine WL.val rfl (run_bT (run_strEq rfl rfl) (by exact hn)) ?_
        refine WL.nil ?_
        repeat (first | refine CW.seq ?_ | refine CW.block ?_ | refine CW.skip ?_ | refine CW.exit ?_ | refine CW.condT rfl ?_ | refine CW.condF rfl ?_)
        refine CW.reg ?_
        refine WL.val rfl (run_move) ?_
        refine WL.val rfl (run_move) ?_
        first | refine WL.val rfl (run_ixSlN Try.underlying22 ty48 rfl rfl (by omega)) ?_ | refine WL.val rfl (run_ixSl Try.underlying22 ty48 rfl rfl (by omega)) ?_
        refine WL.val rfl (run_loadN ty48 rfl hyl (hax hs)) ?_
        first | refine WL.storeAll ty48 rfl rfl ((hyl)) ((l[k]).cells1) hs (by first | rfl | assumption) (fun w hs => ?_) | refine WL.storeAll_1 ty48 rfl rfl ((hyl)) ((l[k]).cells1) hs (by first | rfl | assumption) (fun w hs => ?_) | refine WL.storeAll_2 ty48 rfl rfl ((hyl)) ((l[k]).cells1) hs (by first | rfl | assumption) (fun w hs => ?_) | refine WL.storeAll_3 ty48 rfl rfl ((hyl)) ((l[k]).cells1) hs (by first | rfl | assumption) (fun w hs => ?_) | refine WL.storeAll_4 ty48 rfl rfl ((hyl)) ((l[k]).cells1) hs (by first | rfl | assumption) (fun w hs => ?_) | refine WL.storeAll ty48 rfl rfl ((hyl)) ((l[k]).cells1) hs (by first | rfl | assumption) (fun w hs => ?_)
        refine WL.val rfl (run_assign) ?_
        refine WL.nil ?_
        repeat (first | refine CW.seq ?_ | refine CW.block ?_ | refine CW.skip ?_ | refine CW.exit ?_ | refine CW.condT rfl ?_ | refine CW.condF rfl ?_)
        refine CW.ret ?_
        refine fin_cellTmp rfl rfl (run_loadVarN ty48 hyl hs.a0) ?_
        exact ⟨by rw [hfr]; rfl, hs.clear⟩
      · rw [if_neg hn] at hfr
        repeat (first | refine CW.seq ?_ | refine CW.block ?_ | refine CW.skip ?_ | refine CW.exit ?_ | refine CW.condT rfl ?_ | refine CW.condF rfl ?_)
        refine CW.reg ?_
        refine WL.val rfl (run_move) ?_
        refine WL.val rfl (run_move) ?_
        first | refine WL.val rfl (run_ixSlN Try.underlying22 ty48 rfl rfl (by omega)) ?_ | refine WL.val rfl (run_ixSl Try.underlying22 ty48 rfl rfl (by omega)) ?_
        refine WL.val rfl (run_field (o' := 0) Try.underlying48 rfl ty9 rfl rfl rfl) ?_
        refine WL.val rfl (run_load1 ty9 rfl ((hax hs).cell (j := 0) rfl)) ?_
        refine WL.val rfl (run_move) ?_
        refine WL.val rfl (run_bF (run_strEq rfl rfl) (by exact hn)) ?_
        refine WL.nil ?_
        repeat (first | refine CW.seq ?_ | refine CW.block ?_ | refine CW.skip ?_ | refine CW.exit ?_ | refine CW.condT rfl ?_ | refine CW.condF rfl ?_)
        refine CW.reg ?_
        refine WL.val rfl (run_move) ?_
        refine WL.val rfl (run_add (c := ((k + 1 : Nat) : Int)) rfl rfl (by omega) (by omega)) ?_
        refine WL.val rfl (run_assign) ?_
        refine WL.nil ?_
        repeat (first | refine CW.seq ?_ | refine CW.block ?_ | refine CW.skip ?_ | refine CW.exit ?_)
        refine (show _ ∧ _ from ⟨rfl, _, ?_, k + 1, by omega, rfl, hfr, hs, rfl, rfl, rfl, rfl, trivial⟩)
        omega
    · obtain rfl : k = l.length := by omega
      rw [List.drop_length] at hfr
      repeat (first | refine CW.seq ?_ | refine CW.block ?_ | refine CW.skip ?_ | refine CW.exit ?_ | refine CW.condT rfl ?_ | refine CW.condF rfl ?_)
      refine CW.reg ?_
      refine WL.val rfl (run_build rfl (bld_zE _)) ?_
      first | refine WL.storeAll ty48 rfl rfl (by first | rfl | assumption) (by first | assumption | exact Cells1.of_all rfl | exact Ent.cells1 _) hs (by first | rfl | assumption) (fun w hs => ?_) | refine WL.storeAll_1 ty48 rfl rfl (by first | rfl | assumption) (by first | assumption | exact Cells1.of_all rfl | exact Ent.cells1 _) hs (by first | rfl | assumption) (fun w hs => ?_) | refine WL.storeAll_2 ty48 rfl rfl (by first | rfl | assumption) (by first | assumption | exact Cells1.of_all rfl | exact Ent.cells1 _) hs (by first | rfl | assumption) (fun w hs => ?_) | refine WL.storeAll_3 ty48 rfl rfl (by first | rfl | assumption) (by first | assumption | exact Cells1.of_all rfl | exact Ent.cells1 _) hs (by first | rfl | assumption) (fun w hs => ?_) | refine WL.storeAll_4 ty48 rfl rfl (by first | rfl | assumption) (by first | assumption | exact Cells1.of_all rfl | exact Ent.cells1 _) hs (by first | rfl | assumption) (fun w hs => ?_) | refine WL.storeAll ty48 rfl rfl (by first | rfl | assumption) (by first | assumption | exact Cells1.of_all rfl | exact Ent.cells1 _) hs (by first | rfl | assumption) (fun w hs => ?_)
      refine WL.val rfl (run_assign) ?_
      refine WL.nil ?_
      repeat (first | refine CW.seq ?_ | refine CW.block ?_ | refine CW.skip ?_ | refine CW.exit ?_ | refine CW.condT rfl ?_ | refine CW.condF rfl ?_)
      refine CW.ret ?_
      refine fin_cellTmp rfl rfl (run_loadVarN ty48 rfl hs.a0) ?_
      exact ⟨by rw [hfr]; rfl, hs.clear⟩
end Go.Gx
