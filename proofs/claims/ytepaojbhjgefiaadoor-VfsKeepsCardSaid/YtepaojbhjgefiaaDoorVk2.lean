/- Files in memory: New of nothing. -/
import Derived.Test.YtepaojbhjgefiaaDoorVk1
namespace Go.Gx
open Go.Proofs
set_option linter.unusedVariables false
set_option linter.unusedSimpArgs false
set_option maxRecDepth 100000
section
variable {α : Type}
theorem perm_k1 {a b c d e : α} : [a, b, c, d, e].Perm [e, a, d, b, c] := by
  classical
  exact List.perm_iff_count.2 fun x => by
    simp only [List.count_cons, List.count_nil]
    omega
end
theorem check_nil (w0 : World) : Calls Tryd.prog 27 #[.slice none 0 0] w0 fun e w' => ∃ L', e = .returned (.int .i64 0) ∧ Step [] L' w0 w' := by
  have hs : Step [] [] w0 w0 := Step.refl w0
  refine calls (n := 96) Tryd.func27 rfl rfl rfl ?_
  repeat (first | refine CW.seq ?_ | refine CW.block ?_ | refine CW.skip ?_ | refine CW.label ?_ | refine CW.exit ?_ | refine CW.condT rfl ?_ | refine CW.condF rfl ?_)
  refine CW.reg ?_
  refine WL.val rfl (run_assign) ?_
  refine WL.nil ?_
  repeat (first | refine CW.seq ?_ | refine CW.block ?_ | refine CW.skip ?_ | refine CW.label ?_ | refine CW.exit ?_ | refine CW.condT rfl ?_ | refine CW.condF rfl ?_)
  refine CW.reg ?_
  refine WL.val rfl (run_move) ?_
  refine WL.val rfl (run_lenSl Tryd.underlying40 rfl) ?_
  refine WL.val rfl (run_bF (run_geq rfl rfl) (by omega)) ?_
  refine WL.nil ?_
  repeat (first | refine CW.seq ?_ | refine CW.block ?_ | refine CW.skip ?_ | refine CW.label ?_ | refine CW.exit ?_)
  first | refine CW.condP rfl (fun h => ?_) (fun h => ?_) | refine CW.cond rfl (fun h => ?_) (fun h => ?_)
  · cases h
  repeat (first | refine CW.seq ?_ | refine CW.block ?_ | refine CW.skip ?_ | refine CW.label ?_ | refine CW.exit ?_ | refine CW.condT rfl ?_ | refine CW.condF rfl ?_)
  refine CW.reg ?_
  refine WL.makeMapS rfl hs (fun b15 w hs => ?_)
  refine WL.mapInsS (d := []) Tryd.underlying109 Tryd.underlying9 rfl rfl rfl (hs) (fun w hs => ?_)
  refine WL.val rfl (run_move) ?_
  refine WL.val rfl (run_assign) ?_
  refine WL.nil ?_
  repeat (first | refine CW.seq ?_ | refine CW.block ?_ | refine CW.skip ?_ | refine CW.label ?_ | refine CW.exit ?_ | refine CW.condT rfl ?_ | refine CW.condF rfl ?_)
  refine CW.reg ?_
  refine WL.val rfl (run_assign) ?_
  refine WL.nil ?_
  repeat (first | refine CW.seq ?_ | refine CW.block ?_ | refine CW.skip ?_ | refine CW.label ?_ | refine CW.exit ?_ | refine CW.condT rfl ?_ | refine CW.condF rfl ?_)
  refine CW.reg ?_
  refine WL.val rfl (run_move) ?_
  refine WL.val rfl (run_lenSl Tryd.underlying40 rfl) ?_
  refine WL.val rfl (run_move) ?_
  refine WL.nil ?_
  repeat (first | refine CW.seq ?_ | refine CW.block ?_ | refine CW.skip ?_ | refine CW.label ?_ | refine CW.exit ?_ | refine CW.condT rfl ?_ | refine CW.condF rfl ?_)
  refine CW.loop (fun z f w' => z = 0 ∧ ∃ L, Step [] L w0 w' ∧ Holds f [(4, .int .i64 0), (18, .int .i64 0), (19, .int .i64 0)]) (m := 0) ?_ ?_
  · exact ⟨rfl, _, hs, rfl, rfl, rfl, trivial⟩
  · clear hs
    rintro z f w ⟨rfl, L, hs, hf⟩
    have hobt := hf.chain
    obtain ⟨g, rfl⟩ := hobt
    repeat (first | refine CW.seq ?_ | refine CW.block ?_ | refine CW.skip ?_ | refine CW.label ?_ | refine CW.exit ?_ | refine CW.condT rfl ?_ | refine CW.condF rfl ?_)
    refine CW.reg ?_
    refine WL.val rfl (run_bF (run_lss rfl rfl) (by omega)) ?_
    refine WL.nil ?_
    repeat (first | refine CW.seq ?_ | refine CW.block ?_ | refine CW.skip ?_ | refine CW.label ?_ | refine CW.exit ?_)
    first | refine CW.condP rfl (fun h => ?_) (fun h => ?_) | refine CW.cond rfl (fun h => ?_) (fun h => ?_)
    · cases h
    repeat (first | refine CW.seq ?_ | refine CW.block ?_ | refine CW.skip ?_ | refine CW.label ?_ | refine CW.exit ?_ | refine CW.condT rfl ?_ | refine CW.condF rfl ?_)
    repeat (first | refine CW.seq ?_ | refine CW.block ?_ | refine CW.skip ?_ | refine CW.label ?_ | refine CW.exit ?_ | refine CW.condT rfl ?_ | refine CW.condF rfl ?_)
    refine CW.reg ?_
    refine WL.val rfl (run_move) ?_
    refine WL.val rfl (run_bF (run_gtr rfl rfl) (by omega)) ?_
    refine WL.nil ?_
    repeat (first | refine CW.seq ?_ | refine CW.block ?_ | refine CW.skip ?_ | refine CW.label ?_ | refine CW.exit ?_)
    first | refine CW.condP rfl (fun h => ?_) (fun h => ?_) | refine CW.cond rfl (fun h => ?_) (fun h => ?_)
    · cases h
    repeat (first | refine CW.seq ?_ | refine CW.block ?_ | refine CW.skip ?_ | refine CW.label ?_ | refine CW.exit ?_ | refine CW.condT rfl ?_ | refine CW.condF rfl ?_)
    refine CW.reg ?_
    refine WL.val rfl (run_assign) ?_
    refine WL.nil ?_
    repeat (first | refine CW.seq ?_ | refine CW.block ?_ | refine CW.skip ?_ | refine CW.label ?_ | refine CW.exit ?_ | refine CW.condT rfl ?_ | refine CW.condF rfl ?_)
    refine CW.ret ?_
    refine fin_ret1 rfl ?_
    exact ⟨_, rfl, hs⟩
def newV (a b c : Int) : VS := ⟨[], [([], 0)], [], min a 67108864, min b 65535, min c 64, 0, 0⟩
theorem bld_dir0 (w : World) : (Instr.build 77 #[]).run Tryd.prog w = .ok (.agg #[str [], .int .i64 ((0 : Nat) : Int)]) w := by kernel_rfl
theorem bld_FS (mf md : Nat) (a b c : Int) (w : World) : (Instr.build 81 #[(0, .map (some mf)), (1, .map (some md)), (3, .agg (quoC a b c).toArray)]).run Tryd.prog w = .ok (.agg #[.map (some mf), .map (some md), .slice none 0 0, .int .i64 a, .int .i64 b, .int .i64 c, .int .i64 ((0 : Nat) : Int), .int .i64 ((0 : Nat) : Int)]) w := by kernel_rfl
theorem newV_rep {mf md bd bf : Nat} {a b c : Int} : VRep bf (newV a b c) [(bf, blk 81 (fsC mf md (.slice none 0 0) (newV a b c))), (mf, mapS [] 0), (md, mapS [([], .pointer (some ⟨bd, 0, none⟩), 0)] 1), (bd, blk 77 [str [], .int .i64 ((0 : Nat) : Int)])] :=
  ⟨mf, md, .slice none 0 0, [], [], [⟨[], bd, 0⟩], [], ⟨rfl, OwnSl.nil _ _, fun r h => (by cases h), fun h hm => (by cases hm), rfl, rfl, rfl⟩⟩
theorem new_nil {a b c : Int} (ha : 0 ≤ a) (hb : 0 ≤ b) (w0 : World) : Calls Tryd.prog 8 #[.slice none 0 0, .agg (quoC a b c).toArray] w0 fun e w' => ∃ bf L', e = .returned (.tuple #[.pointer (some ⟨bf, 0, none⟩), .int .i64 0]) ∧ VRep bf (newV a b c) L' ∧ Step [] L' w0 w' := by
  have hs : Step [] [] w0 w0 := Step.refl w0
  refine calls (n := 63) Tryd.func8 rfl rfl rfl ?_
  repeat (first | refine CW.seq ?_ | refine CW.block ?_ | refine CW.skip ?_ | refine CW.label ?_ | refine CW.exit ?_ | refine CW.condT rfl ?_ | refine CW.condF rfl ?_)
  refine CW.reg ?_
  refine WL.box (cs := (quoC a b c)) rfl rfl rfl hs (fun b3 w hs => ?_)
  refine WL.val rfl (run_assign) ?_
  refine WL.val rfl (run_assign) ?_
  refine WL.nil ?_
  repeat (first | refine CW.seq ?_ | refine CW.block ?_ | refine CW.skip ?_ | refine CW.label ?_ | refine CW.exit ?_ | refine CW.condT rfl ?_ | refine CW.condF rfl ?_)
  refine CW.reg ?_
  refine WL.val rfl (run_move) ?_
  refine WL.enter rfl (run_call en27 rfl rfl) (check_nil _) ?_
  rintro e w ⟨L1, rfl, hq⟩
  refine ⟨_, rfl, ?_⟩
  replace hs := (hs.call0 hq).dropL
  refine WL.val rfl (run_assign) ?_
  refine WL.nil ?_
  repeat (first | refine CW.seq ?_ | refine CW.block ?_ | refine CW.skip ?_ | refine CW.label ?_ | refine CW.exit ?_ | refine CW.condT rfl ?_ | refine CW.condF rfl ?_)
  refine CW.reg ?_
  refine WL.val rfl (run_move) ?_
  refine WL.val rfl (run_bF (run_neq rfl rfl) (by decide)) ?_
  refine WL.nil ?_
  repeat (first | refine CW.seq ?_ | refine CW.block ?_ | refine CW.skip ?_ | refine CW.label ?_ | refine CW.exit ?_)
  first | refine CW.condP rfl (fun h => ?_) (fun h => ?_) | refine CW.cond rfl (fun h => ?_) (fun h => ?_)
  · cases h
  repeat (first | refine CW.seq ?_ | refine CW.block ?_ | refine CW.skip ?_ | refine CW.label ?_ | refine CW.exit ?_ | refine CW.condT rfl ?_ | refine CW.condF rfl ?_)
  refine CW.reg ?_
  refine WL.makeMapS rfl hs (fun b15 w hs => ?_)
  refine WL.makeMapS rfl hs (fun b16 w hs => ?_)
  refine WL.val rfl (run_build rfl (bld_dir0 _)) ?_
  refine WL.box (cs := [str [], .int .i64 ((0 : Nat) : Int)]) rfl rfl rfl hs (fun b18 w hs => ?_)
  refine WL.mapInsS (d := []) Tryd.underlying78 Tryd.underlying9 rfl rfl rfl ((hs.perm (List.Perm.swap _ _ _))) (fun w hs => ?_)
  refine WL.val rfl (run_move) ?_
  refine WL.val rfl (run_field (o' := 0) Tryd.underlying30 rfl ty3 rfl rfl rfl) ?_
  refine WL.val rfl (run_load1 ty3 rfl (hs.c3 (v := .int .i64 a) rfl)) ?_
  refine WL.val rfl (run_minE rfl rfl rfl) ?_
  refine WL.val rfl (run_field (o' := 1) Tryd.underlying30 rfl ty3 rfl rfl rfl) ?_
  refine WL.val rfl (run_load1 ty3 rfl (hs.c3 (v := .int .i64 b) rfl)) ?_
  refine WL.val rfl (run_minE rfl rfl rfl) ?_
  refine WL.val rfl (run_field (o' := 2) Tryd.underlying30 rfl ty3 rfl rfl rfl) ?_
  refine WL.val rfl (run_load1 ty3 rfl (hs.c3 (v := .int .i64 c) rfl)) ?_
  refine WL.val rfl (run_minE rfl rfl rfl) ?_
  refine WL.val rfl (run_build rfl ((bld_quo _ _ _ _))) ?_
  refine WL.val rfl (run_build rfl (bld_FS _ _ _ _ _ _)) ?_
  refine WL.box (cs := (fsC b15 b16 (.slice none 0 0) (newV a b c))) rfl rfl rfl hs (fun b31 w hs => ?_)
  refine WL.val rfl (run_assign) ?_
  refine WL.nil ?_
  repeat (first | refine CW.seq ?_ | refine CW.block ?_ | refine CW.skip ?_ | refine CW.label ?_ | refine CW.exit ?_ | refine CW.condT rfl ?_ | refine CW.condF rfl ?_)
  refine CW.reg ?_
  refine WL.val rfl (run_move) ?_
  refine WL.val rfl (run_lenSl Tryd.underlying40 rfl) ?_
  refine WL.val rfl (run_move) ?_
  refine WL.nil ?_
  replace hs : Step [] [(b31, blk 81 (fsC b15 b16 (.slice none 0 0) (newV a b c))), (b16, mapS [([], .pointer (some ⟨b18, 0, none⟩), 0)] 1), (b18, blk 77 [str [], .int .i64 ((0 : Nat) : Int)]), (b15, mapS [] 0), (b3, blk 30 (quoC a b c))] w0 w := hs
  replace hs := (hs.perm perm_k1).tail
  repeat (first | refine CW.seq ?_ | refine CW.block ?_ | refine CW.skip ?_ | refine CW.label ?_ | refine CW.exit ?_ | refine CW.condT rfl ?_ | refine CW.condF rfl ?_)
  refine CW.loop (fun z f w' => z = 0 ∧ Step [] [(b31, blk 81 (fsC b15 b16 (.slice none 0 0) (newV a b c))), (b15, mapS [] 0), (b16, mapS [([], .pointer (some ⟨b18, 0, none⟩), 0)] 1), (b18, blk 77 [str [], .int .i64 ((0 : Nat) : Int)])] w0 w' ∧ Holds f [(0, .slice none 0 0), (7, .pointer (some ⟨b31, 0, none⟩)), (33, .int .i64 0), (34, .int .i64 0)]) (m := 0) ?_ ?_
  · exact ⟨rfl, hs, rfl, rfl, rfl, rfl, trivial⟩
  · clear hs
    rintro z f w ⟨rfl, hs, hf⟩
    have hobt := hf.chain
    obtain ⟨g, rfl⟩ := hobt
    repeat (first | refine CW.seq ?_ | refine CW.block ?_ | refine CW.skip ?_ | refine CW.label ?_ | refine CW.exit ?_ | refine CW.condT rfl ?_ | refine CW.condF rfl ?_)
    refine CW.reg ?_
    refine WL.val rfl (run_bF (run_lss rfl rfl) (by omega)) ?_
    refine WL.nil ?_
    repeat (first | refine CW.seq ?_ | refine CW.block ?_ | refine CW.skip ?_ | refine CW.label ?_ | refine CW.exit ?_)
    first | refine CW.condP rfl (fun h => ?_) (fun h => ?_) | refine CW.cond rfl (fun h => ?_) (fun h => ?_)
    · cases h
    repeat (first | refine CW.seq ?_ | refine CW.block ?_ | refine CW.skip ?_ | refine CW.label ?_ | refine CW.exit ?_ | refine CW.condT rfl ?_ | refine CW.condF rfl ?_)
    repeat (first | refine CW.seq ?_ | refine CW.block ?_ | refine CW.skip ?_ | refine CW.label ?_ | refine CW.exit ?_ | refine CW.condT rfl ?_ | refine CW.condF rfl ?_)
    refine CW.quietT (l1 := [_, _, _, _, _, _, _, _, _, _]) (l2 := [_]) 10 rfl mixedP rfl (by kernel_rfl) hs ?_
    refine QL.val rfl (fun w hs => run_move) ?_
    refine QL.val rfl (fun w hs => run_nilCheck rfl) ?_
    refine QL.val rfl (fun w hs => run_field (o' := 6) Tryd.underlying81 rfl ty3 rfl rfl rfl) ?_
    refine QL.val rfl (fun w hs => run_load1 ty3 rfl (hs.c0 (v := .int .i64 ((0 : Nat) : Int)) rfl)) ?_
    refine QL.val rfl (fun w hs => run_move) ?_
    refine QL.val rfl (fun w hs => run_nilCheck rfl) ?_
    refine QL.val rfl (fun w hs => run_field (o' := 3) Tryd.underlying81 rfl ty30 rfl rfl rfl) ?_
    refine QL.val rfl (fun w hs => run_field (o' := 0) Tryd.underlying30 rfl ty3 rfl rfl rfl) ?_
    refine QL.val rfl (fun w hs => run_load1 ty3 rfl (hs.c0 (v := .int .i64 (min a 67108864)) rfl)) ?_
    refine QL.val rfl (fun w hs => run_bF (run_gtr rfl rfl) (by omega)) ?_
    refine QL.nil (fun w hs => ?_)
    refine WL.val rfl (run_assign) ?_
    refine WL.nil ?_
    repeat (first | refine CW.seq ?_ | refine CW.block ?_ | refine CW.skip ?_ | refine CW.label ?_ | refine CW.exit ?_)
    first | refine CW.condP rfl (fun h => ?_) (fun h => ?_) | refine CW.cond rfl (fun h => ?_) (fun h => ?_)
    · cases h
    repeat (first | refine CW.seq ?_ | refine CW.block ?_ | refine CW.skip ?_ | refine CW.label ?_ | refine CW.exit ?_ | refine CW.condT rfl ?_ | refine CW.condF rfl ?_)
    refine CW.reg ?_
    refine WL.val rfl (run_move) ?_
    refine WL.val rfl (run_lenSl Tryd.underlying40 rfl) ?_
    refine WL.val rfl (run_move) ?_
    refine WL.val rfl (run_nilCheck rfl) ?_
    refine WL.val rfl (run_field (o' := 3) Tryd.underlying81 rfl ty30 rfl rfl rfl) ?_
    refine WL.val rfl (run_field (o' := 1) Tryd.underlying30 rfl ty3 rfl rfl rfl) ?_
    refine WL.val rfl (run_load1 ty3 rfl (hs.c0 (v := .int .i64 (min b 65535)) rfl)) ?_
    refine WL.val rfl (run_bF (run_gtr rfl rfl) (by omega)) ?_
    refine WL.val rfl (run_assign) ?_
    refine WL.nil ?_
    repeat (first | refine CW.seq ?_ | refine CW.block ?_ | refine CW.skip ?_ | refine CW.label ?_ | refine CW.exit ?_)
    first | refine CW.condP rfl (fun h => ?_) (fun h => ?_) | refine CW.cond rfl (fun h => ?_) (fun h => ?_)
    · cases h
    repeat (first | refine CW.seq ?_ | refine CW.block ?_ | refine CW.skip ?_ | refine CW.label ?_ | refine CW.exit ?_ | refine CW.condT rfl ?_ | refine CW.condF rfl ?_)
    refine CW.reg ?_
    refine WL.val rfl (run_move) ?_
    refine WL.val rfl (run_assign) ?_
    refine WL.val rfl (run_assign) ?_
    refine WL.nil ?_
    repeat (first | refine CW.seq ?_ | refine CW.block ?_ | refine CW.skip ?_ | refine CW.label ?_ | refine CW.exit ?_ | refine CW.condT rfl ?_ | refine CW.condF rfl ?_)
    refine CW.ret ?_
    refine fin_ret2 rfl ?_
    exact ⟨b31, _, rfl, newV_rep, hs⟩
end Go.Gx
