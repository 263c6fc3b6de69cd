/- The law's 'known'. -/
import Derived.Test.YtkdmkjlchlcebaaDec3
import Derived.Test.YtkdmkjlchlcebaaRef3
namespace Go.Gx
open Go.Proofs
set_option linter.unusedVariables false
set_option linter.unusedSimpArgs false
set_option maxRecDepth 100000

def kEnt : Ent := ⟨[97], 1, 7 :: List.replicate 31 0⟩
def kBytes : List UInt8 := [1, 1, 1, 1, 97, 1, 7]
theorem kEnt_ok : kEnt.ok := ⟨rfl, by decide, by decide, by decide⟩
theorem k_enc : encB [kEnt] = kBytes := by decide
theorem k_check : checkE [kEnt] = 0 := by decide
theorem k_decE : decE kBytes = 0 := by decide
theorem k_decL : decL kBytes = [kEnt] := by decide
theorem bld_dig7 (w : World) : (Instr.build 46 #[(0, .int .u8 7)]).run Try.prog w = .ok (.agg (u8s (7 :: List.replicate 31 0)).toArray) w := by kernel_rfl
theorem bld_kEnt (w : World) : (Instr.build 48 #[(0, str [97]), (1, .int .i64 1), (2, .agg (u8s (7 :: List.replicate 31 0)).toArray)]).run Try.prog w = .ok (.agg kEnt.cells.toArray) w := by kernel_rfl

theorem k_filled : Filled 1 7 [.int .u8 0] [(0, .int .u8 1), (1, .int .u8 1), (2, .int .u8 1), (3, .int .u8 1), (4, .int .u8 97), (5, .int .u8 1), (6, .int .u8 7)] (u8s kBytes) := by
  simp [Filled, Instr.fill, Value.cells, List.replicate, u8s, kBytes]

theorem OwnSl.es {E : TypeId} {v : Value} {l : List Ent} {Lv L : List (Nat × Obj)} {S : List Nat} {w0 w : World} (h : OwnSl E 34 v l.length (rows l) Lv) (ho : Oks l) (hl : l.length ≤ 9223372036854775807) (hs : Step S (Lv ++ L) w0 w) : Es w v l := ⟨h.sl hs, ho, hl⟩

theorem known_spec (w0 : World) : Calls Try.prog 11 #[] w0 (Ret0 (.bool true) w0) := by
  have hs : Step [] [] w0 w0 := Step.refl w0
  have hk1 : Oks [kEnt] := Oks.one kEnt_ok
  have hlen1 : kEnt.cells.length = 34 := rfl
  refine calls (n := 36) Try.func11 rfl rfl rfl ?_
  repeat (first | refine CW.seq ?_ | refine CW.block ?_ | refine CW.skip ?_ | refine CW.label ?_ | refine CW.exit ?_ | refine CW.condT rfl ?_ | refine CW.condF rfl ?_)
  refine CW.reg ?_
  refine WL.val rfl (run_assign) ?_
  refine WL.nil ?_
  repeat (first | refine CW.seq ?_ | refine CW.block ?_ | refine CW.skip ?_ | refine CW.label ?_ | refine CW.exit ?_ | refine CW.condT rfl ?_ | refine CW.condF rfl ?_)
  refine CW.reg ?_
  refine WL.val rfl (run_build rfl (bld_dig7 _)) ?_
  refine WL.val rfl (run_build rfl (bld_kEnt _)) ?_
  refine WL.alloc ty48 rfl hs (fun b1 w hs => ?_)
  refine WL.storeAll ty48 rfl rfl (rfl) (kEnt.cells1) (hs) rfl (fun w hs => ?_)
  refine WL.nil ?_
  repeat (first | refine CW.seq ?_ | refine CW.block ?_ | refine CW.skip ?_ | refine CW.label ?_ | refine CW.exit ?_ | refine CW.condT rfl ?_ | refine CW.condF rfl ?_)
  refine CW.reg ?_
  refine WL.val rfl (run_loadN ty48 rfl rfl hs.a0) ?_
  refine WL.buildSlice (cs := kEnt.cells) Try.underlying22 ty48 rfl (by decide) rfl (filled1 rfl rfl) rfl hs (fun b10 w hs => ?_)
  refine WL.enter rfl (run_call en16 rfl rfl) (encode_ok (l := [kEnt]) _ ⟨.own1 hs rfl, hk1, by decide⟩ k_check) ?_
  rintro e w ⟨p, Lp, rfl, hp, hq⟩
  refine ⟨_, rfl, ?_⟩
  refine WL.val rfl (run_move) ?_
  refine WL.val rfl (run_extract rfl rfl) ?_
  refine WL.val rfl (run_extract rfl rfl) ?_
  refine WL.val rfl (run_assign) ?_
  refine WL.val rfl (run_assign) ?_
  refine WL.nil ?_
  replace hs := (hs.call0 hq).append_comm
  rw [k_enc] at hp
  repeat (first | refine CW.seq ?_ | refine CW.block ?_ | refine CW.skip ?_ | refine CW.label ?_ | refine CW.exit ?_ | refine CW.condT rfl ?_ | refine CW.condF rfl ?_)
  refine CW.reg ?_
  refine WL.buildSlice (cs := u8s kBytes) Try.underlying29 ty5 rfl (by decide) rfl k_filled rfl hs (fun b15 w hs => ?_)
  refine WL.enter rfl (run_call en19 rfl rfl) (decode_at (bs := kBytes) _ (.own1 hs rfl) (by decide)) ?_
  rintro e w ⟨u, Lu, rfl, hu, huo, hul, hq2⟩
  refine ⟨_, rfl, ?_⟩
  refine WL.val rfl (run_move) ?_
  refine WL.val rfl (run_extract rfl rfl) ?_
  refine WL.val rfl (run_extract rfl rfl) ?_
  refine WL.val rfl (run_assign) ?_
  refine WL.val rfl (run_assign) ?_
  refine WL.nil ?_
  replace hs := (hs.call0 hq2).append_comm
  rw [k_decL] at hu huo hul
  rw [k_decE]
  have hpu := Step.dropL (L1 := [_, _, _]) hs
  repeat (first | refine CW.seq ?_ | refine CW.block ?_ | refine CW.skip ?_ | refine CW.label ?_ | refine CW.exit ?_ | refine CW.condT rfl ?_ | refine CW.condF rfl ?_)
  refine CW.reg ?_
  refine WL.val rfl (run_move) ?_
  refine WL.val rfl (run_bT (run_eql rfl rfl) (by rfl)) ?_
  refine WL.val rfl (run_move) ?_
  refine WL.yes rfl rfl rfl ?_
  refine WL.val rfl (run_move) ?_
  refine WL.yes rfl rfl rfl ?_
  refine WL.val rfl (run_bT (run_eql rfl rfl) (by rfl)) ?_
  first | refine WL.val rfl (run_pickT rfl) ?_ | refine WL.val rfl (run_pickF rfl) ?_
  refine WL.val rfl (run_move) ?_
  refine WL.yes rfl rfl rfl ?_
  refine WL.val rfl (run_move) ?_
  refine WL.yes rfl rfl rfl ?_
  refine WL.val rfl (run_toString Try.underlying29 Try.underlying9 Try.underlying5 rfl (hp.sl hpu)) ?_
  refine WL.yes rfl rfl rfl ?_
  refine WL.val rfl (run_bT (run_strEq rfl rfl) (by rfl)) ?_
  first | refine WL.val rfl (run_pickT rfl) ?_ | refine WL.val rfl (run_pickF rfl) ?_
  refine WL.val rfl (run_move) ?_
  refine WL.yes rfl rfl rfl ?_
  refine WL.val rfl (run_move) ?_
  refine WL.yes rfl rfl rfl ?_
  refine WL.val rfl (run_loadN ty48 rfl rfl hs.a2) ?_
  refine WL.yes rfl rfl rfl ?_
  refine WL.buildSlice (cs := kEnt.cells) Try.underlying22 ty48 rfl (by decide) rfl (filled1 rfl rfl) rfl hs (fun b33 w hs => ?_)
  refine WL.yes rfl rfl rfl ?_
  refine WL.enter rfl (run_call en22 rfl rfl) (same_spec (l := [kEnt]) (m := [kEnt]) _ (hu.es huo (by decide) (Step.append_comm (Step.dropL (L1 := [_, _, _, _]) hs))) ⟨.own1 hs rfl, hk1, by decide⟩) ?_
  rintro e w ⟨rfl, hq3⟩
  refine ⟨_, rfl, ?_⟩
  rw [decide_eq_true (rfl : [kEnt] = [kEnt])]
  first | refine WL.val rfl (run_pickT rfl) ?_ | refine WL.val rfl (run_pickF rfl) ?_
  refine WL.val rfl (run_assign) ?_
  refine WL.nil ?_
  repeat (first | refine CW.seq ?_ | refine CW.block ?_ | refine CW.skip ?_ | refine CW.label ?_ | refine CW.exit ?_ | refine CW.condT rfl ?_ | refine CW.condF rfl ?_)
  refine CW.ret ?_
  refine fin_ret1 rfl ?_
  exact ⟨rfl, (hs.call0 hq3).clear⟩
end Go.Gx
